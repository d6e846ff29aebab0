/- Texts of the proof, joined and shortened. -/
import Derived.Test.YtiigfbapjeefbaaGreatDoorPk3
import Derived.Test.YtiigfbapjeefbaaGreatDoorProg
import Derived.WalkKit
import Derived.BigCall
set_option linter.unusedVariables false
set_option linter.unusedSimpArgs false
set_option maxRecDepth 100000
namespace Go.Am
open Go Go.RowKit
abbrev av:=List UInt8
abbrev bq (x:Int):Int:=IntKind.i64.wrap x
theorem bind_some {α β:Type} {x:Option α} {f:α->Option β} {r:β} (h:(x>>=f)=some r):∃a,x=some a/\f a=some r:=by
 cases x with
 | none=>cases h
 | some a=>exact⟨a,rfl,h⟩
def idx {α:Type} [Inhabited α] (l:List α) (i:Int):Option α:=if 0<=i/\i<(l.length:Int)then some (l.getD i.toNat default)else none
def lz (s:av) (i:Int):Option UInt8:=if 0<=i/\i<(s.length:Int)then some (s.getD i.toNat 0)else none
def By (s:av) (lo hi:Int):Option av:=if 0<=lo/\lo<=hi/\hi<=(s.length:Int)then some ((s.take hi.toNat).drop lo.toNat)else none
def jQ (s:av) (lo:Int):Option av:=if 0<=lo/\lo<=(s.length:Int)then some (s.drop lo.toNat)else none
def sto (s:av) (hi:Int):Option av:=if 0<=hi/\hi<=(s.length:Int)then some (s.take hi.toNat)else none
def rG {α:Type} (s:List α) (lo:Int):Option (List α):=if 0<=lo/\lo<=(s.length:Int)then some (s.drop lo.toNat)else none
def Ny {α:Type} (s:List α) (hi:Int):Option (List α):=if 0<=hi/\hi<=(s.length:Int)then some (s.take hi.toNat)else none
def bx (a b:av):Option av:=if a.length+b.length<=4611686018427387904 then some (a++b)else none
def cD {α:Type} (bytes:Nat) (a b:List α):Option (List α):=if(a.length+b.length)*bytes<=140737488355328 then some (a++b)else none
def must (p:Prop) [Decidable p]:Option Unit:=if p then some ()else none
theorem dD {α:Type} {c:Prop} [Decidable c] {x r:α} (h:(if c then some x else none)=some r):c/\x=r:=by
 by_cases hc:c
 ·rw[At hc]at h;exact⟨hc,aRO h⟩
 ·rw[As hc]at h;cases h
theorem qN {p:Prop} [Decidable p] {u:Unit} (h:must p=some u):p:=(dD h).1
section
variable {α:Type}{x y r:α}
theorem aE9 {p:Prop} [Decidable p] (hb:decide p=true) (h:(if p then x else y)=r):x=r:=by rw[At (of_decide_eq_true hb)]at h;exact h
theorem aFa {p:Prop} [Decidable p] (hb:decide p=false) (h:(if p then x else y)=r):y=r:=by rw[As (of_decide_eq_false hb)]at h;exact h
theorem acI {β:Type} [BEq β] [LawfulBEq β] {a b:β} [Decidable (a=b)] (c:(a==b)=true) (h:(if a=b then x else y)=r):x=r:=by rw[At (eq_of_beq c)]at h;exact h
theorem acJ {β:Type} [BEq β] [LawfulBEq β] {a b:β} [Decidable (a=b)] (c:(a==b)=false) (h:(if a=b then x else y)=r):y=r:=by rw[As (ne_of_beq_false c)]at h;exact h
theorem aFb {β:Type} [BEq β] [LawfulBEq β] {a b:β} [Decidable (a=b)] (c:(a != b)=true) (h:(if a=b then x else y)=r):y=r:=acJ (by simpa[bne]using c) h
theorem aFc {β:Type} [BEq β] [LawfulBEq β] {a b:β} [Decidable (a=b)] (c:(a != b)=false) (h:(if a=b then x else y)=r):x=r:=acI (by simpa[bne]using c) h
theorem akK {b:Bool} (a:b=true) (h:(if b=true then x else y)=r):x=r:=by rw[At a]at h;exact h
theorem akL {b:Bool} (a:b=false) (h:(if b=true then x else y)=r):y=r:=by rw[As (by rw[a];decide)]at h;exact h
end
theorem akM {b:Bool} (h:(!b)=false):b=true:=by cases b<;>simp_all
theorem akN {b:Bool} (h:(!b)=true):b=false:=by cases b<;>simp_all
theorem acK {T F:Prop} (h:T):iq true T F:=.mk (λ_=>h) (λh=>by cases h)
theorem acL {T F:Prop} (h:F):iq false T F:=.mk (λh=>by cases h) (λ_=>h)
theorem U7 {b:Bool} {T F:Prop} (a:b=true) (h:T):iq b T F:=.mk (λ_=>h) (λh=>by rw[a]at h;cases h)
section
variable {α:Type}{l m:List α}{lo hi:Int}
theorem rH (h:rG l lo=some m):0<=lo/\lo<=(l.length:Int):=(dD h).1
theorem o9 (h:rG l lo=some m):m.length=l.length - lo.toNat:=by rw[<-(dD h).2];simp
theorem Ba (h:Ny l hi=some m):0<=hi/\hi<=(l.length:Int):=(dD h).1
theorem eN {b:Nat} {q:List α} (h:cD b l m=some q):(l.length+m.length)*b<=140737488355328:=(dD h).1
theorem dR {b:Nat} {q:List α} (h:cD b l m=some q):q.length=l.length+m.length:=by rw[<-(dD h).2];simp
theorem xL (h:Ny l hi=some m):m.length=hi.toNat:=by
 have a:=Ba h;rw[<-(dD h).2];simp;omega
end
def row {α:Type} (c:α->List PV) (l:List α):Nat->List PV:=λi=>(l.map c).getD i []
abbrev sl {α:Type} (sz:Nat) (c:α->List PV) (l:List α):PV:=.im sz l.length (row c l)
def cI (x:Int):List PV:=[.int .i64 x]
def arU (k:IntKind) (x:Int):List PV:=[.int k x]
def cB (x:UInt8):List PV:=[.int .u8 x.toNat]
def cT (x:Bool):List PV:=[.bool x]
def cS (x:av):List PV:=[.str x]
def cL {α:Type} (sz:Nat) (c:α->List PV) (x:List α):List PV:=[sl sz c x]
section
variable {α:Type}{c:α->List PV}{l m:List α}{x x':α}{i lo hi:Int}
theorem agy (x:Int):(cI x).all cP=true:=rfl
theorem U8 (k:IntKind) (x:Int):(arU k x).all cP=true:=rfl
theorem agz (x:UInt8):(cB x).all cP=true:=rfl
theorem agA (x:Bool):(cT x).all cP=true:=rfl
theorem agB (x:av):(cS x).all cP=true:=rfl
theorem agC {β:Type} (sz:Nat) (d:β->List PV) (x:List β):(cL sz d x).all cP=true:=rfl
theorem C5 (x:Int):cB (UInt8.ofNat (IntKind.u8.wrap x).toNat)=[.int .u8 (IntKind.u8.wrap x)]:=by
 have h:0<=IntKind.u8.wrap x/\IntKind.u8.wrap x<256:=by
  have:=IntKind.wrap_u8 x;omega
 unfold cB;congr 2;rw[UInt8.toNat_ofNat'];omega
theorem oW {k:Nat} (h:k<l.length):row c l k=c l[k]:=by unfold row;simp [aRb,h]
theorem EV {k:Nat} (h:l[k]? =some x):row c l k=c x:=by unfold row;simp [aRb,h]
theorem pW (hp:∀x,(c x).all cP=true) (k:Nat):(row c l k).all cP=true:=by
 by_cases h:k<l.length
 ·rw[oW h];exact hp _
 ·unfold row;simp [aRb,aRQ (show l.length<=k by omega)]
theorem tG {s:av} {k:Nat} (h:k<s.length):row cB s k=[.int .u8 (s.getD k 0).toNat]:=by
 rw[oW h];simp [cB,aRb,h]
theorem fW {s:av} {b:UInt8} (h:lz s i=some b):0<=i/\i<(s.length:Int):=(dD h).1
theorem fX {s:av} {b:UInt8} (h:lz s i=some b):s.getD i.toNat 0=b:=(dD h).2
theorem JN {s t:av} (h:By s lo hi=some t):0<=lo/\lo<=hi/\hi<=(s.length:Int):=(dD h).1
theorem JO {s t:av} (h:By s lo hi=some t):(s.take hi.toNat).drop lo.toNat=t:=(dD h).2
theorem ud {s t:av} (h:jQ s lo=some t):0<=lo/\lo<=(s.length:Int):=(dD h).1
theorem ue {s t:av} (h:jQ s lo=some t):s.drop lo.toNat=t:=(dD h).2
theorem JL {s t:av} (h:sto s hi=some t):0<=hi/\hi<=(s.length:Int):=(dD h).1
theorem JM {s t:av} (h:sto s hi=some t):s.take hi.toNat=t:=(dD h).2
theorem aB {s t u:av} (h:bx s t=some u):s.length+t.length<=4611686018427387904:=(dD h).1
theorem aC {s t u:av} (h:bx s t=some u):s++t=u:=(dD h).2
theorem pa (h:rG l lo=some m):∀i,i<m.length->row c m i=row c l (lo.toNat+i):=λi a=>by
 have hm:l[lo.toNat+i]? =some m[i]:=by
  rw[<-abL a,<-(dD h).2,aSs]
 rw[oW a,EV hm]
theorem C4 (h:Ny l hi=some m):∀i,i<m.length->row c m i=row c l i:=λi a=>by
 have b:=xL h
 have hm:l[i]? =some m[i]:=by
  rw[<-abL a,<-(dD h).2,aSQ,At aUE]
 rw[oW a,EV hm]
def xq (c:α->List PV) (f:Nat->List PV) (off:Nat) (l:List α):Prop:=∀i,i<l.length->f (off+i)=row c l i
theorem aR:xq c (row c l) 0 l:=λi _=>by rw[aRf]
theorem TP {f:Nat->List PV} {off:Nat} (hs:xq c f off l) (h:Ny l hi=some m):xq c f off m:=λi a=>by
 have b:=Ba h;have d:=xL h;rw[C4 h i a];exact hs _ aUE
theorem sM {s:av} {f:Nat->List PV} {off n:Nat} (hs:xq cB f off s) (a:s.length=n):∀i,i<n->f (off+i)=[.int .u8 (s.getD i 0).toNat]:=λi hi=>by
 subst a;rw[hs i hi];exact tG hi
theorem dY {b:Nat} {q:List α} {f g:Nat->List PV} {off:Nat} (h:cD b l m=some q) (hf:xq c f off l) (hg:∀i,i<m.length->g i=row c m i):
  ∀i,i<q.length->oG (bif Nat.blt i l.length then f (off+i)else g (i - l.length)) (row c q i):=λi d=>by
 have j:=dR h;have e:q=l++m:=(dD h).2.symm;subst e;by_cases a:i<l.length
 ·rw[acM a,hf i a,oW d,oW a,aSH a];exact oG.refl _
 ·rw[acN aUE,hg _ aUE,oW d,oW aUE,aSO aUE];exact oG.refl _
theorem RI:∀i,i<m.length->row c m i=row c m i:=λ_ _=>rfl
theorem gu {f:Nat->List PV} {off:Nat} (hs:xq c f off m):∀i,i<m.length->f (off+i)=row c m i:=hs
theorem YO {f:Nat->List PV} {off:Nat} (hs:xq c f off m):∀i,i<m.length->oG (f (off+i)) (row c m i):=λi hi=>by rw[hs i hi];exact oG.refl _
def CLL:List (List PV)->List (List PV)->Prop
 | [],[]=>True
 | a::l,b::r=>oG a b/\CLL l r
 | _,_=>False
theorem eX {a b lit:List PV} {l r:List (List PV)} (e:b=lit) (h:oG a lit) (t:CLL l r):CLL (a::l) (b::r):=⟨by rw[e];exact h,t⟩
theorem cg:∀{l r:List (List PV)},l=r->CLL l r
 | [],_,rfl=>trivial
 | a::l,_,rfl=>⟨oG.refl _,cg rfl⟩
theorem JR:∀{l r:List (List PV)},CLL l r->∀i,oG (l.getD i []) (r.getD i [])
 | [],[],_,i=>by simp;exact trivial
 | a::l,b::r,h,0=>h.1
 | a::l,b::r,h,i+1=>by simpa using JR h.2 i
 | [],_::_,h,_=>h.elim
 | _::_,[],h,_=>h.elim
theorem bZ (c:α->List PV) (l:List α) {n:Nat} {cs:List (List PV)} (a:n=l.length) (h:CLL cs (l.map c)):∀i,i<n->oG (cs.getD i []) (row c l i):=λi _=>JR h i
theorem aei {k n off:Nat} {a b lit:List PV} (d:k<l.length) (he:c x'=lit) (hc:oG (jj a off b) lit):∀j,j<n->oG (gN (row c l) k (jj a off b) j) (row c (l.set k x') j):=λj _=>by
 rw[<-he]at hc;unfold row gN;by_cases hj:j=k
 ·subst hj;simpa[aRb,d]using hc
 ·have:Nat.beq j k=false:=by
   cases e:Nat.beq j k with
   | false=>rfl
   | true=>exact absurd (amb e) hj
  rw[this];simp only[aRR,aRb,aRs,aRB (aSA hj)];exact oG.refl _
theorem agD {a b new:List PV} {off:Nat} {f:Nat->List PV} (h:new=jj a off b):∀j,j<1->oG (gN f 0 (jj a off b) j) ((λ_=>new) j):=λj hj=>by
 obtain rfl:j=0:=by omega
 subst h;exact oG.refl _
end
section
variable {α:Type} [Inhabited α] {c:α->List PV} {l m:List α} {x x':α} {i lo hi:Int}
theorem aU (h:idx l i=some x):0<=i/\i<(l.length:Int):=(dD h).1
theorem acO (h:idx l i=some x):l[i.toNat]? =some x:=by
 have b:=aU h;have a:i.toNat<l.length:=by omega
 rw[<-(dD h).2,aRb,abL a];rfl
theorem Yd (h:idx l i=some x):i.toNat<l.length:=by have a:=aU h;omega
theorem aD (h:idx l i=some x):row c l i.toNat=c x:=EV (acO h)
end
section
variable {h η:List ao}{k:List Nat}
theorem JT {pv:PV} (hp:cP pv=true):Fz h η k pv pv:=by
 cases pv with
 | int k n=>exact .int _ _
 | bool b=>exact .bool _
 | str s=>exact .str _
 | bR=>exact .bR
 | jk=>exact .jk
 | im sz n f=>exact .im _ _ _ _ (λ_ _=>rfl)
 | ic cs=>exact .ic _
 | fn f=>exact .fn _
 | _=>cases hp
theorem uf:∀{l:List PV},l.all cP=true->wx h η k l l
 | [],_=>trivial
 | a::l,hp=>by
  simp only[aRn,No]at hp;exact⟨JT hp.1,uf hp.2⟩
def agE (h η:List ao) (k:List Nat):List (Nat×Nat)->List (Nat×Nat)->Prop
 | [],[]=>True
 | p::r,a::r'=>(k[a.1]? =some p.1/\(∃sz n e f,h[p.1]? =some (ao.row p.2 sz n e f))/\∃sz n e f,η[a.1]? =some (ao.row a.2 sz n e f)/\0<n)/\agE h η k r r'
 | _,_=>False
theorem agE.get:∀(l b:List (Nat×Nat)),agE h η k l b->b.length=l.length/\∀(j:Nat) (p a:Nat×Nat),l[j]? =some p->b[j]? =some a->
  k[a.1]? =some p.1/\(∃sz n e f,h[p.1]? =some (ao.row p.2 sz n e f))/\∃sz n e f,η[a.1]? =some (ao.row a.2 sz n e f)/\0<n
 | [],[],_=>⟨rfl,λj p a hj _=>by simp at hj⟩
 | [],_::_,hh=>hh.elim
 | _::_,[],hh=>hh.elim
 | q::r,g::r',hh=>by
  obtain⟨h1,h2⟩:=hh;obtain⟨q1,d⟩:=agE.get r r' h2;refine⟨by simp [q1],λj p a hj c=>?_⟩;cases j with
  | zero=>
   simp at hj c;subst hj c;exact h1
  | succ j=>exact d j p a aUV (by simpa using c)
theorem QV {α:Type} {c:α->List PV} (hp:∀x,(c x).all cP=true) {id g sz n off:Nat} {e:TypeId} {f:Nat->List PV} {l:List α} (a:id∉k) (ho:h[id]? =some (ao.row g sz n e f)) (hs:xq c f off l):
  Fz h η k (.own id g off l.length) (sl sz c l):=
 .acP a ho rfl rfl (λi hi=>pW hp i) (λi hi=>by rw[hs i hi];exact uf (pW hp i))
theorem agF {α:Type} {c:α->List PV} (hp:∀x,(c x).all cP=true) {id g sz n off len:Nat} {e:TypeId} {f:Nat->List PV} {l:List α} (a:id∉k) (ho:h[id]? =some (ao.row g sz n e f)) (hs:xq c f off l) (b:len=l.length):
  Fz h η k (.own id g off len) (sl sz c l):=by subst b;exact QV hp a ho hs
end
theorem QW {α:Type} {c:α->List PV} (hp:∀x,(c x).all cP=true) (N g sz n:Nat) (e:TypeId) (l:List α):ir N (.row g sz n e (row c l))=.row g sz n e (row c l):=by
 suffices e:(λi=>(row c l i).map (pd N))=row c l by unfold ir;simp only[e]
 funext i;have h:=pW (l:=l) hp i;generalize row c l i=q at h;induction q with
 | nil=>rfl
 | cons a r b=>
  simp only[aRn,No]at h;rw[aRD,b h.2];cases a<;>first | rfl | cases h.1
theorem MQ {α:Type} {c:α->List PV} (hp:∀x,(c x).all cP=true) (σ:Nat->Nat) (g sz n:Nat) (e:TypeId) (l:List α):wj σ (.row g sz n e (row c l))=.row g sz n e (row c l):=by
 suffices e:(λi=>(row c l i).map (mR σ))=row c l by unfold wj;simp only[e]
 funext i;have h:=pW (l:=l) hp i;generalize row c l i=q at h;induction q with
 | nil=>rfl
 | cons a r b=>
  simp only[aRn,No]at h;rw[aRD,b h.2];cases a<;>first | rfl | cases h.1
theorem ACall.aFd {P:Program} {f:FuncId} {args:List PV} {r0:PV} (a:ACall P f args [] (λres h=>res=r0/\h=[])) (h:List ao) (hp:args.all MR=true) (b:∀n,tm n r0=r0):
  ACall P f args h (λres h'=>res=r0/\h'=h):=
 (a.frame h hp).mono (by rintro _ _ ⟨_,_,⟨rfl,rfl⟩,rfl,rfl⟩;exact⟨b _,by simp⟩)
theorem ACall.aFe {P:Program} {f:FuncId} {args a:List PV} {r0:PV} (b:ACall P f a [] (λres h=>res=r0/\h=[])) (h:List ao) (c:wx h [] [] args a) (d:a.all oc=true) (hf:Tb r0=true) (e:∀n,tm n r0=r0):
  ACall P f args h (λres h'=>res=r0/\h'=h):=
 (b.aFf h c d (by rintro _ _ ⟨rfl,rfl⟩;exact⟨hf,by simp⟩)).mono (by rintro _ _ ⟨_,_,⟨rfl,rfl⟩,rfl,rfl⟩;exact⟨e _,by simp⟩)
section
variable {κ β:Type} [DecidableEq κ]
def mc (c:κ->PV) (d:β->PV) (p:κ×β):List PV:=[c p.1,d p.2]
end
theorem ln {a b:Nat} (h:a=b:=by first | rfl | simp):a=b:=h
class ur {α:Type} (c:α->List PV):Prop where
 pure:∀x,(c x).all cP=true
instance:ur cI:=⟨agy⟩
instance (k:IntKind):ur (arU k):=⟨U8 k⟩
instance:ur cB:=⟨agz⟩
instance:ur cT:=⟨agA⟩
instance:ur cS:=⟨agB⟩
instance {α:Type} (sz:Nat) (c:α->List PV):ur (cL sz c):=⟨agC sz c⟩
instance (a b:IntKind):ur (mc (PV.int a) (PV.int b)):=⟨λ_=>rfl⟩
instance (a:IntKind):ur (mc (PV.int a) PV.bool):=⟨λ_=>rfl⟩
instance (a:IntKind):ur (mc (PV.int a) PV.str):=⟨λ_=>rfl⟩
instance (b:IntKind):ur (mc PV.str (PV.int b)):=⟨λ_=>rfl⟩
instance:ur (mc PV.str PV.bool):=⟨λ_=>rfl⟩
instance:ur (mc PV.str PV.str):=⟨λ_=>rfl⟩
def akO {α:Type} (l:List α) (off:Nat) (s:List α):List α:=l.mapIdx λi x=>if i<off then x else if i<off+s.length then s.getD (i - off) x else x
@[simp] theorem asC {α:Type} (l:List α) (off:Nat) (s:List α):(akO l off s).length=l.length:=by unfold akO;simp
section
variable {h η:List ao}{k:List Nat}
theorem Fz.i {q:IntKind} {a b:Int} (e:a=b:=by rfl):Fz h η k (.int q a) (.int q b):=.int_eq e
theorem Fz.b {a b:Bool} (e:a=b:=by rfl):Fz h η k (.bool a) (.bool b):=.Tc e
theorem Fz.s {a b:List UInt8} (e:a=b:=by rfl):Fz h η k (.str a) (.str b):=.acQ e
theorem Fz.l {sz n:Nat} {f:Nat->List PV}:Fz h η k (.im sz n f) (.im sz n f):=.im _ _ _ _ (λ_ _=>rfl)
theorem Fz.z {α:Type} {c:α->List PV} {sz:Nat}:Fz h η k .bR (sl sz c []):=.GY _ _
theorem Fz.g {id a b c:Nat} {e':TypeId} {d:Nat->List PV} (e:k[a]? =some id:=by rfl) (ho:h[id]? =none:=by rfl) (hη:η[a]? =some (ao.row b c 0 e' d):=by rfl):Fz h η k .bR (.own a b 0 0):=.aFg id a b c e' d e ho hη
theorem Fz.o {id a g b sz c n len:Nat} {e e':TypeId} {f d:Nat->List PV} (i:k[a]? =some id:=by rfl) (ho:h[id]? =some (ao.row g sz n e f):=by rfl) (hη:η[a]? =some (ao.row b c len e' d):=by rfl):Fz h η k (.own id g 0 len) (.own a b 0 len):=
 .own _ _ _ _ _ _ _ _ _ _ _ _ _ _ i ho hη (Nat.le_of_eq (aRf _))
theorem Fz.ox {id a g c sz d n len b:Nat} {e e':TypeId} {f i:Nat->List PV} (j:len=b) (l:k[a]? =some id:=by rfl) (ho:h[id]? =some (ao.row g sz n e f):=by rfl) (hη:η[a]? =some (ao.row c d b e' i):=by rfl):Fz h η k (.own id g 0 len) (.own a c 0 b):=by
 subst j;exact Fz.o l ho hη
theorem Fz.p {id a g b sz c n d off:Nat} {e e':TypeId} {f i:Nat->List PV} (j:k[a]? =some id:=by rfl) (ho:h[id]? =some (ao.row g sz n e f):=by rfl) (hη:η[a]? =some (ao.row b c (d+1) e' i):=by rfl):Fz h η k (.aI id g 0 off) (.aI a b 0 off):=
 .aI _ _ _ _ _ _ _ _ _ _ _ _ _ _ j ho hη (Nat.succ_pos _)
theorem Fz.m {id a g b sz c n d:Nat} {e e':TypeId} {f i:Nat->List PV} (j:k[a]? =some id:=by rfl) (ho:h[id]? =some (ao.row g sz n e f):=by rfl) (hη:η[a]? =some (ao.row b c d e' i):=by rfl):Fz h η k (.rB id) (.rB a):=
 .rB _ _ _ _ _ _ _ _ _ _ _ _ j ho hη
theorem Fz.j {pv:PV}:Fz h η k pv .kB:=.kB _
theorem Fz.f {n:Nat}:Fz h η k (.fn n) (.fn n):=.fn _
theorem Fz.r {α:Type} {c:α->List PV} [ur c] {id g sz n:Nat} {e:TypeId} {l:List α} (ho:h[id]? =some (ao.row g sz n e (row c l)):=by rfl) (a:id∉k:=by first | decide | simp):Fz h η k (.own id g 0 l.length) (sl sz c l):=QV ur.pure a ho aR
theorem Fz.rx {α:Type} {c:α->List PV} [ur c] {id g sz n len:Nat} {e:TypeId} {l:List α} (a:len=l.length) (ho:h[id]? =some (ao.row g sz n e (row c l)):=by rfl) (b:id∉k:=by first | decide | simp):Fz h η k (.own id g 0 len) (sl sz c l):=agF ur.pure b ho aR a
theorem Fz.rp {α:Type} {c:α->List PV} [ur c] {id g sz n off:Nat} {e:TypeId} {f:Nat->List PV} {l:List α} (hs:xq c f off l) (ho:h[id]? =some (ao.row g sz n e f):=by rfl) (a:id∉k:=by first | decide | simp):Fz h η k (.own id g off l.length) (sl sz c l):=QV ur.pure a ho hs
variable {m:Nat}
theorem od {α:Type} {c:α->List PV} [ur c] {id g sz:Nat} {e:TypeId} {l:List α} (ho:h[id]? =some (ao.row g sz l.length e (row c l)):=by rfl):zM h η k m (.row g sz l.length e (row c l)) id id:=by
 unfold zM;rw[ho];exact⟨λ_=>⟨rfl,rfl⟩,rfl,.inl rfl,rfl,λi _=>uf (pW ur.pure i)⟩
theorem ob {id g sz:Nat} {e:TypeId} {a b:List PV} (ho:h[id]? =some (ao.row g sz 1 e (λ_=>a))) (F:wx h η k a b):zM h η k m (.row g sz 1 e (λ_=>b)) id id:=by
 unfold zM;rw[ho];exact⟨λ_=>⟨rfl,rfl⟩,rfl,.inl rfl,rfl,λi _=>F⟩
theorem nw {α:Type} {c:α->List PV} [ur c] {i id g a sz:Nat} {e:TypeId} {l:List α} (hi:Nat.ble m i=true:=by rfl) (ho:h[id]? =some (ao.row g sz l.length e (row c l)):=by rfl):zM h η k m (.row a sz l.length e (row c l)) i id:=by
 unfold zM;rw[ho];exact⟨λh0=>absurd h0 (Nat.not_lt.2 (aRC hi)),rfl,.inl rfl,rfl,λi _=>uf (pW ur.pure i)⟩
theorem nb {i id g c sz:Nat} {e:TypeId} {a b:List PV} (ho:h[id]? =some (ao.row g sz 1 e (λ_=>a))) (F:wx h η k a b) (hi:Nat.ble m i=true:=by rfl):zM h η k m (.row c sz 1 e (λ_=>b)) i id:=by
 unfold zM;rw[ho];exact⟨λh0=>absurd h0 (Nat.not_lt.2 (aRC hi)),rfl,.inl rfl,rfl,λi _=>F⟩
theorem uC {id g sz:Nat} {e:TypeId} {a:List PV} (ho:h[id]? =some (ao.row g sz 1 e (λ_=>a))) (hp:a.all cP=true:=by rfl):zM h η k m (.row g sz 1 e (λ_=>a)) id id:=ob ho (uf hp)
theorem vt {i id g b sz:Nat} {e:TypeId} {a:List PV} (ho:h[id]? =some (ao.row g sz 1 e (λ_=>a))) (hp:a.all cP=true:=by rfl) (hi:Nat.ble m i=true:=by rfl):zM h η k m (.row b sz 1 e (λ_=>a)) i id:=nb ho (uf hp) hi
theorem dd {i id:Nat}:zM h η k m .dead i id:=by unfold zM;trivial
theorem gh {i id a b:Nat} {e':TypeId} {c:Nat->List PV} (hi:Nat.ble m i=true:=by rfl) (ho:h[id]? =none:=by rfl):zM h η k m (.row a b 0 e' c) i id:=by
 unfold zM;rw[ho];exact⟨aRC hi,rfl⟩
theorem tk {env:Env} {σ:List (Nat×PV)} (k:List Nat) (he:Az h η k env σ) (hh:mC h η k m 0 η k) (hd:qs (pZ η k)=true:=by rfl) (a:Nat.ble m k.length=true:=by rfl):AA m env h σ η:=⟨k,hd,aRC a,he,hh⟩
theorem ct {J:List (Nat×PV)->List ao->Prop} {env:Env} {σ:List (Nat×PV)} (hj:J σ η) (a:AA m env h σ η):AB m J env h:=.mk σ η a hj
theorem lg {body:(Env->List ao->Prop)->Env->List ao->Prop} {env:Env} {σ:List (Nat×PV)} (hj:aX m body σ η) (a:AA m env h σ η):loopGo m body env h:=.mk σ η a hj
theorem le {body:(Env->List ao->Prop)->Env->List ao->Prop} {env:Env} {σ:List (Nat×PV)} (hj:aX m body σ η) (a:AA m env h σ η):sO m body env h:=.take σ η a hj
theorem en {R:PV->List ao->Prop} {vs:List PV} {res:PV} (k:List Nat) (a:R res η) (F:Fz h η k (oneOf vs) res) (hh:mC h η k m 0 η k) (hd:qs (pZ η k)=true:=by rfl) (b:Nat.ble m k.length=true:=by rfl) (c:vs.all oc=true:=by rfl):Ends m R h vs:=by
 exact .mk c k res η hd (aRC b) F hh a
theorem eB {a r:Bool} (hh:some a=some r):Ends 0 (λres h=>res=.bool r/\h=[]) h [.bool a]:=.mk rfl [] _ [] rfl (Of _) (.Tc (aRO hh)) trivial ⟨rfl,rfl⟩
theorem eI {q:IntKind} {a r:Int} (hh:some a=some r):Ends 0 (λres h=>res=.int q r/\h=[]) h [.int q a]:=.mk rfl [] _ [] rfl (Of _) (.int_eq (aRO hh)) trivial ⟨rfl,rfl⟩
theorem eS {a r:List UInt8} (hh:some a=some r):Ends 0 (λres h=>res=.str r/\h=[]) h [.str a]:=.mk rfl [] _ [] rfl (Of _) (.acQ (aRO hh)) trivial ⟨rfl,rfl⟩
end
section
variable {α:Type}{x y r:α}{T F:Prop}
theorem sD {c:Prop} [Decidable c] (h:(if c then x else y)=r) (b:decide c=true->x=r->T) (d:decide c=false->y=r->F):iq (decide c) T F:=.mk (λa=>b a (aE9 a h)) (λa=>d a (aFa a h))
theorem sE {β:Type} [BEq β] [LawfulBEq β] {a b:β} [Decidable (a=b)] (h:(if a=b then x else y)=r) (d:(a==b)=true->x=r->T) (e:(a==b)=false->y=r->F):iq (a==b) T F:=.mk (λc=>d c (acI c h)) (λc=>e c (acJ c h))
theorem sEn {β:Type} [BEq β] [LawfulBEq β] {a b:β} [Decidable (a=b)] (h:(if a=b then x else y)=r) (d:(!(a==b))=true->y=r->T) (e:(!(a==b))=false->x=r->F):iq (!(a==b)) T F:=.mk (λc=>d c (acJ (akN c) h)) (λc=>e c (acI (akM c) h))
theorem sN {β:Type} [BEq β] [LawfulBEq β] {a b:β} [Decidable (a=b)] (h:(if a=b then x else y)=r) (d:(a != b)=true->y=r->T) (e:(a != b)=false->x=r->F):iq (a != b) T F:=.mk (λc=>d c (aFb c h)) (λc=>e c (aFc c h))
theorem sV {b:Bool} (h:(if b=true then x else y)=r) (c:b=true->x=r->T) (d:b=false->y=r->F):iq b T F:=.mk (λa=>c a (akK a h)) (λa=>d a (akL a h))
theorem jR {b:Bool} (h:(if b=true then x else y)=r) (c:(!b)=true->y=r->T) (d:(!b)=false->x=r->F):iq (!b) T F:=.mk (λa=>c a (akL (akN a) h)) (λa=>d a (akK (akM a) h))
end
theorem iq.t {T F:Prop} (h:T):iq true T F:=acK h
theorem iq.f {T F:Prop} (h:F):iq false T F:=acL h
theorem iq.kt {b:Bool} {T F:Prop} (a:b=true) (h:T):iq b T F:=U7 a h
theorem xr.d {m:Nat} {A B:XQ->Env->List ao->Prop} {Q:XQ} {env:Env} {h:List ao} (hd:A (XQ.then (B Q) Q) env h):xr m A B Q env h:=.direct hd
inductive Nz:PV->PV->Prop
 | same (a:PV):Nz a a
 | nil (sz:Nat) (f:Nat->List PV):Nz .bR (.im sz 0 f)
def NzL:List PV->List PV->Prop
 | [],[]=>True
 | a::l,b::r=>Nz a b/\NzL l r
 | _,_=>False
inductive NzA:PV->PV->Prop
 | same (a:PV):NzA a a
 | nil (sz:Nat) (f:Nat->List PV):NzA .bR (.im sz 0 f)
 | agg {cs Dg:List PV} (h:NzL cs Dg):NzA (.agg cs) (.agg Dg)
def agG:List PV->List PV->Prop
 | [],[]=>True
 | a::l,b::r=>NzA a b/\agG l r
 | _,_=>False
theorem NzL.get:∀{l r:List PV},NzL l r->r.length=l.length/\∀(j:Nat) (p:PV),r[j]? =some p->∃q:PV,l[j]? =some q/\Nz q p
 | [],[],_=>⟨rfl,λj p h=>by simp at h⟩
 | a::l,b::r,h=>by
  obtain⟨h1,h2⟩:=NzL.get h.2;refine⟨by simp [h1],λj p hj=>?_⟩;cases j with
  | zero=>simp at hj;subst hj;exact⟨a,rfl,h.1⟩
  | succ j=>obtain⟨q,q1,c⟩:=h2 j p aUV;exact⟨q,by simpa using q1,c⟩
 | [],_::_,h=>h.elim
 | _::_,[],h=>h.elim
theorem agG.get:∀{l r:List PV},agG l r->r.length=l.length/\∀(j:Nat) (p:PV),r[j]? =some p->∃q:PV,l[j]? =some q/\NzA q p
 | [],[],_=>⟨rfl,λj p h=>by simp at h⟩
 | a::l,b::r,h=>by
  obtain⟨h1,h2⟩:=agG.get h.2;refine⟨by simp [h1],λj p hj=>?_⟩;cases j with
  | zero=>simp at hj;subst hj;exact⟨a,rfl,h.1⟩
  | succ j=>obtain⟨q,q1,c⟩:=h2 j p aUV;exact⟨q,by simpa using q1,c⟩
 | [],_::_,h=>h.elim
 | _::_,[],h=>h.elim
section
variable {P:Program}{f:FuncId}{args:List PV}{h:List ao}{K:PV->List ao->Prop}{r0:PV}
theorem bO (a:ACall P f args [] (λres h=>res=r0/\h=[])) (k:K r0 h) (hp:args.all MR=true:=by rfl) (b:∀n,tm n r0=r0:=by intro _;rfl):vH P f args h K:=
 ⟨_,a.aFd h hp b,by rintro _ _ ⟨rfl,rfl⟩;exact k⟩
theorem Vr {a:List PV} (b:ACall P f a [] (λres h=>res=r0/\h=[])) (c:wx h [] [] args a) (k:K r0 h) (d:a.all oc=true:=by rfl) (hf:Tb r0=true:=by rfl) (e:∀n,tm n r0=r0:=by intro _;rfl):vH P f args h K:=
 ⟨_,b.aFe h c d hf e,by rintro _ _ ⟨rfl,rfl⟩;exact k⟩
theorem shr {α:Type} {c:α->List PV} [ur c] (N g sz n:Nat) (e:TypeId) (l:List α):ir N (.row g sz n e (row c l))=.row g sz n e (row c l):=QW ur.pure N g sz n e l
theorem rer {α:Type} {c:α->List PV} [ur c] (σ:Nat->Nat) (g sz n:Nat) (e:TypeId) (l:List α):wj σ (.row g sz n e (row c l))=.row g sz n e (row c l):=MQ ur.pure σ g sz n e l
theorem pcF {h0:List ao} (a:ACall P f args [] (λres h=>res=r0/\h=h0)) (r1:PV) (h1:List ao) (k:K r1 h1) (e2:h++h0.map (ir h.length)=h1:=by simp only[aRD,aRX,shr];rfl) (b:tm h.length r0=r1:=by rfl) (hp:args.all MR=true:=by rfl):vH P f args h K:=
 ⟨_,a.frame h hp,by rintro _ _ ⟨_,_,⟨rfl,rfl⟩,rfl,rfl⟩;rw[b,e2];exact k⟩
def OvL (h:List ao) (σ:Nat->Nat):List ao->List Nat->Prop
 | [],_=>True
 | o::r,i::is=>h[i]? =some (wj σ o)/\OvL h σ r is
 | _::_,[]=>False
theorem OvL.get {h:List ao} {σ:Nat->Nat}:∀{hc:List ao} {is:List Nat},OvL h σ hc is->∀(j:Nat) (o:ao),hc[j]? =some o->∃i:Nat,is[j]? =some i/\h[i]? =some (wj σ o)
 | [],_,_,j,o,hj=>by simp at hj
 | a::r,[],hh,_,_,_=>hh.elim
 | a::r,i::is,hh,0,o,hj=>by simp at hj;subst hj;exact⟨i,rfl,hh.1⟩
 | a::r,i::is,hh,j+1,o,hj=>by
  obtain⟨q,h1,h2⟩:=OvL.get hh.2 j o aUV;exact⟨q,by simpa using h1,h2⟩
theorem ov {α:Type} {c:α->List PV} [ur c] {σ:Nat->Nat} {g sz n:Nat} {e:TypeId} {l:List α} {x:Option ao} (hx:x=some (.row g sz n e (row c l)):=by rfl):x=some (wj σ (.row g sz n e (row c l))):=by rw[MQ ur.pure];exact hx
theorem ACall.acR {hc:List ao} {args a:List PV} {R:PV->List ao->Prop} (b:ACall P f args hc R) (is:List Nat) (h:List ao) (c:OvL h (eU is h.length) hc is) (d:hc.length=is.length) (hd:is.Nodup) (e:is.all (λid=>Nat.blt id h.length)=true)
  (g:a=args.map (xt (eU is h.length))):ACall P f a h (λres h'=>∃r0 h0,R r0 h0/\res=BM (eU is h.length) r0/\h'=xu h is h0):=
 b.over is h d hd (λid hid=>aRC (aRg.1 e id hid)) (λj o hj=>by
  obtain⟨i,h1,h2⟩:=c.get j o hj;unfold eU;rw[h1];exact h2) g
theorem Ay {γ:Type} {h0:γ->List ao} {args a:List PV} {b:γ->PV} {hc:List ao} (d:ACall P f args hc (λres h=>∃g,res=b g/\h=h0 g)) (is:List Nat) (e:OvL h (eU is h.length) hc is) (c:γ->PV) (H1:γ->List ao) (k:∀g,K (c g) (H1 g)) (e2:∀g,xu h is (h0 g)=H1 g:=by intro g;simp only[xu,pf,aRD,aRX,List.drop,so,An,rer];rfl) (i:∀g,BM (eU is h.length) (b g)=c g:=by intro _;rfl)
  (j:hc.length=is.length:=by rfl) (hd:is.Nodup:=by decide) (l:is.all (λid=>Nat.blt id h.length)=true:=by rfl) (m:a=args.map (xt (eU is h.length)):=by rfl):vH P f a h K:=
 ⟨_,d.acR is h e j hd l m,by rintro _ _ ⟨_,_,⟨g,rfl,rfl⟩,rfl,rfl⟩;rw[i,e2];exact k g⟩
end
theorem si {α:Type} {a b:α} (h:some a=some b):a=b:=aRO h
theorem bk {α β:Type} {x:Option α} {f:α->Option β} {r:β} {G:Prop} (h:(x>>=f)=some r) (k:∀a,x=some a->f a=some r->G):G:=by
 obtain⟨a,h1,h2⟩:=bind_some h;exact k a h1 h2
theorem bd {α β:Type} {x:Option α} {f:α->Option β} {r:β} (h:(x>>=f)=some r):∃a,x=some a/\f a=some r:=bind_some h
def kW (cs:List (List PV)):Nat->List PV:=λi=>cs.getD i []
theorem aqg {n:Nat} {l r:List (List PV)} (h:CLL l r):∀i,i<n->oG (l.getD i []) (kW r i):=λi _=>JR h i
theorem Td {cs a:List (List PV)} {i:Nat} (c:List PV) (h:a=cs.set i c:=by rfl):∀k,k≠i->kW a k=kW cs k:=λk b=>by
 subst h;unfold kW;rw[aRb,aRb,aRB (aSA b)]
theorem arV {f a q:Nat->List PV} {n i:Nat} (hi:i<n) (h:∀k,k≠i->a k=f k):∀k,k≠i->Qa a n q k=Qa f n q k:=λk b=>by
 unfold Qa;rw[h k b]
structure DR {α:Type} (D:List PV->α->Prop) (n:Nat) (f:Nat->List PV) (l:List α):Prop where
 len:l.length=n
 at_:∀i (h:i<l.length),D (f i) l[i]
 z:∀i,n<=i->f i=[]
inductive OD1:PV->PV->Prop
 | p {a:PV} (h:cP a=true):OD1 a a
 | o {a b:PV} (h:EW a b):OD1 a b
def HA:List PV->List PV->Prop
 | [],[]=>True
 | a::l,b::r=>OD1 a b/\HA l r
 | _,_=>False
class Dcl {α:Type} (D:List PV->α->Prop) (c:outParam (α->List PV)):Prop where
 frz:∀cs x,D cs x->HA cs (c x)
def DEq {α:Type} (c:α->List PV):List PV->α->Prop:=λcs x=>cs=c x
theorem HA.len:∀{l r:List PV},HA l r->r.length=l.length
 | [],[],_=>rfl
 | a::l,b::r,h=>congrArg (·+1) (HA.len h.2)
 | [],_::_,h=>h.elim
 | _::_,[],h=>h.elim
theorem HA.get:∀{l r:List PV},HA l r->∀{j:Nat} {a b:PV},l[j]? =some a->r[j]? =some b->OD1 a b
 | a::l,b::r,h,0,x,y,hx,hy=>by simp at hx hy;subst hx hy;exact h.1
 | a::l,b::r,h,j+1,x,y,hx,hy=>HA.get h.2 (by simpa using hx) (by simpa using hy)
 | [],_,h,j,x,y,hx,hy=>by simp at hx
 | _::_,[],h,_,_,_,_,_=>h.elim
theorem HA.pure:∀{l:List PV},l.all cP=true->HA l l
 | [],_=>trivial
 | a::l,h=>by
  simp only[aRn,No]at h;exact⟨.p h.1,HA.pure h.2⟩
theorem EW.isO {a b:PV} (h:EW a b):eH a=true:=by cases h;rfl
theorem EW.Te {a b:PV} (h:EW a b):cP b=true:=by cases h;rfl
theorem OD1.po {a b:PV} (h:OD1 a b):cP a=true\/eH a=true:=by
 cases h with
 | p h=>exact .inl h
 | o h=>exact .inr h.isO
theorem OD1.Te {a b:PV} (h:OD1 a b):cP b=true:=by
 cases h with
 | p h=>exact h
 | o h=>exact h.Te
theorem HA.po {l r:List PV} (h:HA l r):∀c,c∈l->cP c=true\/eH c=true:=λc hc=>by
 obtain⟨j,hj,rfl⟩:=List.getElem_of_mem hc;have a:=h.len;exact(h.get (abL hj) (abL (show j<r.length by omega))).po
instance {α:Type} (c:α->List PV) [hp:ur c]:Dcl (DEq c) c:=⟨λcs x h=>by
 have h:cs=c x:=h;subst h;exact HA.pure (hp.pure x)⟩
theorem QX {a:PV} (h:eH a=true):cP a=false:=by cases a<;>first | rfl | cases h
theorem arW {σ:Nat->Nat} {a:PV} (h:cP a=true\/eH a=true):mR σ a=a:=by cases a<;>first | rfl | (rcases h with h | h<;>cases h)
theorem acS {N:Nat} {a:PV} (h:cP a=true\/eH a=true):pd N a=a:=by cases a<;>first | rfl | (rcases h with h | h<;>cases h)
theorem JU {g:PV->PV}:∀{l:List PV},(∀c,c∈l->g c=c)->l.map g=l
 | [],_=>rfl
 | a::l,h=>by simp only[aRD];rw[h a aUG,JU (λc hc=>h c (by simp [hc]))]
section
variable {α:Type}{D:List PV->α->Prop}{c:α->List PV}{n:Nat}{f:Nat->List PV}{l:List α}
theorem acT (d:∀i (h:i<l.length),HA (f i) (c l[i])) (g:l.length=n) (sz:Nat) (e:TypeId) (F:Nat->Prop):EW (.fG sz n e f F) (sl sz c l):=by
 subst g;have at_:∀i,i<l.length->HA (f i) (row c l i):=λi hi=>by rw[oW hi];exact d i hi
 refine .mk sz l.length e f (row c l) F (λi hi=>(at_ i hi).len) (λi j pv b hi h1 h2 a=>?_) (λi j pv b hi h1 h2 a=>?_) (λi j b hi h2=>?_)
 ·cases(at_ i hi).get h1 h2 with
  | p _=>rfl
  | o h=>rw[h.isO]at a;cases a
 ·cases(at_ i hi).get h1 h2 with
  | p h=>rw[QX a]at h;cases h
  | o h=>exact h
 ·have hj:j<(f i).length:=by rw[<-(at_ i hi).len];exact(abF.1 h2).1
  exact((at_ i hi).get (abL hj) h2).Te
theorem DR.od [hc:Dcl D c] (d:DR D n f l):∀i (h:i<l.length),HA (f i) (c l[i]):=λi h=>hc.frz _ _ (d.at_ i h)
theorem DR.po [hc:Dcl D c] (d:DR D n f l):∀i,i<n->∀x,x∈f i->cP x=true\/eH x=true:=λi hi=>(d.od (c:=c) i (by rw[d.len];exact hi)).po
theorem DR.ren [hc:Dcl D c] (d:DR D n f l) {g:PV->PV} (hg:∀x,cP x=true\/eH x=true->g x=x):(λi=>(f i).map g)=f:=by
 funext i;by_cases hi:i<n
 ·exact JU (λx hx=>hg x (d.po (c:=c) i hi x hx))
 ·rw[d.z i aUE];rfl
theorem shd [hc:Dcl D c] (d:DR D n f l) (N g sz a:Nat) (e:TypeId):ir N (.row g sz a e f)=.row g sz a e f:=by
 show ao.row g sz a e (λi=>(f i).map (pd N))=_;rw[d.ren (c:=c) (λx=>acS)]
theorem DR.self (d:DR D n f l):DR D l.length f l:=by have h:=d.len;subst h;exact d
theorem DR.nil:DR D 0 (λ_=>[]) []:=⟨rfl,λi h=>absurd h (aSk _),λ_ _=>rfl⟩
theorem DR.aLZ {c:α->List PV} {l:List α}:DR (DEq c) l.length (row c l) l:=⟨rfl,λi h=>oW h,λi hi=>by unfold row;simp [aRb,aRQ (show(l.map c).length<=i by simpa using hi)]⟩
theorem DR.gz {c:α->List PV} {l:List α} {n:Nat} (h:n=l.length):DR (DEq c) n (row c l) l:=by subst h;exact DR.aLZ
theorem nQ {f:Nat->List PV} {i:Nat} {cs:List PV}:gN f i cs i=cs:=by
 unfold gN;rw[show Nat.beq i i=true from aSD i];rfl
theorem sP {f:Nat->List PV} {i k:Nat} {cs:List PV} (h:k≠i):gN f i cs k=f k:=by
 unfold gN;rw[show Nat.beq k i=false from aSV.2 (λq=>h (amb q))];rfl
theorem DR.set (d:DR D n f l) {i:Nat} (hi:i<l.length) {cs:List PV} {x:α} (hx:D cs x):DR D n (gN f i cs) (l.set i x):=by
 refine⟨by rw[aSN];exact d.len,λk a=>?_,λk a=>?_⟩
 ·rw[aSN]at a;rw[List.getElem_set];by_cases h:i=k
  ·subst h;rw[At rfl,nQ];exact hx
  ·rw[As h,sP (aSA h)];exact d.at_ k a
 ·have:=d.len;rw[sP aUE];exact d.z k a
theorem DR.app (d:DR D n f l) {cs:List PV} {x:α} (hx:D cs x):DR D (n+1) (gN f n cs) (l++[x]):=by
 have b:=d.len;refine⟨by simp [b],λk a=>?_,λk a=>?_⟩
 ·by_cases h:k=n
  ·subst h;rw[nQ,aSO aUE];simp only[b,aSz,aSW];exact hx
  ·rw[sP h,aSH (by simp at a;omega)];exact d.at_ k (by simp at a;omega)
 ·rw[sP aUE];exact d.z k aUE
theorem DR.idx [Inhabited α] (d:DR D n f l) {i:Int} {x:α} (h:Go.Am.idx l i=some x):D (f i.toNat) x:=by
 have h1:=acO h;obtain⟨h2,a⟩:=abF.1 h1;rw[<-a];exact d.at_ _ h2
theorem DR.lt [Inhabited α] (d:DR D n f l) {i:Int} {x:α} (h:Go.Am.idx l i=some x):i.toNat<n:=by rw[<-d.len];exact Yd h
theorem DR.bd [Inhabited α] (d:DR D n f l) {i:Int} {x:α} (h:Go.Am.idx l i=some x):0<=i/\i<(n:Int):=by rw[<-d.len];exact aU h
variable {h η:List ao}{k:List Nat}{m:Nat}
theorem aFh {a:PV} (hp:cP a=true\/eH a=true):Fz h η k a a:=by
 cases a<;>first | exact JT rfl | exact .fG _ _ _ _ _ | (rcases hp with hp | hp<;>cases hp)
theorem acU:∀{l:List PV},(∀c,c∈l->cP c=true\/eH c=true)->wx h η k l l
 | [],_=>trivial
 | a::l,hp=>⟨aFh (hp a aUG),acU (λc hc=>hp c (by simp [hc]))⟩
theorem Fz.rd [hc:Dcl D c] {id g sz a b:Nat} {e:TypeId} (d:DR D n f l) (m:b=l.length:=by first | rfl | simp [*]) (ho:h[id]? =some (ao.row g sz a e f):=by rfl) (q:id∉k:=by first | decide | simp):Fz h η k (.own id g 0 b) (sl sz c l):=by
 subst m;have at_:∀i,i<l.length->HA (f i) (row c l i):=λi hi=>by rw[oW hi];exact d.od (c:=c) i hi
 refine .frz id g sz a 0 l.length e f (row c l) q ho (λi hi=>by rw[aRf];exact(at_ i hi).len) (λi j r hi h2=>?_) (λi j pv r hi h1 h2 s=>?_)
 ·have hj:j<(f i).length:=by rw[<-(at_ i hi).len];exact(abF.1 h2).1
  exact((at_ i hi).get (abL hj) h2).Te
 ·rw[aRf]at h1;cases(at_ i hi).get h1 h2 with
  | p h=>exact JT h
  | o h=>exact absurd h s
theorem nwd [hc:Dcl D c] {i id g j sz b a:Nat} {e:TypeId} (d:DR D n f l) (o:a=b:=by first | rfl | simp [*]) (hle:a=n:=by first | rfl | simp [*]) (hi:Nat.ble m i=true:=by rfl) (ho:h[id]? =some (ao.row g sz b e f):=by rfl):zM h η k m (.row j sz a e f) i id:=by
 subst o hle;unfold zM;rw[ho];exact⟨λh0=>absurd h0 (Nat.not_lt.2 (aRC hi)),rfl,.inl rfl,rfl,λi hi=>acU (d.po (c:=c) i hi)⟩
theorem Fz.od {id a g b sz i j c n2 d:Nat} {e e':TypeId} {f l:Nat->List PV} (h1:c=n2:=by first | rfl | simp [*]) (h2:n2=d:=by first | rfl | simp [*]) (m:k[a]? =some id:=by rfl) (ho:h[id]? =some (ao.row g sz j e f):=by rfl) (hη:η[a]? =some (ao.row b i d e' l):=by rfl):Fz h η k (.own id g 0 c) (.own a b 0 n2):=by
 subst h1 h2;exact .own _ _ _ _ _ _ _ _ _ _ _ _ _ _ m ho hη (Nat.le_of_eq (aRf _))
theorem exs (id:Nat) {g sz n:Nat} {e:TypeId} {f:Nat->List PV} {i d b:Nat} {e':TypeId} {l:Nat->List PV} {F:Nat->Prop} (j:Nat) (cs a:List PV) (c:Nat->List PV) (hi:i<n) (hc:f i=cs) (h1:c i=a) (m:∀k,k≠i->c k=f k)
  (hj:cs[j]? =some (.fG d b e' l F):=by rfl) (hs:a=cs.set j (.own h.length 0 0 b):=by rfl) (ho:h[id]? =some (.row g sz n e f):=by rfl) {h2:List ao} (o:h2=h.set id (.row g sz n e c)++[.row 0 d b e' l]:=by rfl):MS h h2:=
 ⟨id,g,sz,n,e,f,i,j,d,b,e',l,F,c,ho,hi,by rw[hc];exact hj,by rw[h1,hc,hs],λk _ p=>m k p,o⟩
theorem arX {id sub g sz n:Nat} {e:TypeId} {f:Nat->List PV} {g2 oh n2:Nat} {e2:TypeId} {f2:Nat->List PV} {i:Nat} {j:Nat} {F:Nat->Prop} (cs a:List PV) (b:Nat->List PV) (hi:i<n) (hc:f i=cs) (h1:b i=a) (d:∀k,k≠i->b k=f k)
  (hp:∀k,k<n2->∀x,x∈f2 k->cP x=true\/eH x=true) (hj:cs[j]? =some (.own sub g2 0 n2):=by rfl) (hs:a=cs.set j (.fG oh n2 e2 f2 F):=by rfl) (ho:h[id]? =some (.row g sz n e f):=by rfl) (c:h[sub]? =some (.row g2 oh n2 e2 f2):=by rfl) (l:id≠sub:=by decide)
  {h2:List ao} (m:h2=(h.set id (.row g sz n e b)).set sub .dead:=by rfl):EZ h id i j sub F h2:=
 ⟨g,sz,n,e,f,g2,oh,n2,e2,f2,b,ho,c,l,hi,by rw[hc];exact hj,hp,by rw[h1,hc,hs],λk _ o=>d k o,m⟩
theorem abj {f:Nat->List PV} {i:Nat} {cs:List PV}:∀k,k≠i->gN f i cs k=f k:=λk h=>sP h
theorem agH {f:Nat->List PV} {i:Nat} {cs a:List PV}:∀k,k≠i->gN f i cs k=gN f i a k:=λk h=>by rw[sP h,sP h]
theorem ik {f:Nat->List PV} {n N:Nat} {cs a:List PV} (b:N=n+1) (hc:oG cs a):∀i,i<N->oG (bif Nat.blt i n then f (0+i)else cs) (gN f n a i):=λi hi=>by
 subst b;by_cases h:i<n
 ·rw[acM h,sP aUE,aRf];exact oG.refl _
 ·obtain rfl:i=n:=by omega
  rw[acN aUE,nQ];exact hc
theorem Sl {N:Nat} {cs a:List PV} (b:N=1) (hc:oG cs a):∀i,i<N->oG cs (gN (λ_=>[]) 0 a i):=λi hi=>by
 subst b;obtain rfl:i=0:=by omega
 rw[nQ];exact hc
end
section
variable {P:Program}{f:FuncId}{args:List PV}{h:List ao}{K R:PV->List ao->Prop}
theorem aqk (a:ACall P f args [] R) (k:∀r0 h0,R r0 h0->∃r1 h1,tm h.length r0=r1/\h++h0.map (ir h.length)=h1/\K r1 h1) (hp:args.all MR=true:=by rfl):vH P f args h K:=
 ⟨_,a.frame h hp,by
  rintro _ _ ⟨r0,h0,b,rfl,rfl⟩;obtain⟨r1,h1,rfl,rfl,c⟩:=k r0 h0 b;exact c⟩
end
def xw (cs:List PV):Prop:=∀c∈cs,(eH c=false->rJ c=true)/\(eH c=true->OG (λpv=>rJ pv=true) c)
class Fl1 {α:Type} (c:α->List PV):Prop where
 fl:∀x,(c x).all rJ=true
class Dfl {α:Type} (D:List PV->α->Prop):Prop where
 fl:∀cs x,D cs x->xw cs
instance:Fl1 cI:=⟨λ_=>rfl⟩
instance (k:IntKind):Fl1 (arU k):=⟨λ_=>rfl⟩
instance:Fl1 cB:=⟨λ_=>rfl⟩
instance:Fl1 cT:=⟨λ_=>rfl⟩
instance:Fl1 cS:=⟨λ_=>rfl⟩
theorem MT {a:PV} (h:rJ a=true):eH a=false:=by cases a<;>first | rfl | cases h
theorem aL0:xw []:=λc hc=>absurd hc aTo
theorem arY {a:PV} {l:List PV} (t:xw l) (h:rJ a=true:=by rfl):xw (a::l):=λc hc=>by
 rcases aRo.1 hc with rfl | hc
 ·exact⟨λ_=>h,λq=>by rw[MT h]at q;cases q⟩
 ·exact t c hc
theorem arZ {l:List PV} (h:l.all rJ=true):xw l:=λc hc=>⟨λ_=>aRg.1 h c hc,λq=>by rw[MT (aRg.1 h c hc)]at q;cases q⟩
theorem aFi {sz n:Nat} {e:TypeId} {f:Nat->List PV} {F:Nat->Prop} (h:∀i,i<n->xw (f i)):OG (λpv=>rJ pv=true) (.fG sz n e f F):=
 .mk sz n e f F (λi j pv hi hj a=>(h i hi pv (aRq hj)).1 a) (λi j _ _ _ _ _ hi hj=>(h i hi _ (aRq hj)).2 rfl)
theorem aL1 {sz n:Nat} {e:TypeId} {f:Nat->List PV} {F:Nat->Prop} {l:List PV} (h:∀i,i<n->xw (f i)) (t:xw l):xw (.fG sz n e f F::l):=λc hc=>by
 rcases aRo.1 hc with rfl | hc
 ·exact⟨λq=>(by cases q),λ_=>aFi h⟩
 ·exact t c hc
instance {α:Type} (c:α->List PV) [h:Fl1 c]:Dfl (DEq c):=⟨λcs x q=>by
 have q:cs=c x:=q;subst q;exact arZ (h.fl x)⟩
theorem gw {cs:List PV}:∀i,i<1->oG ([cs].getD i []) ((λ_=>cs) i):=λi hi=>by
 obtain rfl:i=0:=by omega
 exact oG.refl _
theorem MU:∀{l:List PV},l.all cP=true->noO l=true
 | [],_=>rfl
 | a::l,h=>by
  simp only[aRn,No]at h;have:=MU h.2;cases a<;>first | exact this | (have h1:=h.1;cases h1)
theorem iY {α:Type} {c:α->List PV} [hp:ur c] {f:Nat->List PV} {off:Nat} {l:List α} (hs:xq c f off l):∀i,i<l.length->noO (f (off+i))=true:=λi hi=>by
 rw[hs i hi];exact MU (pW hp.pure i)
section
variable {α:Type}{D:List PV->α->Prop}{n:Nat}{f:Nat->List PV}{l q:List α}{x:α}{b:Nat}
theorem MV (h:cD b l [x]=some q):l++[x]=q:=(dD h).2
theorem DR.ql (d:DR D n f l) (h:cD b l [x]=some q) {cs:List PV} (hx:D cs x):DR D q.length (gN f n cs) q:=by
 have h1:=MV h;subst h1;exact(d.app hx).self
theorem DR.ln (d:DR D n f l) (h:cD b l [x]=some q):q.length=n+1:=by
 have h1:=MV h;subst h1;simp [d.len]
theorem DR.lq (d:DR D n f l) (h:cD b l [x]=some q):n<q.length:=by rw[d.ln h];exact aRh n
theorem DR.Hj (d:DR D n f l) (h:cD b l [x]=some q):(n+1)*b<=140737488355328:=by
 have h1:=eN h;rw[d.len]at h1;exact h1
theorem DR.ky:DR D 0 (kW []) []:=⟨rfl,λi h=>absurd h (aSk _),λ_ _=>rfl⟩
theorem DR.iy {cs:List PV} {a:List (List PV)} (hx:D cs x) (d:DR D n (kW a) l):DR D (n+1) (kW (cs::a)) (x::l):=
 ⟨by simp [d.len],λi h=>by
  cases i with
  | zero=>exact hx
  | succ i=>exact d.at_ i aVn,λi hi=>by
  cases i with
  | zero=>omega
  | succ i=>exact d.z i aUE⟩
theorem DR.jn {m:Nat} {f2:Nat->List PV} {l2:List α} (d:DR D n f l) (b:DR D m f2 l2):DR D (n+m) (Qa f n f2) (l++l2):=
 ⟨by simp [d.len,b.len],λi h=>by
  unfold Qa;by_cases hi:i<n
  ·have a:Nat.blt i n=true:=by simpa using hi
   rw[a,aSH (by rw[d.len];exact hi)];exact d.at_ i _
  ·have a:Nat.blt i n=false:=by
    rw[aSV];intro hh;exact hi aVw
   have c:=d.len;have h':i<l.length+l2.length:=by simpa using h
   rw[a,aSO aUE];have:=b.at_ (i - n) aUE;simp only[c];exact this,λi hi=>by
  unfold Qa
  have a:Nat.blt i n=false:=by
   rw[aSV];intro hh;have:i<n:=by simpa using hh
   omega
  rw[a];exact b.z _ aUE⟩
theorem DR.NH {m:Nat} {f2:Nat->List PV} {l2:List α} (d:DR D n f l) (a:DR D m f2 l2) (h:cD b l l2=some q):DR D (n+m) (Qa f n f2) q:=by
 have h1:l++l2=q:=(dD h).2;subst h1;exact d.jn a
theorem DR.jbd {m:Nat} {l2:List α} (a:l.length=n) (hm:l2.length=m) (h:cD b l l2=some q):(n+m)*b<=140737488355328:=by
 subst a;subst hm;exact eN h
theorem DR.mb (d:DR D n f l) (h:l.length*b<=140737488355328):n*b<=140737488355328:=by rw[<-d.len];exact h
end
def agI (f:Nat->List PV):Prop:=∀g:PV->PV,(∀x,cP x=true\/eH x=true->g x=x)->(λi=>(f i).map g)=f
theorem DR.agJ {α:Type} {D:List PV->α->Prop} {c:α->List PV} [hc:Dcl D c] {n:Nat} {f:Nat->List PV} {l:List α} (d:DR D n f l):agI f:=λg hg=>d.ren (c:=c) hg
theorem AD {α:Type} {c:α->List PV} [hp:ur c] {l:List α}:agI (row c l):=λg hg=>by
 funext i;exact JU (λx hx=>hg x (.inl (aRg.1 (pW hp.pure i) x hx)))
theorem AE {cs:List PV} (h:cs.all cP=true):agI (λ_=>cs):=λg hg=>by
 funext i;exact JU (λx hx=>hg x (.inl (aRg.1 h x hx)))
theorem rfx {f:Nat->List PV} (h:agI f) (σ:Nat->Nat) (g sz n:Nat) (e:TypeId):wj σ (.row g sz n e f)=.row g sz n e f:=by
 show ao.row g sz n e (λi=>(f i).map (mR σ))=_;rw[h _ (λx=>arW)]
theorem AF {cs:List PV} {σ:Nat->Nat} {g sz n:Nat} {e:TypeId}:wj σ (.row g sz n e (λ_=>cs))=.row g sz n e (λ_=>cs.map (mR σ)):=rfl
theorem xQ {σ:Nat->Nat}:wj σ .dead=.dead:=rfl
section
variable {P:Program}{f:FuncId}{h:List ao}{K:PV->List ao->Prop}{r0 r1:PV}{h0 h1:List ao}
theorem eF {hc:List ao} {args a:List PV} (b:ACall P f args hc (λres h=>res=r0/\h=h0)) (is:List Nat) (c:OvL h (eU is h.length) hc is) (k:K r1 h1)
  (d:BM (eU is h.length) r0=r1:=by simp only[BM,xt,mR,eU,aRD,aRX,so,An,aSh,aRS,aSw,Nat.reduceAdd,Nat.reduceSub];rfl)
  (hh:xu h is h0=h1:=by
   simp (disch:=first | rfl | exact DR.agJ aUL | exact AD | exact AE rfl) only[xu,pf,rfx,AF,xQ,mR,eU,aRD,aRX,aSC,aRk,aTh,so,An,aST,aSU,aRw,aRe,aSh,aRS,aSw,Nat.reduceAdd,Nat.reduceSub];rfl)
  (e:hc.length=is.length:=by rfl) (hd:is.Nodup:=by decide) (g:is.all (λid=>Nat.blt id h.length)=true:=by rfl) (i:a=args.map (xt (eU is h.length)):=by rfl):vH P f a h K:=
 ⟨_,b.acR is h c e hd g i,by rintro _ _ ⟨_,_,⟨rfl,rfl⟩,rfl,rfl⟩;rw[d,hh];exact k⟩
theorem cF {hc:List ao} {args a:List PV} (b:ACall P f args hc (λres h=>res=r0/\h=h0)) (is:List Nat) (k:K r1 h1) (c:OvL h (eU is h.length) hc is:=by exact⟨rfl,⟨⟩⟩)
  (d:BM (eU is h.length) r0=r1:=by simp only[BM,xt,mR,eU,aRD,aRX,so,An,aSh,aRS,aSw,Nat.reduceAdd,Nat.reduceSub];rfl)
  (hh:xu h is h0=h1:=by
   simp (disch:=first | rfl | exact DR.agJ aUL | exact AD | exact AE rfl) only[xu,pf,rfx,AF,xQ,mR,eU,aRD,aRX,aSC,aRk,aTh,so,An,aST,aSU,aRw,aRe,aSh,aRS,aSw,Nat.reduceAdd,Nat.reduceSub];rfl)
  (e:hc.length=is.length:=by rfl) (hd:is.Nodup:=by decide) (g:is.all (λid=>Nat.blt id h.length)=true:=by rfl) (i:a=args.map (xt (eU is h.length)):=by rfl):vH P f a h K:=eF b is c k d hh e hd g i
theorem pcQ {α:Type} {D:List PV->α->Prop} {n:Nat} {l:List α} {hc:List ao} {args a:List PV} {X b:(Nat->List PV)->PV} {H H1:(Nat->List PV)->List ao} (c:ACall P f args hc (λres h=>∃F,DR D n F l/\res=X F/\h=H F)) (is:List Nat) (e:OvL h (eU is h.length) hc is) (k:∀F,DR D n F l->K (b F) (H1 F))
  (g:∀F,DR D n F l->BM (eU is h.length) (X F)=b F:=by intro F d;simp only[BM,xt,mR,eU,aRD,aRX,so,An,aSh,aRS,aSw,Nat.reduceAdd,Nat.reduceSub];rfl)
  (hh:∀F,DR D n F l->xu h is (H F)=H1 F:=by
   intro F d;simp (disch:=first | rfl | exact DR.agJ aUL | exact AD | exact AE rfl) only[xu,pf,rfx,AF,xQ,mR,eU,aRD,aRX,aSC,aRk,aTh,so,An,aST,aSU,aRw,aRe,aSh,aRS,aSw,Nat.reduceAdd,Nat.reduceSub];rfl)
  (i:hc.length=is.length:=by rfl) (hd:is.Nodup:=by decide) (j:is.all (λid=>Nat.blt id h.length)=true:=by rfl) (m:a=args.map (xt (eU is h.length)):=by rfl):vH P f a h K:=
 ⟨_,c.acR is h e i hd j m,by rintro _ _ ⟨_,_,⟨F,d,rfl,rfl⟩,rfl,rfl⟩;rw[g F d,hh F d];exact k F d⟩
theorem dw {α:Type} {D:List PV->α->Prop} {n:Nat} {l:List α} {hc:List ao} {args a:List PV} {X b:(Nat->List PV)->PV} {H H1:(Nat->List PV)->List ao} (c:ACall P f args hc (λres h=>∃F,DR D n F l/\res=X F/\h=H F)) (is:List Nat) (k:∀F,DR D n F l->K (b F) (H1 F)) (e:OvL h (eU is h.length) hc is:=by exact⟨rfl,⟨⟩⟩)
  (g:∀F,DR D n F l->BM (eU is h.length) (X F)=b F:=by intro F d;simp only[BM,xt,mR,eU,aRD,aRX,so,An,aSh,aRS,aSw,Nat.reduceAdd,Nat.reduceSub];rfl)
  (hh:∀F,DR D n F l->xu h is (H F)=H1 F:=by
   intro F d;simp (disch:=first | rfl | exact DR.agJ aUL | exact AD | exact AE rfl) only[xu,pf,rfx,AF,xQ,mR,eU,aRD,aRX,aSC,aRk,aTh,so,An,aST,aSU,aRw,aRe,aSh,aRS,aSw,Nat.reduceAdd,Nat.reduceSub];rfl)
  (i:hc.length=is.length:=by rfl) (hd:is.Nodup:=by decide) (j:is.all (λid=>Nat.blt id h.length)=true:=by rfl) (m:a=args.map (xt (eU is h.length)):=by rfl):vH P f a h K:=pcQ c is e k g hh i hd j m
end
theorem au {a b:List PV} {off:Nat} {f:Nat->List PV}:∀j,j<1->oG (gN f 0 (jj a off b) j) ((λ_=>jj a off b) j):=agD rfl
theorem gI {n:Nat} {l:List (List PV)}:∀i,i<n->oG (l.getD i []) (kW l i):=λi _=>oG.refl _
section
variable {h:List ao}{id sub g sz n g2 oh n2:Nat}{e e2:TypeId}{f2:Nat->List PV}{i j:Nat}{F:Nat->Prop}
theorem C6 {f:Nat->List PV} {a b:List PV} (hi:i<n) (hp:∀k,k<n2->∀x,x∈f2 k->cP x=true\/eH x=true) (ho:h[id]? =some (.row g sz n e (gN f i a)):=by rfl) (hj:a[j]? =some (.own sub g2 0 n2):=by rfl)
  (c:h[sub]? =some (.row g2 oh n2 e2 f2):=by rfl) (hs:a.set j (.fG oh n2 e2 f2 F)=b:=by rfl) (d:id≠sub:=by decide) {h2:List ao} (l:h2=(h.set id (.row g sz n e (gN f i b))).set sub .dead:=by rfl):EZ h id i j sub F h2:=
 arX a b (gN f i b) hi nQ nQ agH hp hj hs.symm ho c d l
theorem Tf {cs:List (List PV)} {i:Nat} {c:List PV} (h:cs[i]? =some c):kW cs i=c:=by unfold kW;rw[aRb,h];rfl
theorem MW {cs:List (List PV)} {i:Nat} {c a:List PV} (h:cs[i]? =some c):kW (cs.set i a) i=a:=by
 unfold kW;rw[aRb,aSc (abF.1 h).1];rfl
theorem tf {cs:List (List PV)} {a b:List PV} {c:List (List PV)} (hp:∀k,k<n2->∀x,x∈f2 k->cP x=true\/eH x=true) (ho:h[id]? =some (.row g sz n e (kW cs)):=by rfl) (hc:cs[i]? =some a:=by rfl) (hj:a[j]? =some (.own sub g2 0 n2):=by rfl)
  (d:h[sub]? =some (.row g2 oh n2 e2 f2):=by rfl) (hs:a.set j (.fG oh n2 e2 f2 F)=b:=by rfl) (hd:cs.set i b=c:=by rfl) (hi:Nat.blt i n=true:=by rfl) (f:id≠sub:=by decide) {h2:List ao} (l:h2=(h.set id (.row g sz n e (kW c))).set sub .dead:=by rfl):EZ h id i j sub F h2:=
 arX a b (kW c) (by simpa using hi) (Tf hc) (by rw[<-hd];exact MW hc) (Td b hd.symm) hp hj hs.symm ho d f l
theorem abJ {cs:List (List PV)} {a b:List PV} {c:List (List PV)} {N:Nat} {q:Nat->List PV} (hp:∀k,k<n2->∀x,x∈f2 k->cP x=true\/eH x=true) (ho:h[id]? =some (.row g sz n e (Qa (kW cs) N q)):=by rfl) (hc:cs[i]? =some a:=by rfl) (hj:a[j]? =some (.own sub g2 0 n2):=by rfl)
  (d:h[sub]? =some (.row g2 oh n2 e2 f2):=by rfl) (hs:a.set j (.fG oh n2 e2 f2 F)=b:=by rfl) (hd:cs.set i b=c:=by rfl) (f:Nat.blt i N=true:=by rfl) (l:id≠sub:=by decide) {h2:List ao} (m:h2=(h.set id (.row g sz n e (Qa (kW c) N q))).set sub .dead:=by rfl) (hi:i<n:=by omega):EZ h id i j sub F h2:=
 arX a b (Qa (kW c) N q) hi (by unfold Qa;rw[f];exact Tf hc) (by unfold Qa;rw[f,<-hd];exact MW hc) (arV (by simpa using f) (Td b hd.symm)) hp hj hs.symm ho d l m
end
theorem Fz.oe {h η:List ao} {k:List Nat} {id a g b sz i j c n2 d:Nat} {e e':TypeId} {f l:Nat->List PV} (h1:c=n2:=by first | rfl | exact DR.len aUL | exact(DR.len aUL).symm) (h2:n2=d:=by first | rfl | exact DR.len aUL | exact(DR.len aUL).symm) (m:k[a]? =some id:=by rfl) (ho:h[id]? =some (ao.row g sz j e f):=by rfl) (hη:η[a]? =some (ao.row b i d e' l):=by rfl):Fz h η k (.own id g 0 c) (.own a b 0 n2):=Fz.od h1 h2 m ho hη
section
variable {h η:List ao}{k:List Nat}{m:Nat}
theorem wx.n:wx h η k [] []:=trivial
theorem wx.c {a b:PV} {l r:List PV} (h1:Fz h η k a b) (h2:wx h η k l r):wx h η k (a::l) (b::r):=⟨h1,h2⟩
theorem Az.n {env:Env}:Az h η k env []:=trivial
theorem Az.c {env:Env} {t:Nat} {v:PV} {r:List (Nat×PV)} (h1:Fz h η k (env t) v) (h2:Az h η k env r):Az h η k env ((t,v)::r):=⟨h1,h2⟩
theorem mC.n {i:Nat}:mC h η k m i [] []:=trivial
theorem mC.c {i id:Nat} {o:ao} {r:List ao} {r':List Nat} (h1:zM h η k m o i id) (h2:mC h η k m (i+1) r r'):mC h η k m i (o::r) (id::r'):=⟨h1,h2⟩
theorem nwz {α:Type} {D:List PV->α->Prop} {c:α->List PV} {l:List α} {n:Nat} {f:Nat->List PV} (d:DR D n f l) [hc:Dcl D c] {i id g j sz b a:Nat} {e:TypeId} (ho:h[id]? =some (ao.row g sz b e f):=by rfl) (o:a=b:=by first | rfl | exact DR.len aUL | exact(DR.len aUL).symm) (hle:a=n:=by first | rfl | exact DR.len aUL | exact(DR.len aUL).symm) (hi:Nat.ble m i=true:=by rfl):zM h η k m (.row j sz a e f) i id:=nwd (c:=c) d o hle hi ho
end
theorem Gj {p:Prop} (h:p:=by exact nwz aUL):p:=h
theorem rs {α:Type} {D:List PV->α->Prop} {n:Nat} {f:Nat->List PV} {l:List α} (d:DR D n f l) {X:(Nat->List PV)->PV} {H:(Nat->List PV)->List ao}:∃F,DR D l.length F l/\X f=X F/\H f=H F:=⟨f,d.self,rfl,rfl⟩
end Go.Am
namespace Go.Am
open Go Go.RowKit Go.Proofs
mutual
inductive ae where
 | mk (ah:Int) (aE:Int) (al:av) (af:List ae)
end
def ae.ah:ae->Int | .mk x _ _ _=>x
def ae.aE:ae->Int | .mk _ x _ _=>x
def ae.al:ae->av | .mk _ _ x _=>x
def ae.af:ae->List ae | .mk _ _ _ x=>x
@[simp] theorem ae.tV (a0:Int) (a:Int) (b:av) (c:List ae):(ae.mk a0 a b c).ah=a0:=rfl
@[simp] theorem ae.uU (a0:Int) (a:Int) (b:av) (c:List ae):(ae.mk a0 a b c).aE=a:=rfl
@[simp] theorem ae.mG (a0:Int) (b:Int) (a:av) (c:List ae):(ae.mk a0 b a c).al=a:=rfl
@[simp] theorem ae.kU (a0:Int) (b:Int) (c:av) (a:List ae):(ae.mk a0 b c a).af=a:=rfl
instance:Inhabited ae:=⟨.mk 0 0 [] []⟩
mutual
def ae.cells:ae->List PV | .mk a0 b c a=>[.int .i64 a0]++[.int .i64 b]++[.str c]++[.im 4 a.length (λi=>(ae.JV a).getD i [])]
def ae.JV:List ae->List (List PV) | []=>[] | x::r=>x.cells::ae.JV r
end
theorem ae.E1:∀(l:List ae),ae.JV l=l.map ae.cells
 | []=>rfl
 | a::r=>by unfold ae.JV;rw[ae.E1 r];rfl
abbrev ae.lit (x:ae):List PV:=[.int .i64 x.ah,.int .i64 x.aE,.str x.al,sl 4 ae.cells x.af]
theorem ae.aw (x:ae):x.cells=x.lit:=by
 cases x with
 | mk a0 a b c=>
  unfold ae.cells;rw[ae.E1];rfl
theorem ae.jg (x:ae):x.cells.all cP=true:=by rw[ae.aw];rfl
instance:ur ae.cells:=⟨ae.jg⟩
structure acV where
 aOC:Unit
 aPk:List UInt8
 deriving DecidableEq,Inhabited
structure aFj where
 aFk:acV
 deriving DecidableEq,Inhabited
structure ai where
 ah:Int
 aE:Int
 al:av
 bF:Int
 deriving DecidableEq,Inhabited
abbrev ai.lit (x:ai):List PV:=[.int .i64 x.ah,.int .i64 x.aE,.str x.al,.int .i64 x.bF]
def ai.cells (x:ai):List PV:=x.lit
theorem ai.aw (x:ai):x.cells=x.lit:=rfl
theorem ai.jg (x:ai):x.cells.all cP=true:=rfl
instance:ur ai.cells:=⟨ai.jg⟩
structure aP where
 fT:List ai
 fI:Int
 ay:Int
 ax:Int
 deriving DecidableEq,Inhabited
abbrev aP.lit (x:aP):List PV:=[sl 4 ai.cells x.fT,.int .i64 x.fI,.int .i64 x.ay,.int .i64 x.ax]
def aP.cells (x:aP):List PV:=x.lit
theorem aP.aw (x:aP):x.cells=x.lit:=rfl
theorem aP.jg (x:aP):x.cells.all cP=true:=rfl
instance:ur aP.cells:=⟨aP.jg⟩
structure ak where
 aq:List ai
 bF:Int
 ay:Int
 ax:Bool
 deriving DecidableEq,Inhabited
abbrev ak.lit (x:ak):List PV:=[sl 4 ai.cells x.aq,.int .i64 x.bF,.int .i64 x.ay,.bool x.ax]
def ak.cells (x:ak):List PV:=x.lit
theorem ak.aw (x:ak):x.cells=x.lit:=rfl
theorem ak.jg (x:ak):x.cells.all cP=true:=rfl
instance:ur ak.cells:=⟨ak.jg⟩
structure bG where
 fS:av
 bF:Int
 cb:List ai
 ee:Int
 deriving DecidableEq,Inhabited
abbrev bG.lit (x:bG):List PV:=[.str x.fS,.int .i64 x.bF,sl 4 ai.cells x.cb,.int .i64 x.ee]
def bG.cells (x:bG):List PV:=x.lit
theorem bG.aw (x:bG):x.cells=x.lit:=rfl
theorem bG.jg (x:bG):x.cells.all cP=true:=rfl
instance:ur bG.cells:=⟨bG.jg⟩
structure aL where
 fB:List UInt8
 fI:Int
 fH:Int
 deriving DecidableEq,Inhabited
abbrev aL.lit (x:aL):List PV:=[sl 1 cB x.fB,.int .i64 x.fI,.int .i64 x.fH]
def aL.cells (x:aL):List PV:=x.lit
theorem aL.aw (x:aL):x.cells=x.lit:=rfl
theorem aL.jg (x:aL):x.cells.all cP=true:=rfl
instance:ur aL.cells:=⟨aL.jg⟩
instance:Fl1 ai.cells:=⟨λ_=>rfl⟩
inductive ae.D:List PV->ae->Prop
 | mk (x:ae) (n0:Nat) (F0:Nat->Prop) (Me:x.af.length=n0) (f0:Nat->List PV) (h0:∀i (hi:i<x.af.length),ae.D (f0 i) x.af[i]) (hz0:∀i,n0<=i->f0 i=[]):ae.D [.int .i64 x.ah,.int .i64 x.aE,.str x.al,.fG 4 n0 29 f0 F0] x
theorem ae.dS {x:ae} {b:Nat} {F0:Nat->Prop} {f0:Nat->List PV} (a:DR ae.D b f0 x.af):ae.D [.int .i64 x.ah,.int .i64 x.aE,.str x.al,.fG 4 b 29 f0 F0] x:=.mk x _ _ a.len _ a.at_ a.z
theorem ae.aka {cs:List PV} {x:ae} (h:ae.D cs x):∃(F0:Nat->Prop),∃f0:Nat->List PV,cs=[.int .i64 x.ah,.int .i64 x.aE,.str x.al,.fG 4 x.af.length 29 f0 F0]/\DR ae.D x.af.length f0 x.af:=by
 cases h with
 | mk _ c F0 b f0 h0 a=>subst b;exact⟨F0,f0,rfl,⟨rfl,h0,a⟩⟩
theorem ae.aFl:∀cs x,ae.D cs x->HA cs x.cells:=λcs x h=>ae.D.rec (motive:=λcs x _=>HA cs x.cells) (λx d F0 b f0 h0 c a=>by rw[ae.aw];exact⟨.p rfl,.p rfl,.p rfl,.o (acT a b 4 29 F0),trivial⟩) h
instance:Dcl ae.D ae.cells:=⟨ae.aFl⟩
theorem ae.ar0:∀cs x,ae.D cs x->xw cs:=λcs x h=>ae.D.rec (motive:=λcs x _=>xw cs) (λx d F0 b f0 h0 c a=>(arY (arY (arY (aL1 (λi hi=>a i (Nat.lt_of_lt_of_eq hi b.symm)) aL0))))) h
instance:Dfl ae.D:=⟨ae.ar0⟩
def ar1:ru:=yL [(3,.int .i64),
 (4,.bool),
 (5,.int .u8),
 (9,.str),
 (22,.slice 24 4 56 [.int .i64 0,.int .i64 0,.str [],.bR]),
 (24,.struct 4 [(0,1,false),(1,1,false),(2,1,false),(3,1,false)] [.int .i64 0,.int .i64 0,.str [],.bR]),
 (27,.slice 29 4 56 [.int .i64 0,.int .i64 0,.str [],.bR]),
 (29,.struct 4 [(0,1,false),(1,1,false),(2,1,false),(3,1,false)] [.int .i64 0,.int .i64 0,.str [],.bR]),
 (39,.slice 5 1 1 [.int .u8 0]),
 (49,.struct 2 [(0,1,false),(1,1,false)] [.jk,.bR]),
 (51,.struct 2 [(0,2,true)] [.jk,.bR]),
 (58,.slice 101 4 40 [.int .i64 0,.int .i64 0,.str [],.int .i64 0]),
 (62,.struct 4 [(0,1,false),(1,1,false),(2,1,false),(3,1,false)] [.bR,.int .i64 0,.int .i64 0,.int .i64 0]),
 (67,.struct 4 [(0,1,false),(1,1,false),(2,1,false),(3,1,false)] [.bR,.int .i64 0,.int .i64 0,.bool false]),
 (78,.slice 9 1 16 [.str []]),
 (88,.ptr 5),
 (101,.struct 4 [(0,1,false),(1,1,false),(2,1,false),(3,1,false)] [.int .i64 0,.int .i64 0,.str [],.int .i64 0]),
 (107,.struct 4 [(0,1,false),(1,1,false),(2,1,false),(3,1,false)] [.str [],.int .i64 0,.bR,.int .i64 0]),
 (117,.struct 3 [(0,1,false),(1,1,false),(2,1,false)] [.bR,.int .i64 0,.int .i64 0]),
 (120,.slice 3 1 8 [.int .i64 0])]
theorem agK:fL Tryz.prog ar1:=aFm aUJ
theorem mixed:Tryz.prog.follows .mixedOrders=true:=by kernel_rfl
theorem eV {f:FuncId} {fn:Func} {c:Code} {args:List PV} {h:List ao} {R:PV->List ao->Prop} (hf:Tryz.prog.funcs[f]? =some fn) (hv:vc Tryz.prog ar1 h.length c (aFn ar1 fn.results.toList h.length R) (xx args) h) (a:fn.body=some c:=by rfl) (b:(fn.name== "runtime.NumGoroutine")=false:=by kernel_rfl) (d:Nat.ble args.length fn.ntmps=true:=by rfl) (e:codeOk fn.ntmps c=true:=by kernel_rfl):ACall Tryz.prog f args h R:=ACall.aFo agK mixed hf a b _ _ _ d e hv
variable {h η:List ao}{k:List Nat}{m:Nat}
def FzC {α:Type} (h η:List ao) (k:List Nat) (c:α->List PV):List (List PV)->List α->Prop
 | [],[]=>True
 | a::r,x::s=>wx h η k a (c x)/\FzC h η k c r s
 | _,_=>False
theorem FzC.get {α:Type} {c:α->List PV}:∀{cs:List (List PV)} {l:List α},FzC h η k c cs l->∀i,i<l.length->wx h η k (kW cs i) (row c l i)
 | [],[],_,i,hi=>absurd hi (aSk i)
 | a::r,x::s,H,0,hi=>H.1
 | a::r,x::s,H,i+1,hi=>FzC.get (cs:=r) (l:=s) H.2 i (Nat.lt_of_succ_lt_succ hi)
 | [],_::_,H,_,_=>H.elim
 | _::_,[],H,_,_=>H.elim
theorem fzC {α:Type} {c:α->List PV} {a b:List PV} {x:α} {r:List (List PV)} {s:List α} (e:c x=b) (F:wx h η k a b) (t:FzC h η k c r s):FzC h η k c (a::r) (x::s):=⟨by rw[e];exact F,t⟩
theorem Fz.rl {α:Type} {c:α->List PV} [ur c] {id g sz n a:Nat} {e:TypeId} {cs:List (List PV)} {l:List α} (ho:h[id]? =some (ao.row g sz n e (kW cs))) (H:FzC h η k c cs l) (d:a=l.length) (f:id∉k:=by first | decide | simp):Fz h η k (.own id g 0 a) (sl sz c l):=by
 subst d;refine .frz id g sz n 0 l.length e (kW cs) (row c l) f ho (λi hi=>by rw[aRf];exact(wx.get _ _ (H.get i hi)).1) (λi j b hi h2=>?_) (λi j pv b hi h1 h2 _=>?_)
 ·rw[oW hi]at h2;exact aRg.1 (ur.pure (c:=c) l[i]) _ (aRq h2)
 ·rw[aRf]at h1;exact(wx.get _ _ (H.get i hi)).2 j pv b h1 h2
theorem nwl {α:Type} {c:α->List PV} [ur c] {i id g a sz n:Nat} {e:TypeId} {cs:List (List PV)} {l:List α} (ho:h[id]? =some (ao.row g sz n e (kW cs))) (H:FzC h η k c cs l) (b:n=l.length) (hi:Nat.ble m i=true:=by rfl):zM h η k m (.row a sz l.length e (row c l)) i id:=by
 unfold zM;rw[ho];exact⟨λh0=>absurd h0 (Nat.not_lt.2 (aRC hi)),rfl,.inl b.symm,rfl,λj hj=>H.get j aUV⟩
theorem aFp:∀l:List ae,CLL (l.map ae.lit) (l.map ae.cells)
 | []=>trivial
 | x::r=>eX (ae.aw x) (oG.refl _) (aFp r)
theorem gz (l:List ae) {n:Nat} {cs:List (List PV)} (a:n=l.length:=by rfl) (hc:cs=l.map ae.lit:=by rfl):∀i,i<n->oG (cs.getD i []) (row ae.cells l i):=bZ ae.cells l a (by rw[hc];exact aFp l)
end Go.Am
namespace Go.Am
open Go Go.RowKit
section
variable {P:Program}{f:FuncId}{h:List ao}{K:PV->List ao->Prop}
end
theorem RJ {P:Program} {f:FuncId} {args:List PV} {h:List ao} {K:PV->List ao->Prop} {r:PV} (a:ACall P f args h (λres h'=>res=r/\h'=h)) (k:K r h):vH P f args h K:=
 ⟨_,a,by rintro _ _ ⟨rfl,rfl⟩;exact k⟩
end Go.Am
namespace Go.Am
open Go Go.RowKit Go.Proofs
theorem QY (k:Int) (s:av) (a:Option Addr) (l c:Nat) (w:World):
  Calls Tryz.prog 106 #[.int .i64 k,.string ⟨⟨s⟩⟩,.slice a l c] w λe w'=>e=.returned (.agg #[.int .i64 k,.int .i64 0,.string ⟨⟨s⟩⟩,.slice a l c])/\Below w.heap.size w w':=by
 go_enter Tryz.func106,Tryz.ntmps106
 go_wp2
 exact bodyPost_ret (v:=.agg #[.int .i64 k,.int .i64 0,.string ⟨⟨s⟩⟩,.slice a l c]) (by simp [results,Tryz.results106,go_sem]) rfl ⟨rfl,(Below.refl _ _).alloc (Of _) _⟩
def ar2:PV->Bool
 | .bR=>true
 | .own _ _ _ _=>true
 | _=>false
theorem jz (k:Int) (t:av) (v:PV) (h:List ao) (hv:ar2 v=true):ACall Tryz.prog 106 [.int .i64 k,.str t,v] h (λres h'=>res=.agg [.int .i64 k,.int .i64 0,.str t,v]/\h'=h):=by
 refine⟨⟨_,_,Tryz.func106,rfl,by kernel_rfl⟩,λw vs μ S A i B m=>?_⟩;obtain⟨C,q,r0⟩:=m 0 _ rfl;obtain⟨D,q1,r1⟩:=m 1 _ rfl;obtain⟨p,r,b⟩:=m 2 _ rfl;have r0:bh S w (.int .i64 k) C:=r0;have r1:bh S w (.str t) D:=r1;cases r0;cases r1
 have hs:∃a l c,p=.slice a l c:=by
  cases v with
  | bR=>
   have b:bh S w .bR p:=b;cases b;exact⟨_,_,_,rfl⟩
  | own id g o n=>
   have b:bX μ h w id g o n p:=b;exact b.1
  | _=>cases hv
 obtain⟨a,l,c,rfl⟩:=hs
 have e:vs=#[.int .i64 k,.string ⟨⟨t⟩⟩,.slice a l c]:=by
  obtain⟨s⟩:=vs;rcases s with _ | ⟨x,_ | ⟨y,_ | ⟨z,_ | ⟨u,s⟩⟩⟩⟩<;>simp at B;simp at q q1 r;subst q;subst q1;subst r;rfl
 subst e;refine(QY k t a l c w).mono ?_;rintro e w' ⟨rfl,d⟩;have f:dt w w':=⟨d.block,d.size,d.os,d.tape,d.output⟩;refine⟨_,_,h,μ,S,rfl,⟨rfl,rfl⟩,?_,A.agree f i,i.agree f,Fr.tH f⟩;refine⟨_,rfl,rfl,λj pv hj=>?_⟩
 match j,hj with
 | 0,hj=>cases hj;exact⟨_,rfl,bh.int _ _⟩
 | 1,hj=>cases hj;exact⟨_,rfl,bh.int _ _⟩
 | 2,hj=>cases hj;exact⟨_,rfl,bh.str _⟩
 | 3,hj=>
  cases hj;refine⟨_,rfl,?_⟩
  have b:db μ h S w v (.slice a l c):=by
   cases v with
   | bR=>exact b
   | own id g o n=>exact b
   | _=>cases hv
  exact db.fr (Fr.tH f) i b
abbrev pI (x:Int):PV:=.int .i64 x
abbrev kJ:=((Unit) ⊕ Bool)
abbrev rn:=(ae×aP)
abbrev lO:=(ae×ak)
abbrev afo:=((List ae)×aP)
abbrev PJ:=((List ae)×ak)
abbrev vK:=((Unit) ⊕ kJ)
abbrev arO:=((List ai)×Int×Int)
abbrev agL:=(Int×Int×av×(List ae))
abbrev agt:=(av×Int×Int×(List ai))
abbrev afw:=((List ai)×Int×Int×Int×Bool)
abbrev T9:=((List ai)×Int×Int×Bool×Bool)
abbrev aPl:=((List ae)×(List ae)×(List ae))
abbrev aPm:=(((List ai)) ⊕ arO)
abbrev Gl:=((List ai)×Int×Int×Int×(List ae))
abbrev D1:=((List ai)×Int×Int×Bool×(List ae))
abbrev ty9:=((List ai)×Int×Int×Int×(List ae)×(List ae))
abbrev ty8:=((List ai)×Int×Int×Bool×(List ae)×(List ae))
abbrev ty7:=(Gl ⊕ afo)
abbrev ty6:=(D1 ⊕ PJ)
abbrev ty5:=((List ai)×Int×Int×Int×(List ae)×Int×Int×av×(List ae))
abbrev ZE:=((List ai)×Int×Int×Bool×(List ae)×Int×Int×av×(List ae))
abbrev ty3:=(ty9 ⊕ rn)
abbrev ty2:=(ty8 ⊕ lO)
abbrev ty1:=(ty5 ⊕ rn)
abbrev ty0:=(ZE ⊕ lO)
def FJ (n:FuncId) (a0:ak) (r:ae×ak) (aj:Nat):Prop:=ACall Tryz.prog n [.aI 0 aj 0 0] [.row aj 4 1 67 (λ_=>a0.lit)] (λres h=>∃F1:Nat->List PV,DR ae.D r.1.af.length F1 r.1.af/\res=.agg [pI r.1.ah,pI r.1.aE,.str r.1.al,.own 1 0 0 r.1.af.length]/\h=[.row aj 4 1 67 (λ_=>r.2.lit),.row 0 4 r.1.af.length 29 F1])
def FE (n:FuncId) (a0:ae) (r:Bool):Prop:=ACall Tryz.prog n [.agg a0.lit] [] (λres h=>res=.bool r/\h=[])
def sg3 (n:FuncId) (a0:av) (r:Bool):Prop:=ACall Tryz.prog n [.str a0] [] (λres h=>res=.bool r/\h=[])
def sg4 (n:FuncId) (a0:ae) (r:Int):Prop:=ACall Tryz.prog n [.agg a0.lit] [] (λres h=>res=pI r/\h=[])
def sg5 (n:FuncId) (a0:List ae) (r:Bool):Prop:=ACall Tryz.prog n [sl 4 ae.cells a0] [] (λres h=>res=.bool r/\h=[])
def sg6 (n:FuncId) (a0:Int) (r:av):Prop:=ACall Tryz.prog n [pI a0] [] (λres h=>res=.str r/\h=[])
def sg7 (n:FuncId) (a0:ae) (a:Int) (r:Int):Prop:=ACall Tryz.prog n [.agg a0.lit,pI a] [] (λres h=>res=pI r/\h=[])
def sg8 (n:FuncId) (a0:Int) (r:Bool):Prop:=ACall Tryz.prog n [.int .u8 a0] [] (λres h=>res=.bool r/\h=[])
def sg9 (n:FuncId) (a0:List ae) (a:Bool) (r:Bool):Prop:=ACall Tryz.prog n [sl 4 ae.cells a0,.bool a] [] (λres h=>res=.bool r/\h=[])
def aoT (n:FuncId) (a0:ak) (r:(List ae)×ak) (aj:Nat):Prop:=ACall Tryz.prog n [.aI 0 aj 0 0] [.row aj 4 1 67 (λ_=>a0.lit)] (λres h=>∃F1:Nat->List PV,DR ae.D r.1.length F1 r.1/\res=.own 1 0 0 r.1.length/\h=[.row aj 4 1 67 (λ_=>r.2.lit),.row 0 4 r.1.length 29 F1])
def axP (n:FuncId) (a0:ak) (a:Int) (r:ae×ak) (aj:Nat):Prop:=ACall Tryz.prog n [.aI 0 aj 0 0,pI a] [.row aj 4 1 67 (λ_=>a0.lit)] (λres h=>∃F1:Nat->List PV,DR ae.D r.1.af.length F1 r.1.af/\res=.agg [pI r.1.ah,pI r.1.aE,.str r.1.al,.own 1 0 0 r.1.af.length]/\h=[.row aj 4 1 67 (λ_=>r.2.lit),.row 0 4 r.1.af.length 29 F1])
def aE6 (n:FuncId) (a0:av) (r:Int):Prop:=ACall Tryz.prog n [.str a0] [] (λres h=>res=pI r/\h=[])
def aFq (n:FuncId) (a0:Int) (a:Int) (r:Int):Prop:=ACall Tryz.prog n [pI a0,pI a] [] (λres h=>res=pI r/\h=[])
def aEY (n:FuncId) (a0:bG) (r:bG) (aj:Nat) (bW:Nat):Prop:=ACall Tryz.prog n [.aI 0 aj 0 0] [.row aj 4 1 107 (λ_=>[.str a0.fS,pI a0.bF,.own 1 bW 0 a0.cb.length,pI a0.ee]),.row bW 4 a0.cb.length 101 (row ai.cells a0.cb)] (λres h=>∃a:Nat,res=.gJ []/\h=[.row aj 4 1 107 (λ_=>[.str r.fS,pI r.bF,.own 1 a 0 r.cb.length,pI r.ee]),.row a 4 r.cb.length 101 (row ai.cells r.cb)])
def aEZ (n:FuncId) (a0:bG) (b:av) (r:bG) (aj:Nat) (bW:Nat):Prop:=ACall Tryz.prog n [.aI 0 aj 0 0,.str b] [.row aj 4 1 107 (λ_=>[.str a0.fS,pI a0.bF,.own 1 bW 0 a0.cb.length,pI a0.ee]),.row bW 4 a0.cb.length 101 (row ai.cells a0.cb)] (λres h=>∃a:Nat,res=.gJ []/\h=[.row aj 4 1 107 (λ_=>[.str r.fS,pI r.bF,.own 1 a 0 r.cb.length,pI r.ee]),.row a 4 r.cb.length 101 (row ai.cells r.cb)])
def aI1 (n:FuncId) (a0:av) (r:ae×Int×Int):Prop:=ACall Tryz.prog n [.str a0] [] (λres h=>∃F0:Nat->List PV,DR ae.D r.1.af.length F0 r.1.af/\res=.gJ [.agg [pI r.1.ah,pI r.1.aE,.str r.1.al,.own 0 0 0 r.1.af.length],pI r.2.1,pI r.2.2]/\h=[.row 0 4 r.1.af.length 29 F0])
def aI2 (n:FuncId) (a0:av) (r:ae×Int):Prop:=ACall Tryz.prog n [.str a0] [] (λres h=>∃F0:Nat->List PV,DR ae.D r.1.af.length F0 r.1.af/\res=.gJ [.agg [pI r.1.ah,pI r.1.aE,.str r.1.al,.own 0 0 0 r.1.af.length],pI r.2]/\h=[.row 0 4 r.1.af.length 29 F0])
def aG8 (n:FuncId) (a0:ak) (a:Bool) (r:ae×ak) (aj:Nat):Prop:=ACall Tryz.prog n [.aI 0 aj 0 0,.bool a] [.row aj 4 1 67 (λ_=>a0.lit)] (λres h=>∃F1:Nat->List PV,DR ae.D r.1.af.length F1 r.1.af/\res=.agg [pI r.1.ah,pI r.1.aE,.str r.1.al,.own 1 0 0 r.1.af.length]/\h=[.row aj 4 1 67 (λ_=>r.2.lit),.row 0 4 r.1.af.length 29 F1])
theorem Ee {p:Prop} (h:p:=by exact⟨(uC rfl),(nb rfl ⟨.i,.i,.s,.oe,⟨⟩⟩),Gj,(nb rfl ⟨.i,.i,.s,.oe,⟨⟩⟩),Gj,⟨⟩⟩):p:=h
theorem mq {p:Prop} (h:p:=by exact(.cr ⟨.i,.i,.s,.oe,⟨⟩⟩)):p:=h
theorem kV {p:Prop} (h:p:=by exact⟨(ob rfl ⟨.l,.i,.i,.b,⟨⟩⟩),Gj,⟨⟩⟩):p:=h
theorem tz4 {p:Prop} (h:p:=by exact⟨(uC rfl),(nb rfl ⟨.i,.i,.s,.g,⟨⟩⟩),gh,(nb rfl ⟨.i,.i,.s,.oe,⟨⟩⟩),Gj,⟨⟩⟩):p:=h
theorem tz5 {p:Prop} (h:p:=by exact⟨(uC rfl),(nb rfl ⟨.i,.i,.s,(.od aVk),⟨⟩⟩),(nwd (DR.nil (D:=ae.D))),(nb rfl ⟨.i,.i,.s,.oe,⟨⟩⟩),Gj,⟨⟩⟩):p:=h
theorem rS {p:Prop} (h:p:=by exact⟨(ob rfl ⟨.s,.i,.o,.i,⟨⟩⟩),od,⟨⟩⟩):p:=h
theorem gK {p:Prop} (h:p:=by exact⟨(vt rfl),⟨⟩⟩):p:=h
theorem tz8 {p:Prop} (h:p:=by exact⟨(uC rfl),(nb rfl ⟨.i,.i,.s,.g,⟨⟩⟩),gh,(nb rfl ⟨.i,.i,.s,.g,⟨⟩⟩),gh,⟨⟩⟩):p:=h
theorem NG {p:Prop} (h:p:=by exact(.cr ⟨.i,.i,.s,.g,⟨⟩⟩)):p:=h
theorem wg {p:Prop} (h:p:=by exact⟨.p,.p,.p,⟨⟩⟩):p:=h
theorem tl {p:Prop} (h:p:=by exact⟨(ob rfl ⟨.l,.i,.i,.b,⟨⟩⟩),⟨⟩⟩):p:=h
theorem aff {p:Prop} (h:p:=by exact⟨(uC rfl),(nb rfl ⟨.i,.i,.s,(.od aVk),⟨⟩⟩),(nwd (DR.nil (D:=ae.D))),⟨⟩⟩):p:=h
theorem yl {p:Prop} (h:p:=by exact⟨(ob rfl ⟨.l,.i,.i,.b,⟨⟩⟩),gh,⟨⟩⟩):p:=h
theorem pA {p:Prop} (h:p:=by exact⟨.p,.i,.i,.b,⟨⟩⟩):p:=h
theorem aBe {p:Prop} (h:p:=by exact⟨(uC rfl),(nb rfl ⟨.i,.i,.s,.oe,⟨⟩⟩),Gj,(nb rfl ⟨.i,.i,.s,.oe,⟨⟩⟩),Gj,(nb rfl ⟨.i,.i,.s,.oe,⟨⟩⟩),Gj,⟨⟩⟩):p:=h
theorem LZ {p:Prop} (h:p:=by exact⟨(uC rfl),(nb rfl ⟨.i,.i,.s,.g,⟨⟩⟩),gh,⟨⟩⟩):p:=h
theorem QZ {p:Prop} (h:p:=by exact⟨nw,⟨⟩⟩):p:=h
theorem afg {p:Prop} (h:p:=by exact⟨(nb rfl ⟨.i,.i,.s,.oe,⟨⟩⟩),Gj,(vt rfl),(nb rfl ⟨.i,.i,.s,.oe,⟨⟩⟩),Gj,⟨⟩⟩):p:=h
theorem MK {p:Prop} (h:p:=by exact⟨(ob rfl ⟨.s,.i,.o,.i,⟨⟩⟩),od,nw,⟨⟩⟩):p:=h
theorem AH {p:Prop} (h:p:=by exact⟨.p,.b,.b,.i,.b,⟨⟩⟩):p:=h
theorem afh {p:Prop} (h:p:=by exact(.vy ⟨.cr ⟨.i,.i,.s,.g,⟨⟩⟩,.i,⟨⟩⟩)):p:=h
theorem aaY {p:Prop} (h:p:=by exact⟨(uC rfl),(nb rfl ⟨.i,.i,.s,.g,⟨⟩⟩),gh,(vt rfl),⟨⟩⟩):p:=h
theorem aqj {p:Prop} (h:p:=by exact(.vy ⟨.cr ⟨.i,.i,.s,.g,⟨⟩⟩,.i,.i,⟨⟩⟩)):p:=h
theorem U9 {p:Prop} (h:p:=by exact⟨.s,.o,.i,⟨⟩⟩):p:=h
theorem Ii {p:Prop} (h:p:=by exact⟨.p,.i,.i,.b,.b,.i,.b,⟨⟩⟩):p:=h
theorem TH {p:Prop} (h:p:=by exact⟨(vt rfl),(vt rfl),⟨⟩⟩):p:=h
theorem PZ {p:Prop} (h:p:=by exact⟨.p,.b,.p,.p,⟨⟩⟩):p:=h
theorem rI {p:Prop} (h:p:=by exact(.vy ⟨⟩)):p:=h
theorem Bu {p:Prop} (h:p:=by exact⟨(uC rfl),Gj,⟨⟩⟩):p:=h
theorem PT {p:Prop} (h:p:=by exact⟨.p,.p,⟨⟩⟩):p:=h
theorem P9 {p:Prop} (h:p:=by exact⟨.p,.p,.p,.b,⟨⟩⟩):p:=h
theorem acG {p:Prop} (h:p:=by exact⟨(nb rfl ⟨.s,.i,.o,.i,⟨⟩⟩),nw,⟨⟩⟩):p:=h
theorem yp {p:Prop} (h:p:=by exact⟨.b,.b,⟨⟩⟩):p:=h
theorem TF {p:Prop} (h:p:=by exact⟨.p,.i,.i,.p,.b,.b,.b,⟨⟩⟩):p:=h
theorem QS {p:Prop} (h:p:=by exact⟨.l,.i,.i,⟨⟩⟩):p:=h
theorem U2 {p:Prop} (h:p:=by exact⟨.p,.i,.b,.b,.i,.b,⟨⟩⟩):p:=h
theorem FM {p:Prop} (h:p:=by exact⟨.p,.i,.i,⟨⟩⟩):p:=h
theorem MM {p:Prop} (h:p:=by exact⟨.s,.i,⟨⟩⟩):p:=h
theorem U3 {p:Prop} (h:p:=by exact⟨.p,.i,.l,.i,.i,⟨⟩⟩):p:=h
theorem xp {p:Prop} (h:p:=by exact⟨.p,⟨⟩⟩):p:=h
theorem ad2 {p:Prop} (h:p:=by exact⟨.p,.i,.i,.b,.b,.b,.b,⟨⟩⟩):p:=h
theorem MI {p:Prop} (h:p:=by exact⟨.p,.s,.i,⟨⟩⟩):p:=h
theorem Us {p:Prop} (h:p:=by exact⟨.p,.p,.b,⟨⟩⟩):p:=h
theorem aLO {p:Prop} (h:p:=by exact(.vy ⟨.i,.b,⟨⟩⟩)):p:=h
theorem acv {p:Prop} (h:p:=by exact⟨.p,.i,.b,.i,.b,⟨⟩⟩):p:=h
theorem U4 {p:Prop} (h:p:=by exact⟨.p,.s,.o,.i,⟨⟩⟩):p:=h
theorem U6 {p:Prop} (h:p:=by exact⟨.p,.s,.i,.b,⟨⟩⟩):p:=h
theorem aAg {p:Prop} (h:p:=by exact⟨.p,.i,.p,.p,⟨⟩⟩):p:=h
theorem P2 {p:Prop} (h:p:=by exact⟨.p,.oe,⟨⟩⟩):p:=h
theorem Dq {p:Prop} (h:p:=by exact⟨.i,⟨⟩⟩):p:=h
theorem JW {p:Prop} (h:p:=by exact⟨.i,.b,⟨⟩⟩):p:=h
theorem Qd {p:Prop} (h:p:=by exact⟨gh,⟨⟩⟩):p:=h
theorem aE7 {p:Prop} (h:p:=by exact⟨.p,.i,.oe,⟨⟩⟩):p:=h
theorem ar3 {p:Prop} (h:p:=by exact⟨.p,.i,.b,⟨⟩⟩):p:=h
theorem agp {p:Prop} (h:p:=by exact⟨.b,.b,.l,.i,.i,⟨⟩⟩):p:=h
theorem adZ {p:Prop} (h:p:=by exact⟨.l,.b,.b,.i,.i,⟨⟩⟩):p:=h
theorem Od {p:Prop} (h:p:=by exact⟨.p,.i,⟨⟩⟩):p:=h
theorem ae8 {p:Prop} (h:p:=by exact⟨.p,.b,.p,.p,.b,⟨⟩⟩):p:=h
theorem aE8 {p:Prop} (h:p:=by exact⟨.p,.i,.oe,.p,⟨⟩⟩):p:=h
theorem ar4 {p:Prop} (h:p:=by exact⟨.s,.i,.i,⟨⟩⟩):p:=h
def A6 (a0:Int) (a:Int) (b:Int):Option (Bool):=if a0>=a then some (decide (a0<=b))else some false
theorem tC {a0:Int} {a:Int} {b:Int} {r:Bool} (h:A6 a0 a b=some r):ACall Tryz.prog 146 [pI a0,pI a,pI b] [] (λres h=>res=.bool r/\h=[]):=by
 refine eV Tryz.func146 ?_;unfold A6 at h;refine .d (.d (sD h (λc h=>?_) (λc h=>?_)));exact .t (.t (.t (eB h)));exact aUv
def NK (a0:Int) (a:Int) (b:Int):Option (Bool):=if a<=a0 then some (decide (a0<=b))else some false
theorem Gy {a0:Int} {a:Int} {b:Int} {r:Bool} (h:NK a0 a b=some r):ACall Tryz.prog 135 [pI a0,pI a,pI b] [] (λres h=>res=.bool r/\h=[]):=by
 refine eV Tryz.func135 ?_;unfold NK at h;refine .d (.d (sD h (λc h=>?_) (λc h=>?_)));exact .t (.t (.t (eB h)));exact aUv
def nR (a0:Int):Option (Bool):=if a0>=65 then if a0<=90 then some true else if a0>=97 then some (decide (a0<=122))else some false else if a0>=97 then some (decide (a0<=122))else some false
theorem GC {a0:Int} {r:Bool} (h:nR a0=some r):sg8 206 a0 r:=by
 refine eV Tryz.func206 ?_;unfold nR at h;refine .d (.d (sD h (λa h=>?_) (λa h=>?_)));refine .t (.t (sD h (λb h=>?_) (λb h=>?_)));exact .t (.t (.t (.t (eB h))));refine .f (.f (sD h (λc h=>?_) (λc h=>?_)));exact .t (.f (.t (.f (eB h))));exact .f (.f (.f (.f (eB h))));refine .f (.f (.f (.f (.f (sD h (λe h=>?_) (λe h=>?_))))));exact .t (.f (.t (.f (eB h))));exact .f (.f (.f (.f (eB h))))
def lS (a0:Int):Option (Bool):=if a0>=48 then some (decide (a0<=57))else some false
theorem vb {a0:Int} {r:Bool} (h:lS a0=some r):sg8 172 a0 r:=by
 refine eV Tryz.func172 ?_;unfold lS at h;refine .d (.d (sD h (λa h=>?_) (λa h=>?_)));exact .t (.t (eB h));exact .f (.f (eB h))
def mL (a0:Int):Option (Bool):=A6 (bq (a0)) 97 122>>=λa=>if a then some true else A6 (bq (a0)) 65 90>>=λb=>if b then some true else some (a0==95)
theorem E2 {a0:Int} {r:Bool} (h:mL a0=some r):sg8 161 a0 r:=by
 refine eV Tryz.func161 ?_;unfold mL at h;refine .d (.d (bk h λg a h=>(bO (tC a) (sV h (λb h=>?_) (λb h=>?_)))));exact .t (.t (.t (.t (.t (.t (eB h))))));refine .f (.f (bk h λi c h=>(bO (tC c) (.f (sV h (λe h=>?_) (λe h=>?_))))));exact .t (.t (eB h));exact .f (.f (eB h))
def nU (a0:Int):Option (Bool):=A6 (bq (a0)) 48 57>>=λa=>some a
theorem GD {a0:Int} {r:Bool} (h:nU a0=some r):sg8 162 a0 r:=by
 refine eV Tryz.func162 ?_;unfold nU at h;exact .d (.d (bk h λb a h=>(bO (tC a) (eB h))))
def c6 (a0:av) (y5:Int):Option (Int):=if y5<(a0.length:Int)then lz a0 y5>>=λc9=>nR (c9.toNat:Int)>>=λa=>if a then c6 a0 (bq (y5+1))else lz a0 y5>>=λb=>if(b.toNat:Int)=95 then c6 a0 (bq (y5+1))else if y5>0 then lz a0 y5>>=λc=>lS (c.toNat:Int)>>=λd=>if d then c6 a0 (bq (y5+1))else some y5 else some y5 else some y5 partial_fixpoint
def er (a0:av):Option (Int):=(c6 a0 0:Option (Int))>>=λy1=>some y1
theorem mW {a0:av} {r:Int} (h:er a0=some r):aE6 171 a0 r:=by
 refine eV Tryz.func171 ?_;unfold er at h;refine .d (.d ?_);obtain⟨b,h,Dp⟩:=bd h;refine .cut (λσ η=>∃y1,y1=b/\σ=[(3,pI y1)]/\η=[]) ?_ ?_;refine le (c6.partial_correctness a0 (motive:=λy5 a=>b=a->aX _ _ [(0,.str a0),(3,pI y5)] []) ?_ 0 b h rfl) (tk [] MM ⟨⟩);intro x c y5 a h e;subst e;refine aX.round (.d (.d (sD h (λn h=>?_) (λn h=>?_))));refine .t (.t (bk h λc9 k h=>⟨fW k,c9,fX k,(.t (bk h λo p h=>(bO (GC p) (.t (sV h (λq h=>?_) (λq h=>?_))))))⟩));exact .t (.t (.t (.t (.t (.t (.t (.t (.t (.t (.t (.t (.t (.t (lg (c _ _ h rfl) (tk [] MM ⟨⟩)))))))))))))));refine .f (.f (bk h λg l h=>⟨fW l,g,fX l,(.f (.t (.f (.t (sE h (λs h=>?_) (λs h=>?_))))))⟩));exact .t (.t (.t (.t (.t (.t (.t (lg (c _ _ h rfl) (tk [] MM ⟨⟩))))))));refine .f (.f (sD h (λu h=>?_) (λu h=>?_)));refine .t (.t (bk h λi m h=>⟨fW m,i,fX m,(.t (bk h λv j h=>(bO (vb j) (.f (.t (.t (.f (.t (sV h (λw h=>?_) (λw h=>?_))))))))))⟩));exact lg (c _ _ h rfl) (tk [] MM ⟨⟩);exact aUo;exact .f (.f (.f (.f (.f (.t (.f (.t (.f (ct ⟨_,si h,rfl,rfl⟩ (tk [] Dq ⟨⟩))))))))));exact .f (.f (.f (.f (.f (.f (.f (.f (.f (ct ⟨_,si h,rfl,rfl⟩ (tk [] Dq ⟨⟩))))))))));exact aTA
def oU (a0:av):Option (Bool):=if(a0.length:Int)<=20 then er a0>>=λa=>if a=(a0.length:Int)then some (!(a0==([]:av)))else some false else some false
theorem MX {a0:av} {r:Bool} (h:oU a0=some r):sg3 196 a0 r:=by
 refine eV Tryz.func196 ?_;unfold oU at h;refine .d (.d (sD h (λa h=>?_) (λa h=>?_)));refine .t (bk h λe b h=>(bO (mW b) (.t (.t (.t (.t (sE h (λc h=>?_) (λc h=>?_))))))));exact .t (.t (eB h));exact .f (.f (eB h));exact aUy
def lU (a0:av):Option (Bool):=if a0=([101,99,104,111]:av)then some true else if a0=([105,102]:av)then some true else if a0=([101,108,115,101]:av)then some true else if a0=([119,104,105,108,101]:av)then some true else if a0=([102,111,114,101,97,99,104]:av)then some true else if a0=([97,115]:av)then some true else if a0=([98,114,101,97,107]:av)then some true else if a0=([99,111,110,116,105,110,117,101]:av)then some true else if a0=([114,101,116,117,114,110]:av)then some true else if a0=([103,108,111,98,97,108]:av)then some true else if a0=([117,110,115,101,116]:av)then some true else if a0=([116,104,114,111,119]:av)then some true else if a0=([116,114,121]:av)then some true else if a0=([99,97,116,99,104]:av)then some true else if a0=([102,105,110,97,108,108,121]:av)then some true else if a0=([121,105,101,108,100]:av)then some true else if a0=([105,110,99,108,117,100,101]:av)then some true else if a0=([102,117,110,99,116,105,111,110]:av)then some true else if a0=([99,108,97,115,115]:av)then some true else if a0=([116,114,97,105,116]:av)then some true else if a0=([101,120,116,101,110,100,115]:av)then some true else if a0=([117,115,101]:av)then some true else if a0=([112,114,105,118,97,116,101]:av)then some true else if a0=([115,116,97,116,105,99]:av)then some true else if a0=([110,101,119]:av)then some true else if a0=([116,114,117,101]:av)then some true else if a0=([102,97,108,115,101]:av)then some true else if a0=([110,117,108,108]:av)then some true else some false
theorem CW {a0:av} {r:Bool} (h:lU a0=some r):sg3 197 a0 r:=by
 refine eV Tryz.func197 ?_;unfold lU at h;refine .d (.d (.d (.d (.d (sE h (λb h=>?_) (λb h=>?_))))));exact .kt b (.d (eB h));refine .d (sE h (λc h=>?_) (λc h=>?_));exact .kt c (.d (eB h));refine .d (sE h (λe h=>?_) (λe h=>?_));exact .kt e (.d (eB h));refine .d (sE h (λf h=>?_) (λf h=>?_));exact .kt f (.d (eB h));refine .d (sE h (λg h=>?_) (λg h=>?_));exact .kt g (.d (eB h));refine .d (sE h (λi h=>?_) (λi h=>?_));exact .kt i (.d (eB h));refine .d (sE h (λj h=>?_) (λj h=>?_));exact .kt j (.d (eB h));refine .d (sE h (λk h=>?_) (λk h=>?_));exact .kt k (.d (eB h));refine .d (sE h (λl h=>?_) (λl h=>?_));exact .kt l (.d (eB h));refine .d (sE h (λm h=>?_) (λm h=>?_));exact .kt m (.d (eB h));refine .d (sE h (λn h=>?_) (λn h=>?_));exact .kt n (.d (eB h));refine .d (sE h (λo h=>?_) (λo h=>?_));exact .kt o (.d (eB h));refine .d (sE h (λp h=>?_) (λp h=>?_));exact .kt p (.d (eB h));refine .d (sE h (λq h=>?_) (λq h=>?_));exact .kt q (.d (eB h));refine .d (sE h (λs h=>?_) (λs h=>?_));exact .kt s (.d (eB h));refine .d (sE h (λt h=>?_) (λt h=>?_));exact .kt t (.d (eB h));refine .d (sE h (λu h=>?_) (λu h=>?_));exact .kt u (.d (eB h));refine .d (sE h (λv h=>?_) (λv h=>?_));exact .kt v (.d (eB h));refine .d (sE h (λw h=>?_) (λw h=>?_));exact .kt w (.d (eB h));refine .d (sE h (λx h=>?_) (λx h=>?_));exact .kt x (.d (eB h));refine .d (sE h (λy h=>?_) (λy h=>?_));exact .kt y (.d (eB h));refine .d (sE h (λz h=>?_) (λz h=>?_));exact .kt z (.d (eB h));refine .d (sE h (λA h=>?_) (λA h=>?_));exact .kt A (.d (eB h));refine .d (sE h (λB h=>?_) (λB h=>?_));exact .kt B (.d (eB h));refine .d (sE h (λa h=>?_) (λa h=>?_));exact .kt a (.d (eB h));refine .d (sE h (λC h=>?_) (λC h=>?_));exact .kt C (.d (eB h));refine .d (sE h (λD h=>?_) (λD h=>?_));exact .kt D (.d (eB h));refine sE h (λE h=>?_) (λE h=>?_);exact aUh;exact aUh
def bK (a0:av):Option (Bool):=oU a0>>=λa=>if a then lU a0>>=λb=>some (!b)else some false
theorem cU {a0:av} {r:Bool} (h:bK a0=some r):sg3 133 a0 r:=by
 refine eV Tryz.func133 ?_;unfold bK at h;refine .d (.d (bk h λe a h=>(bO (MX a) (sV h (λb h=>?_) (λb h=>?_)))));exact .t (bk h λf c h=>(bO (CW c) (.t (.t (eB h)))));exact aUv
def kl (a0:av) (a:Int) (y5:Int):Option (Int):=if y5<(a0.length:Int)then lz a0 y5>>=λc9=>mL (c9.toNat:Int)>>=λb=>if b then kl a0 a (bq (y5+1))else if y5>a then lz a0 y5>>=λc=>nU (c.toNat:Int)>>=λd=>if d then kl a0 a (bq (y5+1))else some y5 else some y5 else some y5 partial_fixpoint
def pQ (a0:av) (a:Int):Option (Int):=(kl a0 a a:Option (Int))>>=λy1=>some y1
theorem JX {a0:av} {a:Int} {r:Int} (h:pQ a0 a=some r):ACall Tryz.prog 160 [.str a0,pI a] [] (λres h=>res=pI r/\h=[]):=by
 refine eV Tryz.func160 ?_;unfold pQ at h;refine .d (.d ?_);obtain⟨c,h,Dp⟩:=bd h;refine .cut (λσ η=>∃y1,y1=c/\σ=[(5,pI y1)]/\η=[]) ?_ ?_;refine le (kl.partial_correctness a0 a (motive:=λy5 b=>c=b->aX _ _ [(0,.str a0),(1,pI a),(5,pI y5)] []) ?_ a c h rfl) (tk [] ar4 ⟨⟩);intro u i y5 b h e;subst e;refine aX.round (.d (.d (sD h (λl h=>?_) (λl h=>?_))));refine .t (.t (bk h λc9 j h=>⟨fW j,c9,fX j,(.t (bk h λm n h=>(bO (E2 n) (.t (sV h (λo h=>?_) (λo h=>?_))))))⟩));exact .t (.t (.t (.t (.t (.t (.t (.t (lg (i _ _ h rfl) (tk [] ar4 ⟨⟩)))))))));refine .f (.f (.f (sD h (λp h=>?_) (λp h=>?_))));refine .t (.t (bk h λg k h=>⟨fW k,g,fX k,(.t (bk h λv q h=>(bO (GD q) (.f (.t (.t (.f (.t (sV h (λs h=>?_) (λs h=>?_))))))))))⟩));exact lg (i _ _ h rfl) (tk [] ar4 ⟨⟩);exact aUo;exact .f (.f (.f (.f (.f (.t (.f (.t (.f (ct ⟨_,si h,rfl,rfl⟩ (tk [] Dq ⟨⟩))))))))));exact .f (.f (.f (.f (.f (.f (.f (ct ⟨_,si h,rfl,rfl⟩ (tk [] Dq ⟨⟩))))))));exact aTA
def rk (a0:av):Option (Bool):=if(a0.length:Int)>=1 then if(a0.length:Int)<=20 then pQ a0 0>>=λa=>some (a==(a0.length:Int))else some false else some false
theorem MY {a0:av} {r:Bool} (h:rk a0=some r):sg3 199 a0 r:=by
 refine eV Tryz.func199 ?_;unfold rk at h;refine .d (.d (sD h (λb h=>?_) (λb h=>?_)));refine .t (.t (.t (sD h (λc h=>?_) (λc h=>?_))));exact .t (bk h λe a h=>(bO (JX a) (.t (.t (.t (.t (eB h)))))));exact .f (.f (.f (.f (.f (eB h)))));exact aUr
def jF (a0:av) (a:Int):Option kJ:=if a<(([[101,99,104,111],[105,102],[101,108,115,101],[119,104,105,108,101],[102,111,114,101,97,99,104],[97,115],[98,114,101,97,107],[99,111,110,116,105,110,117,101],[114,101,116,117,114,110],[103,108,111,98,97,108],[117,110,115,101,116],[116,104,114,111,119],[116,114,121],[99,97,116,99,104],[102,105,110,97,108,108,121],[121,105,101,108,100],[105,110,99,108,117,100,101],[102,117,110,99,116,105,111,110],[99,108,97,115,115],[116,114,97,105,116],[101,120,116,101,110,100,115],[117,115,101],[112,114,105,118,97,116,101],[115,116,97,116,105,99],[110,101,119],[116,114,117,101],[102,97,108,115,101],[110,117,108,108]]:List av).length:Int)then idx ([[101,99,104,111],[105,102],[101,108,115,101],[119,104,105,108,101],[102,111,114,101,97,99,104],[97,115],[98,114,101,97,107],[99,111,110,116,105,110,117,101],[114,101,116,117,114,110],[103,108,111,98,97,108],[117,110,115,101,116],[116,104,114,111,119],[116,114,121],[99,97,116,99,104],[102,105,110,97,108,108,121],[121,105,101,108,100],[105,110,99,108,117,100,101],[102,117,110,99,116,105,111,110],[99,108,97,115,115],[116,114,97,105,116],[101,120,116,101,110,100,115],[117,115,101],[112,114,105,118,97,116,101],[115,116,97,116,105,99],[110,101,119],[116,114,117,101],[102,97,108,115,101],[110,117,108,108]]:List av) a>>=λb=>if b=a0 then some (.inr true)else jF a0 (bq (a+1))else some (.inl ()) partial_fixpoint
def lT (a0:av):Option (Bool):=((jF a0 0:Option kJ)>>=λa=>match a with | .inr r=>some r | .inl _=>some false)
theorem CX {a0:av} {r:Bool} (h:lT a0=some r):sg3 200 a0 r:=by
 refine eV Tryz.func200 ?_;unfold lT at h;refine .d (.d ⟨row cS ([[101,99,104,111],[105,102],[101,108,115,101],[119,104,105,108,101],[102,111,114,101,97,99,104],[97,115],[98,114,101,97,107],[99,111,110,116,105,110,117,101],[114,101,116,117,114,110],[103,108,111,98,97,108],[117,110,115,101,116],[116,104,114,111,119],[116,114,121],[99,97,116,99,104],[102,105,110,97,108,108,121],[121,105,101,108,100],[105,110,99,108,117,100,101],[102,117,110,99,116,105,111,110],[99,108,97,115,115],[116,114,97,105,116],[101,120,116,101,110,100,115],[117,115,101],[112,114,105,118,97,116,101],[115,116,97,116,105,99],[110,101,119],[116,114,117,101],[102,97,108,115,101],[110,117,108,108]]:List av),bZ cS ([[101,99,104,111],[105,102],[101,108,115,101],[119,104,105,108,101],[102,111,114,101,97,99,104],[97,115],[98,114,101,97,107],[99,111,110,116,105,110,117,101],[114,101,116,117,114,110],[103,108,111,98,97,108],[117,110,115,101,116],[116,104,114,111,119],[116,114,121],[99,97,116,99,104],[102,105,110,97,108,108,121],[121,105,101,108,100],[105,110,99,108,117,100,101],[102,117,110,99,116,105,111,110],[99,108,97,115,115],[116,114,97,105,116],[101,120,116,101,110,100,115],[117,115,101],[112,114,105,118,97,116,101],[115,116,97,116,105,99],[110,101,119],[116,114,117,101],[102,97,108,115,101],[110,117,108,108]]:List av) rfl (cg rfl),?_⟩);obtain⟨b,h,iT⟩:=bd h;refine .cut (λσ η=>.inl ()=b/\σ=[]/\η=[]) ?_ ?_;refine .d ?_;refine le (jF.partial_correctness a0 (motive:=λf a=>b=a->aX _ _ [(0,.str a0),(3,.own 0 0 0 ([[101,99,104,111],[105,102],[101,108,115,101],[119,104,105,108,101],[102,111,114,101,97,99,104],[97,115],[98,114,101,97,107],[99,111,110,116,105,110,117,101],[114,101,116,117,114,110],[103,108,111,98,97,108],[117,110,115,101,116],[116,104,114,111,119],[116,114,121],[99,97,116,99,104],[102,105,110,97,108,108,121],[121,105,101,108,100],[105,110,99,108,117,100,101],[102,117,110,99,116,105,111,110],[99,108,97,115,115],[116,114,97,105,116],[101,120,116,101,110,100,115],[117,115,101],[112,114,105,118,97,116,101],[115,116,97,116,105,99],[110,101,119],[116,114,117,101],[102,97,108,115,101],[110,117,108,108]]:List av).length),(4,pI f)] [.row 0 1 ([[101,99,104,111],[105,102],[101,108,115,101],[119,104,105,108,101],[102,111,114,101,97,99,104],[97,115],[98,114,101,97,107],[99,111,110,116,105,110,117,101],[114,101,116,117,114,110],[103,108,111,98,97,108],[117,110,115,101,116],[116,104,114,111,119],[116,114,121],[99,97,116,99,104],[102,105,110,97,108,108,121],[121,105,101,108,100],[105,110,99,108,117,100,101],[102,117,110,99,116,105,111,110],[99,108,97,115,115],[116,114,97,105,116],[101,120,116,101,110,100,115],[117,115,101],[112,114,105,118,97,116,101],[115,116,97,116,105,99],[110,101,119],[116,114,117,101],[102,97,108,115,101],[110,117,108,108]]:List av).length 9 (row cS ([[101,99,104,111],[105,102],[101,108,115,101],[119,104,105,108,101],[102,111,114,101,97,99,104],[97,115],[98,114,101,97,107],[99,111,110,116,105,110,117,101],[114,101,116,117,114,110],[103,108,111,98,97,108],[117,110,115,101,116],[116,104,114,111,119],[116,114,121],[99,97,116,99,104],[102,105,110,97,108,108,121],[121,105,101,108,100],[105,110,99,108,117,100,101],[102,117,110,99,116,105,111,110],[99,108,97,115,115],[116,114,97,105,116],[101,120,116,101,110,100,115],[117,115,101],[112,114,105,118,97,116,101],[115,116,97,116,105,99],[110,101,119],[116,114,117,101],[102,97,108,115,101],[110,117,108,108]]:List av))]) ?_ 0 b h rfl) (tk [0] U9 QZ);intro k c f a h e;subst e;refine aX.round (.d (.d ⟨rfl,(sD h (λi h=>?_) (λi h=>?_))⟩));refine .d (.d (bk h λl g h=>⟨rfl,aU g,_,aRf _,rfl,_,((aD g).trans rfl),(sE h (λj h=>?_) (λj h=>?_))⟩));refine .d ?_;exact aTq;exact lg (c _ _ h rfl) (tk [0] U9 QZ);exact aUe;exact aTI
def dV (a0:av):Option (Bool):=rk a0>>=λa=>if a then lT a0>>=λb=>some (!b)else some false
theorem gM {a0:av} {r:Bool} (h:dV a0=some r):sg3 147 a0 r:=by
 refine eV Tryz.func147 ?_;unfold dV at h;refine .d (.d (bk h λe a h=>(bO (MY a) (sV h (λb h=>?_) (λb h=>?_)))));exact .t (bk h λf c h=>(bO (CX c) (.t (.t (eB h)))));exact aUv
def m91 (a0:Int) (a:Int):Option (Int):=if a>a0 then some a else some a0
theorem aF9 {a0:Int} {a:Int} {r:Int} (h:m91 a0 a=some r):aFq 71 a0 a r:=by
 refine eV Tryz.func71 ?_;unfold m91 at h;refine .d (.d (.d (sD h (λb h=>?_) (λb h=>?_))));exact aUk;exact aUk
def uW (a0:Int) (a:Int):Option (Int):=if a<a0 then some a else some a0
def m93 (a0:Int) (a:Int):Option (Int):=if a>a0 then some a else some a0
theorem aGa {a0:Int} {a:Int} {r:Int} (h:m93 a0 a=some r):aFq 195 a0 a r:=by
 refine eV Tryz.func195 ?_;unfold m93 at h;refine .d (.d (.d (sD h (λb h=>?_) (λb h=>?_))));exact aUk;exact aUk
def qO (a0:av) (a:Int) (b:av):Option (Bool):=if(b.length:Int)<=(bq ((a0.length:Int) - a))then By a0 a (bq (a+(b.length:Int)))>>=λs2=>some (s2==b)else some false
theorem Q0 {a0:av} {a:Int} {b:av} {r:Bool} (h:qO a0 a b=some r):ACall Tryz.prog 100 [.str a0,pI a,.str b] [] (λres h=>res=.bool r/\h=[]):=by
 refine eV Tryz.func100 ?_;unfold qO at h;refine .d (.d (sD h (λe h=>?_) (λe h=>?_)));exact .t (.t (.t (.t (.t (.t (bk h λs2 c h=>⟨JN c,s2,JO c,(.t (.t (.t (eB h))))⟩))))));exact aUr
def kY (a0:av) (a:Int):Option ((Unit) ⊕ (av×av)):=if(bq (a+1))<(a0.length:Int)then By a0 a (bq (a+2))>>=λd=>if d=([58,58]:av)then sto a0 a>>=λb=>jQ a0 (bq (a+2))>>=λc=>some (.inr (b,c))else kY a0 (bq (a+1))else some (.inl ()) partial_fixpoint
def nV (a0:av):Option (av×av):=((kY a0 0:Option ((Unit) ⊕ (av×av)))>>=λa=>match a with | .inr r=>some r | .inl _=>some ([],[]))
theorem GF {a0:av} {r:av×av} (h:nV a0=some r):ACall Tryz.prog 148 [.str a0] [] (λres h=>res=.gJ [.str r.1,.str r.2]/\h=[]):=by
 refine eV Tryz.func148 ?_;unfold nV at h;refine .d ?_;obtain⟨a,h,iT⟩:=bd h;refine .cut (λσ η=>.inl ()=a/\σ=[]/\η=[]) ?_ ?_;refine .d ?_;refine le (kY.partial_correctness a0 (motive:=λf g=>a=g->aX _ _ [(0,.str a0),(4,pI f)] []) ?_ 0 a h rfl) (tk [] MM ⟨⟩);intro p b f g h l;subst l;refine aX.round (.d (.d (sD h (λm h=>?_) (λm h=>?_))));refine .d (.d (bk h λn i h=>⟨JN i,n,JO i,(sE h (λo h=>?_) (λo h=>?_))⟩));refine .d (bk h λc j h=>⟨JL j,c,JM j,(bk h λe k h=>⟨ud k,e,ue k,?_⟩)⟩);obtain rfl:=si h;obtain rfl:=si iT;exact en [] ⟨rfl,rfl⟩ (.vy ⟨.s,.s,⟨⟩⟩) ⟨⟩;exact lg (b _ _ h rfl) (tk [] MM ⟨⟩);exact aUe;rintro _ _ ⟨rfl,rfl,rfl⟩;replace h:=iT;refine .d ?_;obtain rfl:=si h;exact en [] ⟨rfl,rfl⟩ (.vy ⟨.s,.s,⟨⟩⟩) ⟨⟩
def oM (a0:List av) (a:Int):Option (av):=A6 a 0 (bq ((a0.length:Int) - 1))>>=λb=>if b then idx a0 a>>=λc=>some c else some []
theorem BY {a0:List av} {a:Int} {r:av} (h:oM a0 a=some r):ACall Tryz.prog 86 [sl 1 cS a0,pI a] [] (λres h=>res=.str r/\h=[]):=by
 refine eV Tryz.func86 ?_;unfold oM at h;refine .d (.d (.d (bk h λf c h=>(bO (tC c) (jR h (λe h=>?_) (λe h=>?_))))));exact .d (eS h);exact .d (bk h λg b h=>⟨aU b,_,(aD b).trans rfl,(eS h)⟩)
def eC (a0:Int):Option (Int):=if a0<=2 then some 9 else if a0<=5 then some 10 else if a0=6 then some 8 else if a0<=10 then some 6 else some 7
theorem s9 {a0:Int} {r:Int} (h:eC a0=some r):ACall Tryz.prog 88 [pI a0] [] (λres h=>res=pI r/\h=[]):=by
 refine eV Tryz.func88 ?_;unfold eC at h;refine .d (.d (.d (sD h (λa h=>?_) (λa h=>?_))));exact aUk;refine .d (sD h (λb h=>?_) (λb h=>?_));exact aUk;refine .d (sE h (λc h=>?_) (λc h=>?_));exact aUk;refine .d (sD h (λe h=>?_) (λe h=>?_));exact aUk;exact aUk
def fN (a0:Int):Option (av):=A6 a0 1 15>>=λa=>if a then idx ([[],[43],[45],[42],[47],[37],[46],[61,61],[33,61],[61,61,61],[33,61,61],[60],[60,61],[62],[62,61],[60,61,62]]:List av) a0>>=λb=>some b else some []
theorem FU {a0:Int} {r:av} (h:fN a0=some r):sg6 89 a0 r:=by
 refine eV Tryz.func89 ?_;unfold fN at h;refine .d (.d (.d (bk h λe b h=>(bO (tC b) (jR h (λc h=>?_) (λc h=>?_))))));exact .d (eS h);exact .d ⟨row cS ([[],[43],[45],[42],[47],[37],[46],[61,61],[33,61],[61,61,61],[33,61,61],[60],[60,61],[62],[62,61],[60,61,62]]:List av),bZ cS ([[],[43],[45],[42],[47],[37],[46],[61,61],[33,61],[61,61,61],[33,61,61],[60],[60,61],[62],[62,61],[60,61,62]]:List av) rfl (cg rfl),(.d (bk h λf a h=>⟨rfl,aU a,_,aRf _,rfl,_,((aD a).trans rfl),(eS h)⟩))⟩
def gC (a0:av) (a:List UInt8) (y6:Int):Option ((List UInt8)):=if y6<(a0.length:Int)then lz a0 y6>>=λb=>if(b.toNat:Int)=39 then cD 1 a ([(92:UInt8)]:List UInt8)>>=λg=>lz a0 y6>>=λc=>cD 1 g ([c]:List UInt8)>>=λh=>gC a0 h (bq (y6+1))else lz a0 y6>>=λd=>if(d.toNat:Int)=92 then cD 1 a ([(92:UInt8)]:List UInt8)>>=λi=>lz a0 y6>>=λe=>cD 1 i ([e]:List UInt8)>>=λj=>gC a0 j (bq (y6+1))else lz a0 y6>>=λf=>cD 1 a ([f]:List UInt8)>>=λk=>gC a0 k (bq (y6+1))else some a partial_fixpoint
def lj (a0:av):Option (av):=(gC a0 ([(39:UInt8)]:List UInt8) 0:Option ((List UInt8)))>>=λb=>cD 1 b ([(39:UInt8)]:List UInt8)>>=λa=>some a
theorem wH {a0:av} {r:av} (h:lj a0=some r):ACall Tryz.prog 83 [.str a0] [] (λres h=>res=.str r/\h=[]):=by
 refine eV Tryz.func83 ?_;unfold lj at h;refine .d (.d ⟨row cB ([(39:UInt8)]:List UInt8),bZ cB ([(39:UInt8)]:List UInt8) rfl (cg rfl),?_⟩);obtain⟨n,h,Dp⟩:=bd h;refine .cut (λσ η=>∃i,i=n/\σ=[(3,.own 0 0 0 i.length)]/\η=[.row 0 1 i.length 5 (row cB i)]) ?_ ?_;refine .d ?_;refine le (gC.partial_correctness a0 (motive:=λm y6 j=>n=j->aX _ _ [(0,.str a0),(3,.own 0 0 0 m.length),(4,pI y6)] [.row 0 1 m.length 5 (row cB m)]) ?_ ([(39:UInt8)]:List UInt8) 0 n h rfl) (tk [0] U9 QZ);intro M p m y6 j h q;subst q;refine aX.round (.d (.d (sD h (λJ h=>?_) (λJ h=>?_))));refine .d (.d (.d (bk h λs A h=>⟨fW A,s,fX A,(sE h (λK h=>?_) (λK h=>?_))⟩)));exact .t (.t (.t (.t (.t ⟨row cB ([(92:UInt8)]:List UInt8),bZ cB ([(92:UInt8)]:List UInt8) rfl (cg rfl),(bk h λB u h=>(.gx ⟨rfl,rfl,iY (l:=([(92:UInt8)]:List UInt8)) aR,eN u,B.length,row cB B,dR u,dY u aR (gu aR),(bk h λa C h=>⟨fW C,a,fX C,row cB ([a]:List UInt8),bZ cB ([a]:List UInt8) rfl (cg rfl),(bk h λD e h=>(.gx ⟨rfl,rfl,iY (l:=([a]:List UInt8)) aR,eN e,D.length,row cB D,dR e,dY e aR (gu aR),(lg (p _ _ _ h rfl) (tk [0] U9 QZ))⟩))⟩)⟩))⟩))));refine .f (.f (bk h λv E h=>⟨fW E,v,fX E,(.f (.f (sE h (λL h=>?_) (λL h=>?_))))⟩));exact⟨row cB ([(92:UInt8)]:List UInt8),bZ cB ([(92:UInt8)]:List UInt8) rfl (cg rfl),(bk h λF w h=>(.gx ⟨rfl,rfl,iY (l:=([(92:UInt8)]:List UInt8)) aR,eN w,F.length,row cB F,dR w,dY w aR (gu aR),(bk h λb G h=>⟨fW G,b,fX G,row cB ([b]:List UInt8),bZ cB ([b]:List UInt8) rfl (cg rfl),(bk h λH x h=>(.gx ⟨rfl,rfl,iY (l:=([b]:List UInt8)) aR,eN x,H.length,row cB H,dR x,dY x aR (gu aR),(lg (p _ _ _ h rfl) (tk [0] U9 QZ))⟩))⟩)⟩))⟩;exact bk h λc k h=>⟨fW k,c,fX k,row cB ([c]:List UInt8),bZ cB ([c]:List UInt8) rfl (cg rfl),(bk h λI y h=>(.gx ⟨rfl,rfl,iY (l:=([c]:List UInt8)) aR,eN y,I.length,row cB I,dR y,dY y aR (gu aR),(lg (p _ _ _ h rfl) (tk [0] U9 QZ))⟩))⟩;exact ct ⟨_,si h,rfl,rfl⟩ (tk [0] ⟨.o,⟨⟩⟩ QZ);rintro _ _ ⟨i,rfl,rfl,rfl⟩;exact .d ⟨row cB ([(39:UInt8)]:List UInt8),bZ cB ([(39:UInt8)]:List UInt8) rfl (cg rfl),(bk Dp λg z h=>(.gx ⟨rfl,rfl,iY (l:=([(39:UInt8)]:List UInt8)) aR,eN z,g.length,row cB g,dR z,dY z aR (gu aR),rfl,g,rfl,sM aR rfl,(eS h)⟩))⟩
def xb (b:av) (a:Int):Option (av):=if a=0 then some b else if(a.tmod 10)<0 then bx ([UInt8.ofNat (IntKind.u8.wrap (bq (48+(bq (0 - (a.tmod 10)))))).toNat]:List UInt8) b>>=λc=>xb c (bq (a.tdiv 10))else bx ([UInt8.ofNat (IntKind.u8.wrap (bq (48+(a.tmod 10)))).toNat]:List UInt8) b>>=λd=>xb d (bq (a.tdiv 10)) partial_fixpoint
def m94 (a0:Int):Option (av):=if a0=0 then some [48]else(xb [] a0:Option (av))>>=λs2=>if a0<0 then bx [45] s2>>=λa=>some a else some s2
theorem aGy {a0:Int} {r:av} (h:m94 a0=some r):sg6 85 a0 r:=by
 refine eV Tryz.func85 ?_;unfold m94 at h;refine .d (.d (.d (sE h (λo h=>?_) (λo h=>?_))));exact .d (eS h);refine .d ?_;obtain⟨c,h,e⟩:=bd h;refine .cut (λσ η=>∃s2,s2=c/\σ=[(0,pI a0),(3,.str s2)]/\η=[]) ?_ ?_;refine .d ?_;refine le (xb.partial_correctness  (motive:=λj a k=>c=k->aX _ _ [(0,pI a0),(3,.str j),(4,pI a)] []) ?_ [] a0 c h rfl) (tk [] ⟨.i,.s,.i,⟨⟩⟩ ⟨⟩);intro w b j a k h p;subst p;refine aX.round (.d (.d (sN h (λq h=>?_) (λq h=>?_))));refine .d (.d ⟨by decide,(.d (.d (sD h (λt h=>?_) (λt h=>?_))))⟩);exact⟨row cB ([UInt8.ofNat (IntKind.u8.wrap (bq (48+(bq (0 - (a.tmod 10)))))).toNat]:List UInt8),bZ cB ([UInt8.ofNat (IntKind.u8.wrap (bq (48+(bq (0 - (a.tmod 10)))))).toNat]:List UInt8) rfl (eX (C5 _) ⟨.same _,trivial⟩ trivial),rfl,([UInt8.ofNat (IntKind.u8.wrap (bq (48+(bq (0 - (a.tmod 10)))))).toNat]:List UInt8),rfl,sM aR rfl,(bk h λf l h=>⟨aB l,f,aC l,by decide,(lg (b _ _ _ h rfl) (tk [] ⟨.i,.s,.i,⟨⟩⟩ ⟨⟩))⟩)⟩;exact⟨row cB ([UInt8.ofNat (IntKind.u8.wrap (bq (48+(a.tmod 10)))).toNat]:List UInt8),bZ cB ([UInt8.ofNat (IntKind.u8.wrap (bq (48+(a.tmod 10)))).toNat]:List UInt8) rfl (eX (C5 _) ⟨.same _,trivial⟩ trivial),rfl,([UInt8.ofNat (IntKind.u8.wrap (bq (48+(a.tmod 10)))).toNat]:List UInt8),rfl,sM aR rfl,(bk h λu m h=>⟨aB m,u,aC m,by decide,(lg (b _ _ _ h rfl) (tk [] ⟨.i,.s,.i,⟨⟩⟩ ⟨⟩))⟩)⟩;exact ct ⟨_,si h,rfl,rfl⟩ (tk [] ⟨.i,.s,⟨⟩⟩ ⟨⟩);rintro _ _ ⟨s2,rfl,rfl,rfl⟩;refine .d (.d (sD e (λv h=>?_) (λv h=>?_)));exact .d (bk h λg n h=>⟨aB n,g,aC n,(eS h)⟩);exact .d (eS h)
def nJ (a0:ae):Option (Int):=((if a0.ah=15 then some (a0.ah==15)else if a0.ah=16 then some (a0.ah==16)else some (a0.ah==17)):Option (Bool))>>=λa=>if a then some 1 else if a0.ah=14 then some 2 else if a0.ah=13 then some 3 else if a0.ah=12 then some 4 else if a0.ah=11 then some 5 else if a0.ah=10 then eC a0.aE>>=λb=>some b else if a0.ah=9 then some 11 else some 12
theorem FR {a0:ae} {r:Int} (h:nJ a0=some r):sg4 150 a0 r:=by
 refine eV Tryz.func150 ?_;unfold nJ at h;refine .d (.d (.d ⟨rfl,rfl,_,rfl,?_⟩));obtain⟨b,h,Dp⟩:=bd h;refine .cut (λσ η=>∃a,a=b/\σ=[(1,.aI 0 0 0 0),(4,pI a0.ah),(5,.bool a)]/\η=[.row 0 4 1 29 (λ_=>a0.lit)]) ?_ ?_;refine .d (sE h (λc h=>?_) (λc h=>?_));exact aUA;refine .d (sE h (λe h=>?_) (λe h=>?_));exact aUA;exact aUA;rintro _ _ ⟨a,rfl,rfl,rfl⟩;refine sV Dp (λf h=>?_) (λf h=>?_);exact aUk;refine .d (sE h (λg h=>?_) (λg h=>?_));exact aUk;refine .d (sE h (λi h=>?_) (λi h=>?_));exact aUk;refine .d (sE h (λj h=>?_) (λj h=>?_));exact aUk;refine .d (sE h (λk h=>?_) (λk h=>?_));exact aUk;refine .d (sE h (λl h=>?_) (λl h=>?_));exact .d ⟨rfl,rfl,_,rfl,(bk h λo m h=>(bO (s9 m) (eI h)))⟩;refine .d (sE h (λn h=>?_) (λn h=>?_));exact aUk;exact aUk
def dk (a0:ae):Option (Bool):=if a0.ah<31 then some (a0.ah != 24)else some false
theorem DD {a0:ae} {r:Bool} (h:dk a0=some r):FE 81 a0 r:=by
 refine eV Tryz.func81 ?_;unfold dk at h;refine .d (.d ⟨rfl,rfl,_,rfl,(sD h (λa h=>?_) (λa h=>?_))⟩);exact⟨rfl,(.t ⟨rfl,_,rfl,(.t (.t (eB h)))⟩)⟩;exact aUv
def qH (a0:Int):Option (av):=if a0<1 then some []else if a0>15 then some []else idx ([[43],[45],[42],[47],[37],[46],[61,61],[33,61],[61,61,61],[33,61,61],[60],[60,61],[62],[62,61],[60,61,62]]:List av) (bq (a0 - 1))>>=λa=>some a
theorem GB {a0:Int} {r:av} (h:qH a0=some r):sg6 155 a0 r:=by
 refine eV Tryz.func155 ?_;unfold qH at h;refine .d (.d ⟨row cS ([[43],[45],[42],[47],[37],[46],[61,61],[33,61],[61,61,61],[33,61,61],[60],[60,61],[62],[62,61],[60,61,62]]:List av),bZ cS ([[43],[45],[42],[47],[37],[46],[61,61],[33,61],[61,61,61],[33,61,61],[60],[60,61],[62],[62,61],[60,61,62]]:List av) rfl (cg rfl),(.d (.d (sD h (λb h=>?_) (λb h=>?_))))⟩);exact .t (.t (.t (.d (eS h))));refine .f (.f (sD h (λc h=>?_) (λc h=>?_)));exact .d (eS h);exact .d (bk h λe a h=>⟨rfl,aU a,_,aRf _,rfl,_,((aD a).trans rfl),(eS h)⟩)
def lP (a0:Int):Option (Int):=((if a0=7 then some (a0==7)else if a0=8 then some (a0==8)else if a0=9 then some (a0==9)else some (a0==10)):Option (Bool))>>=λa=>if a then some 6 else((if a0=11 then some (a0==11)else if a0=12 then some (a0==12)else if a0=13 then some (a0==13)else if a0=14 then some (a0==14)else some (a0==15)):Option (Bool))>>=λb=>if b then some 7 else if a0=6 then some 8 else if a0=1 then some 9 else if a0=2 then some 9 else some 10
theorem Ju {a0:Int} {r:Int} (h:lP a0=some r):ACall Tryz.prog 151 [pI a0] [] (λres h=>res=pI r/\h=[]):=by
 refine eV Tryz.func151 ?_;unfold lP at h;refine .d (.d (.d ?_));obtain⟨f,h,Dp⟩:=bd h;refine .cut (λσ η=>∃a,a=f/\σ=[(3,pI a0),(4,.bool a)]/\η=[]) ?_ ?_;refine .d (sE h (λg h=>?_) (λg h=>?_));exact aUi;refine .d (sE h (λi h=>?_) (λi h=>?_));exact aUi;refine .d (sE h (λj h=>?_) (λj h=>?_));exact aUi;exact aUi;rintro _ _ ⟨a,rfl,rfl,rfl⟩;refine sV Dp (λk h=>?_) (λk h=>?_);exact aUk;obtain⟨b,h,l⟩:=bd h;refine .cut (λσ η=>∃c,c=b/\σ=[(3,pI a0),(9,.bool c)]/\η=[]) ?_ ?_;refine .d (sE h (λm h=>?_) (λm h=>?_));exact aUi;refine .d (sE h (λn h=>?_) (λn h=>?_));exact aUi;refine .d (sE h (λo h=>?_) (λo h=>?_));exact aUi;refine .d (sE h (λp h=>?_) (λp h=>?_));exact aUi;exact aUi;rintro _ _ ⟨c,rfl,rfl,rfl⟩;refine sV l (λq h=>?_) (λq h=>?_);exact aUk;refine .d (sE h (λs h=>?_) (λs h=>?_));exact aUk;refine .d (.d (sE h (λe h=>?_) (λe h=>?_)));exact .kt e (.d (eI h));refine sE h (λt h=>?_) (λt h=>?_);exact aUk;exact aUk
def k7 (c:Int) (d:Int) (e:av) (a:List ae):Option agL:=if c=7 then if(a.length:Int)>0 then idx a 0>>=λb=>k7 b.ah b.aE b.al b.af else some (c,d,e,a)else some (c,d,e,a) partial_fixpoint
def fP (a0:ae):Option (Bool):=(k7 a0.ah a0.aE a0.al a0.af:Option agL)>>=λ(y1,a,b,c)=>if y1=4 then some true else some (y1==8)
theorem mJ {a0:ae} {r:Bool} (h:fP a0=some r):FE 112 a0 r:=by
 refine eV Tryz.func112 ?_;unfold fP at h;refine .d ?_;obtain⟨a,h,wu⟩:=bd h;refine .cut (λσ η=>∃y1,∃b,∃c,∃e,(y1,b,c,e)=a/\σ=[(1,.aI 0 0 0 0)]/\η=[.row 0 4 1 29 (λ_=>[pI y1,pI b,.str c,sl 4 ae.cells e])]) ?_ ?_;refine le (k7.partial_correctness  (motive:=λj k l m n=>a=n->aX _ _ [(1,.aI 0 0 0 0)] [.row 0 4 1 29 (λ_=>[pI j,pI k,.str l,sl 4 ae.cells m])]) ?_ a0.ah a0.aE a0.al a0.af a h rfl) (tk [0] xp gK);intro p g j k l m n h i;subst i;refine aX.round (.d (.d ⟨rfl,rfl,_,rfl,(sE h (λq h=>?_) (λq h=>?_))⟩));refine⟨rfl,(.t ⟨rfl,_,rfl,(.t (.t (.t (sD h (λs h=>?_) (λs h=>?_)))))⟩)⟩;exact⟨rfl,rfl,_,rfl,(bk h λu o h=>⟨aU o,_,(aD o).trans (ae.aw u),rfl,_,_,rfl,au,(lg (g _ _ _ _ _ h rfl) (tk [0] xp gK))⟩)⟩;exact ct ⟨_,_,_,_,si h,rfl,rfl⟩ (tk [0] xp gK);exact .f (.f (.f (.f (.f (ct ⟨_,_,_,_,si h,rfl,rfl⟩ (tk [0] xp gK))))));rintro _ _ ⟨y1,b,c,e,rfl,rfl,rfl⟩;refine .d ⟨rfl,rfl,_,rfl,(sE wu (λv h=>?_) (λv h=>?_))⟩;exact .t (.t (.t (eB h)));exact⟨rfl,(.f ⟨rfl,_,rfl,(.f (.f (eB h)))⟩)⟩
def iP (a0:ae):Option (Bool):=if a0.ah=4 then if a0.aE=0 then bK a0.al>>=λa=>if a then some ((a0.af.length:Int)==0)else some false else some false else some false
theorem oZ {a0:ae} {r:Bool} (h:iP a0=some r):FE 138 a0 r:=by
 refine eV Tryz.func138 ?_;unfold iP at h;refine .d (.d ⟨rfl,rfl,_,rfl,(sE h (λb h=>?_) (λb h=>?_))⟩);refine⟨rfl,(.t ⟨rfl,_,rfl,(.t (.t (sE h (λc h=>?_) (λc h=>?_))))⟩)⟩;refine⟨rfl,(.t ⟨rfl,_,rfl,(.t (bk h λg a h=>(bO (cU a) (.t (sV h (λe h=>?_) (λe h=>?_))))))⟩)⟩;exact⟨rfl,(.t ⟨rfl,_,rfl,(.t (.t (.t (eB h))))⟩)⟩;exact .f (.f (.f (.f (eB h))));exact aUy;exact .f (.f (.f (.f (.f (.f (.f (.f (.f (.f (.f (.f (eB h))))))))))))
def km (c:Int) (d:Int) (e:av) (a:List ae):Option agL:=if c=7 then if(a.length:Int)=2 then idx a 0>>=λb=>km b.ah b.aE b.al b.af else some (c,d,e,a)else some (c,d,e,a) partial_fixpoint
def gL (a0:ae):Option (Bool):=(km a0.ah a0.aE a0.al a0.af:Option agL)>>=λ(y1,a,b,c)=>if y1=4 then some true else some (y1==8)
theorem wD {a0:ae} {r:Bool} (h:gL a0=some r):FE 104 a0 r:=by
 refine eV Tryz.func104 ?_;unfold gL at h;refine .d ?_;obtain⟨a,h,wu⟩:=bd h;refine .cut (λσ η=>∃y1,∃b,∃c,∃e,(y1,b,c,e)=a/\σ=[(1,.aI 0 0 0 0)]/\η=[.row 0 4 1 29 (λ_=>[pI y1,pI b,.str c,sl 4 ae.cells e])]) ?_ ?_;refine le (km.partial_correctness  (motive:=λj k l m n=>a=n->aX _ _ [(1,.aI 0 0 0 0)] [.row 0 4 1 29 (λ_=>[pI j,pI k,.str l,sl 4 ae.cells m])]) ?_ a0.ah a0.aE a0.al a0.af a h rfl) (tk [0] xp gK);intro p g j k l m n h i;subst i;refine aX.round (.d (.d ⟨rfl,rfl,_,rfl,(sE h (λq h=>?_) (λq h=>?_))⟩));refine⟨rfl,(.t ⟨rfl,_,rfl,(.t (.t (.t (sE h (λs h=>?_) (λs h=>?_)))))⟩)⟩;exact⟨rfl,rfl,_,rfl,(bk h λu o h=>⟨aU o,_,(aD o).trans (ae.aw u),rfl,_,_,rfl,au,(lg (g _ _ _ _ _ h rfl) (tk [0] xp gK))⟩)⟩;exact ct ⟨_,_,_,_,si h,rfl,rfl⟩ (tk [0] xp gK);exact .f (.f (.f (.f (.f (ct ⟨_,_,_,_,si h,rfl,rfl⟩ (tk [0] xp gK))))));rintro _ _ ⟨y1,b,c,e,rfl,rfl,rfl⟩;refine .d ⟨rfl,rfl,_,rfl,(sE wu (λv h=>?_) (λv h=>?_))⟩;exact .t (.t (.t (eB h)));exact⟨rfl,(.f ⟨rfl,_,rfl,(.f (.f (eB h)))⟩)⟩
def gD (a0:ae) (b:Bool) (a:Int):Option (Bool×Bool):=if a<(a0.al.length:Int)then if b then qO a0.al a [60,63]>>=λc=>gD a0 (!c) (bq (a+1))else gD a0 false (bq (a+1))else some ((a0.aE==0),b) partial_fixpoint
def eW (a0:ae):Option (Bool×Bool):=((if a0.ah=1 then A6 a0.aE 0 1000000000>>=λi=>some (i,(a0.al==([]:av)))else if a0.ah=3 then A6 a0.aE 0 2>>=λa=>some (a,(a0.al==([]:av)))else if a0.ah=9 then A6 a0.aE 1 2>>=λj=>some (j,(a0.al==([]:av)))else if a0.ah=10 then A6 a0.aE 1 15>>=λk=>some (k,(a0.al==([]:av)))else((if a0.ah=2 then some (a0.ah==2)else some (a0.ah==47)):Option (Bool))>>=λb=>if b then some ((a0.aE==0),(decide ((a0.al.length:Int)<=400)))else((if a0.ah=4 then some (a0.ah==4)else if a0.ah=8 then some (a0.ah==8)else if a0.ah=17 then some (a0.ah==17)else if a0.ah=18 then some (a0.ah==18)else if a0.ah=20 then some (a0.ah==20)else if a0.ah=40 then some (a0.ah==40)else if a0.ah=44 then some (a0.ah==44)else if a0.ah=49 then some (a0.ah==49)else if a0.ah=50 then some (a0.ah==50)else if a0.ah=51 then some (a0.ah==51)else if a0.ah=52 then some (a0.ah==52)else some (a0.ah==53)):Option (Bool))>>=λc=>if c then dV a0.al>>=λd=>some ((a0.aE==0),d)else if a0.ah=22 then dV a0.al>>=λl=>if l then some ((a0.aE==0),true)else some ((a0.aE==0),(a0.al==([115,116,97,116,105,99]:av)))else if a0.ah=54 then A6 a0.aE 0 1>>=λm=>dV a0.al>>=λe=>some (m,e)else if a0.ah=55 then A6 a0.aE 0 3>>=λn=>dV a0.al>>=λo=>some (n,o)else if a0.ah=21 then nV a0.al>>=λ(g,h)=>dV g>>=λp=>if p then dV h>>=λq=>some ((a0.aE==0),q)else if g=([115,116,97,116,105,99]:av)then dV h>>=λf=>some ((a0.aE==0),f)else some ((a0.aE==0),false)else if a0.ah=31 then gD a0 (!(a0.al==([]:av))) 0 else some ((a0.aE==0),(a0.al==([]:av)))):Option (Bool×Bool))>>=λ(r,s)=>some (r,s)
theorem lI {a0:ae} {r:Bool×Bool} (h:eW a0=some r):ACall Tryz.prog 75 [.agg a0.lit] [] (λres h=>res=.gJ [.bool r.1,.bool r.2]/\h=[]):=by
 refine eV Tryz.func75 ?_;unfold eW at h;refine .d (.d ⟨rfl,rfl,_,rfl,(.d ⟨rfl,rfl,_,rfl,?_⟩)⟩);obtain⟨l,h,m⟩:=bd h;refine .cut (λσ η=>∃n,∃o,(n,o)=l/\σ=[(4,.bool n),(5,.bool o)]/\η=[]) ?_ ?_;refine .d ⟨rfl,rfl,_,rfl,(.d (sE h (λH h=>?_) (λH h=>?_)))⟩;exact⟨rfl,rfl,_,rfl,(bk h λv7 q h=>(bO (tC q) (ct ⟨_,_,si h,rfl,rfl⟩ (tk [] yp ⟨⟩))))⟩;refine .d (sE h (λI h=>?_) (λI h=>?_));exact⟨rfl,rfl,_,rfl,(bk h λJ K h=>(bO (tC K) (ct ⟨_,_,si h,rfl,rfl⟩ (tk [] yp ⟨⟩))))⟩;refine .d (sE h (λL h=>?_) (λL h=>?_));exact⟨rfl,rfl,_,rfl,(bk h λkH M h=>(bO (tC M) (ct ⟨_,_,si h,rfl,rfl⟩ (tk [] yp ⟨⟩))))⟩;refine .d (sE h (λN h=>?_) (λN h=>?_));exact⟨rfl,rfl,_,rfl,(bk h λqa O h=>(bO (tC O) (ct ⟨_,_,si h,rfl,rfl⟩ (tk [] yp ⟨⟩))))⟩;obtain⟨s,h,u⟩:=bd h;refine .cut (λσ η=>∃a,a=s/\σ=[(1,.aI 0 0 0 0),(4,.bool (a0.aE==0)),(5,.bool (a0.al==([]:av))),(16,pI a0.ah),(37,.bool a)]/\η=[.row 0 4 1 29 (λ_=>a0.lit)]) ?_ ?_;refine .d (sE h (λP h=>?_) (λP h=>?_));exact aUf;exact aUf;rintro _ _ ⟨a,rfl,rfl,rfl⟩;refine sV u (λQ h=>?_) (λQ h=>?_);exact⟨rfl,rfl,_,rfl,(ct ⟨_,_,si h,rfl,rfl⟩ (tk [] yp ⟨⟩))⟩;obtain⟨v,h,w⟩:=bd h;refine .cut (λσ η=>∃c,c=v/\σ=[(1,.aI 0 0 0 0),(4,.bool (a0.aE==0)),(5,.bool (a0.al==([]:av))),(16,pI a0.ah),(44,.bool c)]/\η=[.row 0 4 1 29 (λ_=>a0.lit)]) ?_ ?_;refine .d (sE h (λR h=>?_) (λR h=>?_));exact aUf;refine .d (sE h (λS h=>?_) (λS h=>?_));exact aUf;refine .d (sE h (λT h=>?_) (λT h=>?_));exact aUf;refine .d (sE h (λU h=>?_) (λU h=>?_));exact aUf;refine .d (sE h (λV h=>?_) (λV h=>?_));exact aUf;refine .d (sE h (λW h=>?_) (λW h=>?_));exact aUf;refine .d (sE h (λX h=>?_) (λX h=>?_));exact aUf;refine .d (sE h (λY h=>?_) (λY h=>?_));exact aUf;refine .d (sE h (λZ h=>?_) (λZ h=>?_));exact aUf;refine .d (sE h (λA9 h=>?_) (λA9 h=>?_));exact aUf;refine .d (sE h (λIj h=>?_) (λIj h=>?_));exact aUf;exact aUf;rintro _ _ ⟨c,rfl,rfl,rfl⟩;refine sV w (λIk h=>?_) (λIk h=>?_);exact⟨rfl,rfl,_,rfl,(bk h λaa O0 h=>(bO (gM O0) (ct ⟨_,_,si h,rfl,rfl⟩ (tk [] yp ⟨⟩))))⟩;refine .d (sE h (λO1 h=>?_) (λO1 h=>?_));refine⟨rfl,rfl,_,rfl,(bk h λRO x h=>(bO (gM x) (sV h (λy h=>?_) (λy h=>?_))))⟩;exact .t (.t (.t (ct ⟨_,_,si h,rfl,rfl⟩ (tk [] yp ⟨⟩))));exact⟨rfl,(.f ⟨rfl,_,rfl,(.f (.f (ct ⟨_,_,si h,rfl,rfl⟩ (tk [] yp ⟨⟩))))⟩)⟩;refine .d (sE h (λz h=>?_) (λz h=>?_));exact .d ⟨rfl,rfl,_,rfl,(bk h λGZ YP h=>(bO (tC YP) ⟨rfl,rfl,_,rfl,(bk h λad OV h=>(bO (gM OV) (ct ⟨_,_,si h,rfl,rfl⟩ (tk [] yp ⟨⟩))))⟩))⟩;refine .d (sE h (λDw h=>?_) (λDw h=>?_));exact .d ⟨rfl,rfl,_,rfl,(bk h λvO ON h=>(bO (tC ON) ⟨rfl,rfl,_,rfl,(bk h λTS Yy h=>(bO (gM Yy) (ct ⟨_,_,si h,rfl,rfl⟩ (tk [] yp ⟨⟩))))⟩))⟩;refine .d (sE h (λA h=>?_) (λA h=>?_));refine .d ⟨rfl,rfl,_,rfl,?_⟩;obtain⟨⟨Ca,CA⟩,B,h⟩:=bd h;refine bO (GF B) (bk h λTT C h=>(bO (gM C) (sV h (λWb h=>?_) (λWb h=>?_))));exact .t (.t (.t (.t (bk h λGW YB h=>(bO (gM YB) (.t (ct ⟨_,_,si h,rfl,rfl⟩ (tk [] yp ⟨⟩))))))));refine .f (.f (sE h (λWd h=>?_) (λWd h=>?_)));exact .t (bk h λag D h=>(bO (gM D) (.t (ct ⟨_,_,si h,rfl,rfl⟩ (tk [] yp ⟨⟩)))));exact .f (.f (ct ⟨_,_,si h,rfl,rfl⟩ (tk [] yp ⟨⟩)));refine .d (sE h (λE h=>?_) (λE h=>?_));refine .d ⟨rfl,rfl,_,rfl,(.d ?_)⟩;refine le (gD.partial_correctness a0 (motive:=λe g j=>l=j->aX _ _ [(1,.aI 0 0 0 0),(4,.bool (a0.aE==0)),(5,.bool e),(8,pI g)] [.row 0 4 1 29 (λ_=>a0.lit)]) ?_ (!(a0.al==([]:av))) 0 l h rfl) (tk [0] ⟨.p,.b,.b,.i,⟨⟩⟩ gK);intro a1 k e g j h F;subst F;refine aX.round (.d (.d ⟨rfl,rfl,_,rfl,(sD h (λYj h=>?_) (λYj h=>?_))⟩));refine .d (sV h (λG h=>?_) (λG h=>?_));exact⟨rfl,(.t ⟨rfl,_,rfl,(.t (.t (bk h λa2 OP h=>(bO (Q0 OP) (.t (.t (lg (k _ _ _ h rfl) (tk [0] ⟨.p,.b,.b,.i,⟨⟩⟩ gK))))))))⟩)⟩;exact .f (.f (.f (.f (.f (lg (k _ _ _ h rfl) (tk [0] ⟨.p,.b,.b,.i,⟨⟩⟩ gK))))));exact ct ⟨_,_,si h,rfl,rfl⟩ (tk [] yp ⟨⟩);exact ct ⟨_,_,si h,rfl,rfl⟩ (tk [] yp ⟨⟩);rintro _ _ ⟨n,o,rfl,rfl,rfl⟩;replace h:=m;refine .d ?_;obtain rfl:=si h;exact en [] ⟨rfl,rfl⟩ (.vy ⟨.b,.b,⟨⟩⟩) ⟨⟩
end Go.Am
