/- Texts of the proof, joined and shortened. -/
import Derived.Test.YtiigfbapjeefbaaGreatDoorPk3
import Derived.Test.YtiigfbapjeefbaaGreatDoorProg
set_option linter.unusedVariables false
set_option linter.unusedSimpArgs false
namespace Go.Am
open Go Go.RowKit
abbrev aD:=List UInt8
abbrev bm (x:Int):Int:=IntKind.i64.wrap x
theorem bind_some {α β:Type} {x:Option α} {f:α->Option β} {r:β} (h:(x>>=f)=some r):∃a,x=some a/\f a=some r:=by
 cases x with
 | none=>cases h
 | some a=>exact ⟨a,rfl,h⟩
def idx {α:Type} [Inhabited α] (l:List α) (i:Int):Option α:=if 0<=i/\i<(l.length:Int) then some (l.getD i.toNat default) else none
def gz (s:aD) (i:Int):Option UInt8:=if 0<=i/\i<(s.length:Int) then some (s.getD i.toNat 0) else none
def tI (s:aD) (lo hi:Int):Option aD:=if 0<=lo/\lo<=hi/\hi<=(s.length:Int) then some ((s.take hi.toNat).drop lo.toNat) else none
def mU (s:aD) (lo:Int):Option aD:=if 0<=lo/\lo<=(s.length:Int) then some (s.drop lo.toNat) else none
def sto (s:aD) (hi:Int):Option aD:=if 0<=hi/\hi<=(s.length:Int) then some (s.take hi.toNat) else none
def qc {α:Type} (s:List α) (lo:Int):Option (List α):=if 0<=lo/\lo<=(s.length:Int) then some (s.drop lo.toNat) else none
def T2 {α:Type} (s:List α) (hi:Int):Option (List α):=if 0<=hi/\hi<=(s.length:Int) then some (s.take hi.toNat) else none
def wQ (a b:aD):Option aD:=if a.length+b.length<=4611686018427387904 then some (a++b) else none
def cC {α:Type} (bytes:Nat) (a b:List α):Option (List α):=if (a.length+b.length)*bytes<=140737488355328 then some (a++b) else none
def must (p:Prop) [Decidable p]:Option Unit:=if p then some () else none
theorem di {α:Type} {c:Prop} [Decidable c] {x r:α} (h:(if c then some x else none)=some r):c/\x=r:=by
 by_cases hc:c
 ·rw [if_pos hc] at h;exact ⟨hc,aLh h⟩
 ·rw [if_neg hc] at h;cases h
theorem wA {p:Prop} [Decidable p] {u:Unit} (h:must p=some u):p:=(di h).1
section
variable {α:Type} {x y r:α}
theorem aB6 {p:Prop} [Decidable p] (hb:decide p=true) (h:(if p then x else y)=r):x=r:=by rw [if_pos (of_decide_eq_true hb)] at h;exact h
theorem aB7 {p:Prop} [Decidable p] (hb:decide p=false) (h:(if p then x else y)=r):y=r:=by rw [if_neg (of_decide_eq_false hb)] at h;exact h
theorem abf {β:Type} [BEq β] [LawfulBEq β] {a b:β} [Decidable (a=b)] (hb:(a==b)=true) (h:(if a=b then x else y)=r):x=r:=by rw [if_pos (eq_of_beq hb)] at h;exact h
theorem abg {β:Type} [BEq β] [LawfulBEq β] {a b:β} [Decidable (a=b)] (hb:(a==b)=false) (h:(if a=b then x else y)=r):y=r:=by rw [if_neg (ne_of_beq_false hb)] at h;exact h
theorem aB8 {β:Type} [BEq β] [LawfulBEq β] {a b:β} [Decidable (a=b)] (hb:(a != b)=true) (h:(if a=b then x else y)=r):y=r:=abg (by simpa [bne] using hb) h
theorem aB9 {β:Type} [BEq β] [LawfulBEq β] {a b:β} [Decidable (a=b)] (hb:(a != b)=false) (h:(if a=b then x else y)=r):x=r:=abf (by simpa [bne] using hb) h
theorem ahi {b:Bool} (hb:b=true) (h:(if b=true then x else y)=r):x=r:=by rw [if_pos hb] at h;exact h
theorem ahj {b:Bool} (hb:b=false) (h:(if b=true then x else y)=r):y=r:=by rw [if_neg (by rw [hb];decide)] at h;exact h
end
theorem ahk {b:Bool} (h:(!b)=false):b=true:=by cases b<;>simp_all
theorem ahl {b:Bool} (h:(!b)=true):b=false:=by cases b<;>simp_all
theorem abh {T F:Prop} (h:T):gJ true T F:=.mk (λ_=>h) (λh=>by cases h)
theorem abi {T F:Prop} (h:F):gJ false T F:=.mk (λh=>by cases h) (λ_=>h)
theorem TD {b:Bool} {T F:Prop} (hb:b=true) (h:T):gJ b T F:=.mk (λ_=>h) (λh=>by rw [hb] at h;cases h)
section
variable {α:Type} {l m:List α} {lo hi:Int}
theorem qd (h:qc l lo=some m):0<=lo/\lo<=(l.length:Int):=(di h).1
theorem nZ (h:qc l lo=some m):m.length=l.length - lo.toNat:=by rw [<-(di h).2];simp
theorem Ho (h:T2 l hi=some m):0<=hi/\hi<=(l.length:Int):=(di h).1
theorem ji {b:Nat} {q:List α} (h:cC b l m=some q):(l.length+m.length)*b<=140737488355328:=(di h).1
theorem gM {b:Nat} {q:List α} (h:cC b l m=some q):q.length=l.length+m.length:=by rw [<-(di h).2];simp
theorem BS (h:T2 l hi=some m):m.length=hi.toNat:=by
 have hb:=Ho h
 rw [<-(di h).2];simp;omega
end
def row {α:Type} (c:α->List PV) (l:List α):Nat->List PV:=λi=>(l.map c).getD i []
abbrev sl {α:Type} (sz:Nat) (c:α->List PV) (l:List α):PV:=.ij sz l.length (row c l)
def cI (x:Int):List PV:=[.int .i64 x]
def amF (k:IntKind) (x:Int):List PV:=[.int k x]
def cB (x:UInt8):List PV:=[.int .u8 x.toNat]
def cT (x:Bool):List PV:=[.bool x]
def cS (x:aD):List PV:=[.str x]
def cL {α:Type} (sz:Nat) (c:α->List PV) (x:List α):List PV:=[sl sz c x]
section
variable {α:Type} {c:α->List PV} {l m:List α} {x x':α} {i lo hi:Int}
theorem aeW (x:Int):(cI x).all cA=true:=rfl
theorem TE (k:IntKind) (x:Int):(amF k x).all cA=true:=rfl
theorem aeX (x:UInt8):(cB x).all cA=true:=rfl
theorem aeY (x:Bool):(cT x).all cA=true:=rfl
theorem aeZ (x:aD):(cS x).all cA=true:=rfl
theorem ae0 {β:Type} (sz:Nat) (d:β->List PV) (x:List β):(cL sz d x).all cA=true:=rfl
theorem Ix (x:Int):cB (UInt8.ofNat (IntKind.u8.wrap x).toNat)=[.int .u8 (IntKind.u8.wrap x)]:=by
 have h:0<=IntKind.u8.wrap x/\IntKind.u8.wrap x<256:=by
  have:=IntKind.wrap_u8 x
  omega
 unfold cB
 congr 2
 rw [UInt8.toNat_ofNat']
 omega
theorem rV {k:Nat} (h:k<l.length):row c l k=c l[k]:=by unfold row;simp [aKb,h]
theorem DJ {k:Nat} (h:l[k]? =some x):row c l k=c x:=by unfold row;simp [aKb,h]
theorem pa (hp:∀x,(c x).all cA=true) (k:Nat):(row c l k).all cA=true:=by
 by_cases h:k<l.length
 ·rw [rV h];exact hp _
 ·unfold row;simp [aKb,aKM (show l.length<=k by omega)]
theorem TF {s:aD} {k:Nat} (h:k<s.length):row cB s k=[.int .u8 (s.getD k 0).toNat]:=by
 rw [rV h];simp [cB,aKb,h]
theorem cn {s:aD} {b:UInt8} (h:gz s i=some b):0<=i/\i<(s.length:Int):=(di h).1
theorem cp {s:aD} {b:UInt8} (h:gz s i=some b):s.getD i.toNat 0=b:=(di h).2
theorem rk {s t:aD} (h:tI s lo hi=some t):0<=lo/\lo<=hi/\hi<=(s.length:Int):=(di h).1
theorem rl {s t:aD} (h:tI s lo hi=some t):(s.take hi.toNat).drop lo.toNat=t:=(di h).2
theorem sQ {s t:aD} (h:mU s lo=some t):0<=lo/\lo<=(s.length:Int):=(di h).1
theorem sR {s t:aD} (h:mU s lo=some t):s.drop lo.toNat=t:=(di h).2
theorem Im {s t:aD} (h:sto s hi=some t):0<=hi/\hi<=(s.length:Int):=(di h).1
theorem Ip {s t:aD} (h:sto s hi=some t):s.take hi.toNat=t:=(di h).2
theorem pR {s t u:aD} (h:wQ s t=some u):s.length+t.length<=4611686018427387904:=(di h).1
theorem pT {s t u:aD} (h:wQ s t=some u):s++t=u:=(di h).2
theorem n7 (h:qc l lo=some m):∀i,i<m.length->row c m i=row c l (lo.toNat+i):=λi rT=>by
 have hm:l[lo.toNat+i]? =some m[i]:=by
  rw [<-Of rT,<-(di h).2,aLe]
 rw [rV rT,DJ hm]
theorem Hp (h:T2 l hi=some m):∀i,i<m.length->row c m i=row c l i:=λi rT=>by
 have hl:=BS h
 have hm:l[i]? =some m[i]:=by
  rw [<-Of rT,<-(di h).2,aLC,if_pos aNc]
 rw [rV rT,DJ hm]
def DK (c:α->List PV) (f:Nat->List PV) (off:Nat) (l:List α):Prop:=∀i,i<l.length->f (off+i)=row c l i
theorem bg:DK c (row c l) 0 l:=λi _=>by rw [aKc]
theorem oW {s:aD} {f:Nat->List PV} {off n:Nat} (hs:DK cB f off s) (hn:s.length=n):∀i,i<n->f (off+i)=[.int .u8 (s.getD i 0).toNat]:=λi hi=>by
 subst hn
 rw [hs i hi];exact TF hi
theorem iu {b:Nat} {q:List α} {f g:Nat->List PV} {off:Nat} (h:cC b l m=some q) (hf:DK c f off l) (hg:∀i,i<m.length->g i=row c m i):
  ∀i,i<q.length->oz (bif Nat.blt i l.length then f (off+i) else g (i - l.length)) (row c q i):=λi rT=>by
 have hl:=gM h
 have e:q=l++m:=(di h).2.symm
 subst e
 by_cases uE:i<l.length
 ·rw [abj uE,hf i uE,rV rT,rV uE,aLs uE];exact oz.refl _
 ·rw [abk aNc,hg _ aNc,rV rT,rV aNc,aLr aNc];exact oz.refl _
theorem j5 {f:Nat->List PV} {off:Nat} (hs:DK c f off m):∀i,i<m.length->f (off+i)=row c m i:=hs
def CLL:List (List PV)->List (List PV)->Prop
 | [],[]=>True
 | a::l,b::r=>oz a b/\CLL l r
 | _,_=>False
theorem vx {a b lit:List PV} {l r:List (List PV)} (e:b=lit) (h:oz a lit) (t:CLL l r):CLL (a::l) (b::r):=⟨by rw [e];exact h,t⟩
theorem dC:∀{l r:List (List PV)},l=r->CLL l r
 | [],_,rfl=>trivial
 | a::l,_,rfl=>⟨oz.refl _,dC rfl⟩
theorem Iy:∀{l r:List (List PV)},CLL l r->∀i,oz (l.getD i []) (r.getD i [])
 | [],[],_,i=>by simp;exact trivial
 | a::l,b::r,h,0=>h.1
 | a::l,b::r,h,i+1=>by simpa using Iy h.2 i
 | [],_::_,h,_=>h.elim
 | _::_,[],h,_=>h.elim
theorem eg (c:α->List PV) (l:List α) {n:Nat} {cs:List (List PV)} (hn:n=l.length) (h:CLL cs (l.map c)):∀i,i<n->oz (cs.getD i []) (row c l i):=λi _=>Iy h i
theorem ae1 {c0 cv new:List PV} {off:Nat} {f:Nat->List PV} (h:new=gH c0 off cv):∀j,j<1->oz (da f 0 (gH c0 off cv) j) ((λ_=>new) j):=λj hj=>by
 obtain rfl:j=0:=by omega
 subst h
 exact oz.refl _
end
section
variable {α:Type} [Inhabited α] {c:α->List PV} {l m:List α} {x x':α} {i lo hi:Int}
theorem bf (h:idx l i=some x):0<=i/\i<(l.length:Int):=(di h).1
theorem abl (h:idx l i=some x):l[i.toNat]? =some x:=by
 have hb:=bf h
 have hl:i.toNat<l.length:=by omega
 rw [<-(di h).2,aKb,Of hl];rfl
theorem O2 (h:idx l i=some x):i.toNat<l.length:=by have hb:=bf h;omega
theorem aU (h:idx l i=some x):row c l i.toNat=c x:=DJ (abl h)
end
section
variable {h η:List al} {k:List Nat}
theorem Iz {pv:PV} (hp:cA pv=true):Fz h η k pv pv:=by
 cases pv with
 | int k n=>exact .int _ _
 | bool b=>exact .bool _
 | str s=>exact .str _
 | ck=>exact .ck
 | iF=>exact .iF
 | ij sz n f=>exact .ij _ _ _ _ (λ_ _=>rfl)
 | gD cs=>exact .gD _
 | fn f=>exact .fn _
 | _=>cases hp
theorem sW:∀{l:List PV},l.all cA=true->xZ h η k l l
 | [],_=>trivial
 | a::l,hp=>by
  simp only [aKf,At] at hp
  exact ⟨Iz hp.1,sW hp.2⟩
def ae2 (h η:List al) (k:List Nat):List (Nat×Nat)->List (Nat×Nat)->Prop
 | [],[]=>True
 | p::r,p'::r'=>(k[p'.1]? =some p.1/\(∃sz n e f,h[p.1]? =some (al.row p.2 sz n e f))/\∃sz n e f,η[p'.1]? =some (al.row p'.2 sz n e f)/\0<n)/\ae2 h η k r r'
 | _,_=>False
theorem ae2.get:∀(l l':List (Nat×Nat)),ae2 h η k l l'->l'.length=l.length/\∀(j:Nat) (p p':Nat×Nat),l[j]? =some p->l'[j]? =some p'->
  k[p'.1]? =some p.1/\(∃sz n e f,h[p.1]? =some (al.row p.2 sz n e f))/\∃sz n e f,η[p'.1]? =some (al.row p'.2 sz n e f)/\0<n
 | [],[],_=>⟨rfl,λj p p' hj _=>by simp at hj⟩
 | [],_::_,hh=>hh.elim
 | _::_,[],hh=>hh.elim
 | q::r,q'::r',hh=>by
  obtain ⟨h1,h2⟩:=hh
  obtain ⟨q1,q2⟩:=ae2.get r r' h2
  refine ⟨by simp [q1],λj p p' hj Du=>?_⟩
  cases j with
  | zero=>
   simp at hj Du
   subst hj Du
   exact h1
  | succ j=>exact q2 j p p' aNu (by simpa using Du)
theorem abm {α:Type} {c:α->List PV} (hp:∀x,(c x).all cA=true) {id g sz n off:Nat} {e:TypeId} {f:Nat->List PV} {l:List α} (hk:id∉k) (ho:h[id]? =some (al.row g sz n e f)) (hs:DK c f off l):
  Fz h η k (.own id g off l.length) (sl sz c l):=
 .abn hk ho rfl rfl (λi hi=>pa hp i) (λi hi=>by rw [hs i hi];exact sW (pa hp i))
theorem ae3 {α:Type} {c:α->List PV} (hp:∀x,(c x).all cA=true) {id g sz n off len:Nat} {e:TypeId} {f:Nat->List PV} {l:List α} (hk:id∉k) (ho:h[id]? =some (al.row g sz n e f)) (hs:DK c f off l) (hl:len=l.length):
  Fz h η k (.own id g off len) (sl sz c l):=by subst hl;exact abm hp hk ho hs
end
theorem Pg {α:Type} {c:α->List PV} (hp:∀x,(c x).all cA=true) (N g sz n:Nat) (e:TypeId) (l:List α):gQ N (.row g sz n e (row c l))=.row g sz n e (row c l):=by
 suffices e:(λi=>(row c l i).map (oA N))=row c l by unfold gQ;simp only [e]
 funext i
 have h:=pa (l:=l) hp i
 generalize row c l i=q at h
 induction q with
 | nil=>rfl
 | cons a r ih=>
  simp only [aKf,At] at h
  rw [aKp,ih h.2]
  cases a<;>first | rfl | cases h.1
theorem LP {α:Type} {c:α->List PV} (hp:∀x,(c x).all cA=true) (σ:Nat->Nat) (g sz n:Nat) (e:TypeId) (l:List α):sZ σ (.row g sz n e (row c l))=.row g sz n e (row c l):=by
 suffices e:(λi=>(row c l i).map (ld σ))=row c l by unfold sZ;simp only [e]
 funext i
 have h:=pa (l:=l) hp i
 generalize row c l i=q at h
 induction q with
 | nil=>rfl
 | cons a r ih=>
  simp only [aKf,At] at h
  rw [aKp,ih h.2]
  cases a<;>first | rfl | cases h.1
theorem ACall.aCa {P:Program} {f:FuncId} {args:List PV} {r0:PV} (hA:ACall P f args [] (λres h=>res=r0/\h=[])) (h:List al) (hp:args.all Rd=true) (hr:∀n,tU n r0=r0):
  ACall P f args h (λres h'=>res=r0/\h'=h):=
 (hA.frame h hp).mono (by rintro _ _ ⟨_,_,⟨rfl,rfl⟩,rfl,rfl⟩;exact ⟨hr _,by simp⟩)
theorem ACall.aCb {P:Program} {f:FuncId} {args mH:List PV} {r0:PV} (hA:ACall P f mH [] (λres h=>res=r0/\h=[])) (h:List al) (hz:xZ h [] [] args mH) (hn:mH.all nA=true) (hf:Re r0=true) (hr:∀n,tU n r0=r0):
  ACall P f args h (λres h'=>res=r0/\h'=h):=
 (hA.aCc h hz hn (by rintro _ _ ⟨rfl,rfl⟩;exact ⟨hf,by simp⟩)).mono (by rintro _ _ ⟨_,_,⟨rfl,rfl⟩,rfl,rfl⟩;exact ⟨hr _,by simp⟩)
section
variable {κ β:Type} [DecidableEq κ]
def mc (c:κ->PV) (d:β->PV) (p:κ×β):List PV:=[c p.1,d p.2]
end
theorem ln {a b:Nat} (h:a=b:=by first | rfl | simp):a=b:=h
class vM {α:Type} (c:α->List PV):Prop where
 pure:∀x,(c x).all cA=true
instance:vM cI:=⟨aeW⟩
instance (k:IntKind):vM (amF k):=⟨TE k⟩
instance:vM cB:=⟨aeX⟩
instance:vM cT:=⟨aeY⟩
instance:vM cS:=⟨aeZ⟩
instance {α:Type} (sz:Nat) (c:α->List PV):vM (cL sz c):=⟨ae0 sz c⟩
instance (a b:IntKind):vM (mc (PV.int a) (PV.int b)):=⟨λ_=>rfl⟩
instance (a:IntKind):vM (mc (PV.int a) PV.bool):=⟨λ_=>rfl⟩
instance (a:IntKind):vM (mc (PV.int a) PV.str):=⟨λ_=>rfl⟩
instance (b:IntKind):vM (mc PV.str (PV.int b)):=⟨λ_=>rfl⟩
instance:vM (mc PV.str PV.bool):=⟨λ_=>rfl⟩
instance:vM (mc PV.str PV.str):=⟨λ_=>rfl⟩
def ahm {α:Type} (l:List α) (off:Nat) (s:List α):List α:=l.mapIdx λi x=>if i<off then x else if i<off+s.length then s.getD (i - off) x else x
@[simp] theorem anr {α:Type} (l:List α) (off:Nat) (s:List α):(ahm l off s).length=l.length:=by unfold ahm;simp
section
variable {h η:List al} {k:List Nat}
theorem Fz.i {q:IntKind} {a b:Int} (e:a=b:=by rfl):Fz h η k (.int q a) (.int q b):=.int_eq e
theorem Fz.b {a b:Bool} (e:a=b:=by rfl):Fz h η k (.bool a) (.bool b):=.Rf e
theorem Fz.s {a b:List UInt8} (e:a=b:=by rfl):Fz h η k (.str a) (.str b):=.abo e
theorem Fz.l {sz n:Nat} {f:Nat->List PV}:Fz h η k (.ij sz n f) (.ij sz n f):=.ij _ _ _ _ (λ_ _=>rfl)
theorem Fz.z {α:Type} {c:α->List PV} {sz:Nat}:Fz h η k .ck (sl sz c []):=.ahn _ _
theorem Fz.g {id id' g' cJ:Nat} {e':TypeId} {f':Nat->List PV} (hk:k[id']? =some id:=by rfl) (ho:h[id]? =none:=by rfl) (hη:η[id']? =some (al.row g' cJ 0 e' f'):=by rfl):Fz h η k .ck (.own id' g' 0 0):=.aCd id id' g' cJ e' f' hk ho hη
theorem Fz.o {id id' g g' sz cJ n len:Nat} {e e':TypeId} {f f':Nat->List PV} (hk:k[id']? =some id:=by rfl) (ho:h[id]? =some (al.row g sz n e f):=by rfl) (hη:η[id']? =some (al.row g' cJ len e' f'):=by rfl):Fz h η k (.own id g 0 len) (.own id' g' 0 len):=
 .own _ _ _ _ _ _ _ _ _ _ _ _ _ _ hk ho hη (Nat.le_of_eq (aKc _))
theorem Fz.p {id id' g g' sz cJ n n' off:Nat} {e e':TypeId} {f f':Nat->List PV} (hk:k[id']? =some id:=by rfl) (ho:h[id]? =some (al.row g sz n e f):=by rfl) (hη:η[id']? =some (al.row g' cJ (n'+1) e' f'):=by rfl):Fz h η k (.aA id g 0 off) (.aA id' g' 0 off):=
 .aA _ _ _ _ _ _ _ _ _ _ _ _ _ _ hk ho hη (Nat.succ_pos _)
theorem Fz.m {id id' g g' sz cJ n n':Nat} {e e':TypeId} {f f':Nat->List PV} (hk:k[id']? =some id:=by rfl) (ho:h[id]? =some (al.row g sz n e f):=by rfl) (hη:η[id']? =some (al.row g' cJ n' e' f'):=by rfl):Fz h η k (.qv id) (.qv id'):=
 .qv _ _ _ _ _ _ _ _ _ _ _ _ hk ho hη
theorem Fz.j {pv:PV}:Fz h η k pv .jQ:=.jQ _
theorem Fz.f {n:Nat}:Fz h η k (.fn n) (.fn n):=.fn _
theorem Fz.r {α:Type} {c:α->List PV} [vM c] {id g sz n:Nat} {e:TypeId} {l:List α} (ho:h[id]? =some (al.row g sz n e (row c l)):=by rfl) (hk:id∉k:=by first | decide | simp):Fz h η k (.own id g 0 l.length) (sl sz c l):=abm vM.pure hk ho bg
theorem Fz.rx {α:Type} {c:α->List PV} [vM c] {id g sz n len:Nat} {e:TypeId} {l:List α} (hl:len=l.length) (ho:h[id]? =some (al.row g sz n e (row c l)):=by rfl) (hk:id∉k:=by first | decide | simp):Fz h η k (.own id g 0 len) (sl sz c l):=ae3 vM.pure hk ho bg hl
variable {m:Nat}
theorem od {α:Type} {c:α->List PV} [vM c] {id g sz:Nat} {e:TypeId} {l:List α} (ho:h[id]? =some (al.row g sz l.length e (row c l)):=by rfl):x5 h η k m (.row g sz l.length e (row c l)) id id:=by
 unfold x5;rw [ho];exact ⟨λ_=>⟨rfl,rfl⟩,rfl,.inl rfl,rfl,λi _=>sW (pa vM.pure i)⟩
theorem ob {id g sz:Nat} {e:TypeId} {a b:List PV} (ho:h[id]? =some (al.row g sz 1 e (λ_=>a))) (F:xZ h η k a b):x5 h η k m (.row g sz 1 e (λ_=>b)) id id:=by
 unfold x5;rw [ho];exact ⟨λ_=>⟨rfl,rfl⟩,rfl,.inl rfl,rfl,λi _=>F⟩
theorem nw {α:Type} {c:α->List PV} [vM c] {i id g g' sz:Nat} {e:TypeId} {l:List α} (hi:Nat.ble m i=true:=by rfl) (ho:h[id]? =some (al.row g sz l.length e (row c l)):=by rfl):x5 h η k m (.row g' sz l.length e (row c l)) i id:=by
 unfold x5;rw [ho];exact ⟨λh0=>absurd h0 (Nat.not_lt.2 (aKw hi)),rfl,.inl rfl,rfl,λi _=>sW (pa vM.pure i)⟩
theorem nb {i id g g' sz:Nat} {e:TypeId} {a b:List PV} (ho:h[id]? =some (al.row g sz 1 e (λ_=>a))) (F:xZ h η k a b) (hi:Nat.ble m i=true:=by rfl):x5 h η k m (.row g' sz 1 e (λ_=>b)) i id:=by
 unfold x5;rw [ho];exact ⟨λh0=>absurd h0 (Nat.not_lt.2 (aKw hi)),rfl,.inl rfl,rfl,λi _=>F⟩
theorem On {id g sz:Nat} {e:TypeId} {a:List PV} (ho:h[id]? =some (al.row g sz 1 e (λ_=>a))) (hp:a.all cA=true:=by rfl):x5 h η k m (.row g sz 1 e (λ_=>a)) id id:=ob ho (sW hp)
theorem nbp {i id g g' sz:Nat} {e:TypeId} {a:List PV} (ho:h[id]? =some (al.row g sz 1 e (λ_=>a))) (hp:a.all cA=true:=by rfl) (hi:Nat.ble m i=true:=by rfl):x5 h η k m (.row g' sz 1 e (λ_=>a)) i id:=nb ho (sW hp) hi
theorem dd {i id:Nat}:x5 h η k m .dead i id:=by unfold x5;trivial
theorem gh {i id g' cJ:Nat} {e':TypeId} {f':Nat->List PV} (hi:Nat.ble m i=true:=by rfl) (ho:h[id]? =none:=by rfl):x5 h η k m (.row g' cJ 0 e' f') i id:=by
 unfold x5;rw [ho];exact ⟨aKw hi,rfl⟩
theorem tk {env:Env} {σ:List (Nat×PV)} (k:List Nat) (he:zh h η k env σ) (hh:lL h η k m 0 η k) (hd:pC (pc η k)=true:=by rfl) (hl:Nat.ble m k.length=true:=by rfl):zi m env h σ η:=⟨k,hd,aKw hl,he,hh⟩
theorem ct {J:List (Nat×PV)->List al->Prop} {env:Env} {σ:List (Nat×PV)} (hj:J σ η) (ht:zi m env h σ η):zj m J env h:=.mk σ η ht hj
theorem lg {body:(Env->List al->Prop)->Env->List al->Prop} {env:Env} {σ:List (Nat×PV)} (hj:aK m body σ η) (ht:zi m env h σ η):loopGo m body env h:=.mk σ η ht hj
theorem le {body:(Env->List al->Prop)->Env->List al->Prop} {env:Env} {σ:List (Nat×PV)} (hj:aK m body σ η) (ht:zi m env h σ η):ru m body env h:=.take σ η ht hj
theorem en {R:PV->List al->Prop} {vs:List PV} {res:PV} (k:List Nat) (hR:R res η) (F:Fz h η k (oneOf vs) res) (hh:lL h η k m 0 η k) (hd:pC (pc η k)=true:=by rfl) (hl:Nat.ble m k.length=true:=by rfl) (hn:vs.all nA=true:=by rfl):Ends m R h vs:=by
 exact .mk hn k res η hd (aKw hl) F hh hR
theorem eB {a r:Bool} (hh:some a=some r):Ends 0 (λres h=>res=.bool r/\h=[]) h [.bool a]:=.mk rfl [] _ [] rfl (As _) (.Rf (aLh hh)) trivial ⟨rfl,rfl⟩
theorem eI {q:IntKind} {a r:Int} (hh:some a=some r):Ends 0 (λres h=>res=.int q r/\h=[]) h [.int q a]:=.mk rfl [] _ [] rfl (As _) (.int_eq (aLh hh)) trivial ⟨rfl,rfl⟩
theorem eS {a r:List UInt8} (hh:some a=some r):Ends 0 (λres h=>res=.str r/\h=[]) h [.str a]:=.mk rfl [] _ [] rfl (As _) (.abo (aLh hh)) trivial ⟨rfl,rfl⟩
end
section
variable {α:Type} {x y r:α} {T F:Prop}
theorem sD {c:Prop} [Decidable c] (h:(if c then x else y)=r) (kT:decide c=true->x=r->T) (kF:decide c=false->y=r->F):gJ (decide c) T F:=.mk (λhb=>kT hb (aB6 hb h)) (λhb=>kF hb (aB7 hb h))
theorem sE {β:Type} [BEq β] [LawfulBEq β] {a b:β} [Decidable (a=b)] (h:(if a=b then x else y)=r) (kT:(a==b)=true->x=r->T) (kF:(a==b)=false->y=r->F):gJ (a==b) T F:=.mk (λhb=>kT hb (abf hb h)) (λhb=>kF hb (abg hb h))
theorem UJ {β:Type} [BEq β] [LawfulBEq β] {a b:β} [Decidable (a=b)] (h:(if a=b then x else y)=r) (kT:(!(a==b))=true->y=r->T) (kF:(!(a==b))=false->x=r->F):gJ (!(a==b)) T F:=.mk (λhb=>kT hb (abg (ahl hb) h)) (λhb=>kF hb (abf (ahk hb) h))
theorem sN {β:Type} [BEq β] [LawfulBEq β] {a b:β} [Decidable (a=b)] (h:(if a=b then x else y)=r) (kT:(a != b)=true->y=r->T) (kF:(a != b)=false->x=r->F):gJ (a != b) T F:=.mk (λhb=>kT hb (aB8 hb h)) (λhb=>kF hb (aB9 hb h))
theorem sV {b:Bool} (h:(if b=true then x else y)=r) (kT:b=true->x=r->T) (kF:b=false->y=r->F):gJ b T F:=.mk (λhb=>kT hb (ahi hb h)) (λhb=>kF hb (ahj hb h))
theorem fP {b:Bool} (h:(if b=true then x else y)=r) (kT:(!b)=true->y=r->T) (kF:(!b)=false->x=r->F):gJ (!b) T F:=.mk (λhb=>kT hb (ahj (ahl hb) h)) (λhb=>kF hb (ahi (ahk hb) h))
end
theorem gJ.t {T F:Prop} (h:T):gJ true T F:=abh h
theorem gJ.f {T F:Prop} (h:F):gJ false T F:=abi h
theorem gJ.kt {b:Bool} {T F:Prop} (hb:b=true) (h:T):gJ b T F:=TD hb h
theorem vN.d {m:Nat} {A B:XQ->Env->List al->Prop} {Q:XQ} {env:Env} {h:List al} (hd:A (XQ.then (B Q) Q) env h):vN m A B Q env h:=.direct hd
inductive Nz:PV->PV->Prop
 | same (a:PV):Nz a a
 | nil (sz:Nat) (f:Nat->List PV):Nz .ck (.ij sz 0 f)
def NzL:List PV->List PV->Prop
 | [],[]=>True
 | a::l,b::r=>Nz a b/\NzL l r
 | _,_=>False
inductive NzA:PV->PV->Prop
 | same (a:PV):NzA a a
 | nil (sz:Nat) (f:Nat->List PV):NzA .ck (.ij sz 0 f)
 | agg {cs B3:List PV} (h:NzL cs B3):NzA (.agg cs) (.agg B3)
def ae4:List PV->List PV->Prop
 | [],[]=>True
 | a::l,b::r=>NzA a b/\ae4 l r
 | _,_=>False
theorem NzL.get:∀{l r:List PV},NzL l r->r.length=l.length/\∀(j:Nat) (p:PV),r[j]? =some p->∃q:PV,l[j]? =some q/\Nz q p
 | [],[],_=>⟨rfl,λj p h=>by simp at h⟩
 | a::l,b::r,h=>by
  obtain ⟨h1,h2⟩:=NzL.get h.2
  refine ⟨by simp [h1],λj p hj=>?_⟩
  cases j with
  | zero=>simp at hj;subst hj;exact ⟨a,rfl,h.1⟩
  | succ j=>obtain ⟨q,q1,q2⟩:=h2 j p aNu;exact ⟨q,by simpa using q1,q2⟩
 | [],_::_,h=>h.elim
 | _::_,[],h=>h.elim
theorem ae4.get:∀{l r:List PV},ae4 l r->r.length=l.length/\∀(j:Nat) (p:PV),r[j]? =some p->∃q:PV,l[j]? =some q/\NzA q p
 | [],[],_=>⟨rfl,λj p h=>by simp at h⟩
 | a::l,b::r,h=>by
  obtain ⟨h1,h2⟩:=ae4.get h.2
  refine ⟨by simp [h1],λj p hj=>?_⟩
  cases j with
  | zero=>simp at hj;subst hj;exact ⟨a,rfl,h.1⟩
  | succ j=>obtain ⟨q,q1,q2⟩:=h2 j p aNu;exact ⟨q,by simpa using q1,q2⟩
 | [],_::_,h=>h.elim
 | _::_,[],h=>h.elim
section
variable {P:Program} {f:FuncId} {args:List PV} {h:List al} {K:PV->List al->Prop} {r0:PV}
theorem b8 (hA:ACall P f args [] (λres h=>res=r0/\h=[])) (k:K r0 h) (hp:args.all Rd=true:=by rfl) (hr:∀n,tU n r0=r0:=by intro _;rfl):pF P f args h K:=
 ⟨_,hA.aCa h hp hr,by rintro _ _ ⟨rfl,rfl⟩;exact k⟩
theorem T6 {mH:List PV} (hA:ACall P f mH [] (λres h=>res=r0/\h=[])) (hz:xZ h [] [] args mH) (k:K r0 h) (hn:mH.all nA=true:=by rfl) (hf:Re r0=true:=by rfl) (hr:∀n,tU n r0=r0:=by intro _;rfl):pF P f args h K:=
 ⟨_,hA.aCb h hz hn hf hr,by rintro _ _ ⟨rfl,rfl⟩;exact k⟩
theorem shr {α:Type} {c:α->List PV} [vM c] (N g sz n:Nat) (e:TypeId) (l:List α):gQ N (.row g sz n e (row c l))=.row g sz n e (row c l):=Pg vM.pure N g sz n e l
theorem rer {α:Type} {c:α->List PV} [vM c] (σ:Nat->Nat) (g sz n:Nat) (e:TypeId) (l:List α):sZ σ (.row g sz n e (row c l))=.row g sz n e (row c l):=LP vM.pure σ g sz n e l
def OvL (h:List al) (σ:Nat->Nat):List al->List Nat->Prop
 | [],_=>True
 | o::r,i::is=>h[i]? =some (sZ σ o)/\OvL h σ r is
 | _::_,[]=>False
theorem OvL.get {h:List al} {σ:Nat->Nat}:∀{hc:List al} {is:List Nat},OvL h σ hc is->∀(j:Nat) (o:al),hc[j]? =some o->∃i:Nat,is[j]? =some i/\h[i]? =some (sZ σ o)
 | [],_,_,j,o,hj=>by simp at hj
 | a::r,[],hh,_,_,_=>hh.elim
 | a::r,i::is,hh,0,o,hj=>by simp at hj;subst hj;exact ⟨i,rfl,hh.1⟩
 | a::r,i::is,hh,j+1,o,hj=>by
  obtain ⟨q,h1,h2⟩:=OvL.get hh.2 j o aNu
  exact ⟨q,by simpa using h1,h2⟩
theorem ov {α:Type} {c:α->List PV} [vM c] {σ:Nat->Nat} {g sz n:Nat} {e:TypeId} {l:List α} {x:Option al} (hx:x=some (.row g sz n e (row c l)):=by rfl):x=some (sZ σ (.row g sz n e (row c l))):=by rw [LP vM.pure];exact hx
theorem ACall.Rg {hc:List al} {args jT:List PV} {R:PV->List al->Prop} (hA:ACall P f args hc R) (is:List Nat) (h:List al) (gT:OvL h (dD is h.length) hc is) (hl:hc.length=is.length) (hd:is.Nodup) (bc:is.all (λid=>Nat.blt id h.length)=true)
  (mB:jT=args.map (tV (dD is h.length))):ACall P f jT h (λres h'=>∃r0 h0,R r0 h0/\res=vO (dD is h.length) r0/\h'=rW h is h0):=
 hA.over is h hl hd (λid hid=>aKw (aKd.1 bc id hid)) (λj o hj=>by
  obtain ⟨i,h1,h2⟩:=gT.get j o hj
  unfold dD;rw [h1];exact h2) mB
theorem za {γ:Type} {h0:γ->List al} {args jT:List PV} {R0:γ->PV} {hc:List al} (hA:ACall P f args hc (λres h=>∃g,res=R0 g/\h=h0 g)) (is:List Nat) (gT:OvL h (dD is h.length) hc is) (R1:γ->PV) (H1:γ->List al) (k:∀g,K (R1 g) (H1 g)) (e2:∀g,rW h is (h0 g)=H1 g:=by intro g;simp only [rW,nB,aKp,aKI,List.drop,an,mg,rer];rfl) (e1:∀g,vO (dD is h.length) (R0 g)=R1 g:=by intro _;rfl)
  (hl:hc.length=is.length:=by rfl) (hd:is.Nodup:=by decide) (bc:is.all (λid=>Nat.blt id h.length)=true:=by rfl) (mB:jT=args.map (tV (dD is h.length)):=by rfl):pF P f jT h K:=
 ⟨_,hA.Rg is h gT hl hd bc mB,by rintro _ _ ⟨_,_,⟨g,rfl,rfl⟩,rfl,rfl⟩;rw [e1,e2];exact k g⟩
end
theorem si {α:Type} {a b:α} (h:some a=some b):a=b:=aLh h
theorem bk {α β:Type} {x:Option α} {f:α->Option β} {r:β} {G:Prop} (h:(x>>=f)=some r) (k:∀a,x=some a->f a=some r->G):G:=by
 obtain ⟨a,h1,h2⟩:=bind_some h
 exact k a h1 h2
theorem bd {α β:Type} {x:Option α} {f:α->Option β} {r:β} (h:(x>>=f)=some r):∃a,x=some a/\f a=some r:=bind_some h
def jr (cs:List (List PV)):Nat->List PV:=λi=>cs.getD i []
theorem Zq {n:Nat} {l r:List (List PV)} (h:CLL l r):∀i,i<n->oz (l.getD i []) (jr r i):=λi _=>Iy h i
theorem B0 {cs B3:List (List PV)} {i:Nat} (c:List PV) (h:B3=cs.set i c:=by rfl):∀k,k≠i->jr B3 k=jr cs k:=λk hk=>by
 subst h
 unfold jr
 rw [aKb,aKb,aKs (aLo hk)]
theorem amG {f f' q:Nat->List PV} {n i:Nat} (hi:i<n) (h:∀k,k≠i->f' k=f k):∀k,k≠i->Od f' n q k=Od f n q k:=λk hk=>by
 unfold Od
 rw [h k hk]
structure DR {α:Type} (D:List PV->α->Prop) (n:Nat) (f:Nat->List PV) (l:List α):Prop where
 len:l.length=n
 at_:∀i (h:i<l.length),D (f i) l[i]
 z:∀i,n<=i->f i=[]
inductive OD1:PV->PV->Prop
 | p {a:PV} (h:cA a=true):OD1 a a
 | o {a b:PV} (h:DL a b):OD1 a b
def GL:List PV->List PV->Prop
 | [],[]=>True
 | a::l,b::r=>OD1 a b/\GL l r
 | _,_=>False
class Rh {α:Type} (D:List PV->α->Prop) (c:outParam (α->List PV)):Prop where
 frz:∀cs x,D cs x->GL cs (c x)
def DEq {α:Type} (c:α->List PV):List PV->α->Prop:=λcs x=>cs=c x
theorem GL.len:∀{l r:List PV},GL l r->r.length=l.length
 | [],[],_=>rfl
 | a::l,b::r,h=>congrArg (·+1) (GL.len h.2)
 | [],_::_,h=>h.elim
 | _::_,[],h=>h.elim
theorem GL.get:∀{l r:List PV},GL l r->∀{j:Nat} {a b:PV},l[j]? =some a->r[j]? =some b->OD1 a b
 | a::l,b::r,h,0,x,y,hx,hy=>by simp at hx hy;subst hx hy;exact h.1
 | a::l,b::r,h,j+1,x,y,hx,hy=>GL.get h.2 (by simpa using hx) (by simpa using hy)
 | [],_,h,j,x,y,hx,hy=>by simp at hx
 | _::_,[],h,_,_,_,_,_=>h.elim
theorem GL.pure:∀{l:List PV},l.all cA=true->GL l l
 | [],_=>trivial
 | a::l,h=>by
  simp only [aKf,At] at h
  exact ⟨.p h.1,GL.pure h.2⟩
theorem DL.isO {a b:PV} (h:DL a b):eh a=true:=by cases h;rfl
theorem DL.Ri {a b:PV} (h:DL a b):cA b=true:=by cases h;rfl
theorem OD1.po {a b:PV} (h:OD1 a b):cA a=true\/eh a=true:=by
 cases h with
 | p h=>exact .inl h
 | o h=>exact .inr h.isO
theorem OD1.Ri {a b:PV} (h:OD1 a b):cA b=true:=by
 cases h with
 | p h=>exact h
 | o h=>exact h.Ri
theorem GL.po {l r:List PV} (h:GL l r):∀c,c∈l->cA c=true\/eh c=true:=λc hc=>by
 obtain ⟨j,hj,rfl⟩:=List.getElem_of_mem hc
 have hl:=h.len
 exact (h.get (Of hj) (Of (show j<r.length by omega))).po
instance {α:Type} (c:α->List PV) [hp:vM c]:Rh (DEq c) c:=⟨λcs x h=>by
 have h:cs=c x:=h
 subst h;exact GL.pure (hp.pure x)⟩
theorem Ph {a:PV} (h:eh a=true):cA a=false:=by cases a<;>first | rfl | cases h
theorem abp {σ:Nat->Nat} {a:PV} (h:cA a=true\/eh a=true):ld σ a=a:=by cases a<;>first | rfl | (rcases h with h | h<;>cases h)
theorem abq {N:Nat} {a:PV} (h:cA a=true\/eh a=true):oA N a=a:=by cases a<;>first | rfl | (rcases h with h | h<;>cases h)
theorem IA {g:PV->PV}:∀{l:List PV},(∀c,c∈l->g c=c)->l.map g=l
 | [],_=>rfl
 | a::l,h=>by simp only [aKp];rw [h a aNf,IA (λc hc=>h c (by simp [hc]))]
section
variable {α:Type} {D:List PV->α->Prop} {c:α->List PV} {n:Nat} {f:Nat->List PV} {l:List α}
theorem abr (hD:∀i (h:i<l.length),GL (f i) (c l[i])) (hl:l.length=n) (sz:Nat) (e:TypeId) (F:Nat->Prop):DL (.dI sz n e f F) (sl sz c l):=by
 subst hl
 have at_:∀i,i<l.length->GL (f i) (row c l i):=λi hi=>by rw [rV hi];exact hD i hi
 refine .mk sz l.length e f (row c l) F (λi hi=>(at_ i hi).len) (λi j pv gy hi h1 h2 hn=>?_) (λi j pv gy hi h1 h2 hn=>?_) (λi j gy hi h2=>?_)
 ·cases (at_ i hi).get h1 h2 with
  | p _=>rfl
  | o h=>rw [h.isO] at hn;cases hn
 ·cases (at_ i hi).get h1 h2 with
  | p h=>rw [Ph hn] at h;cases h
  | o h=>exact h
 ·have hj:j<(f i).length:=by rw [<-(at_ i hi).len];exact (An.1 h2).1
  exact ((at_ i hi).get (Of hj) h2).Ri
theorem DR.od [hc:Rh D c] (d:DR D n f l):∀i (h:i<l.length),GL (f i) (c l[i]):=λi h=>hc.frz _ _ (d.at_ i h)
theorem DR.po [hc:Rh D c] (d:DR D n f l):∀i,i<n->∀x,x∈f i->cA x=true\/eh x=true:=λi hi=>(d.od (c:=c) i (by rw [d.len];exact hi)).po
theorem DR.ren [hc:Rh D c] (d:DR D n f l) {g:PV->PV} (hg:∀x,cA x=true\/eh x=true->g x=x):(λi=>(f i).map g)=f:=by
 funext i
 by_cases hi:i<n
 ·exact IA (λx hx=>hg x (d.po (c:=c) i hi x hx))
 ·rw [d.z i aNc];rfl
theorem red [hc:Rh D c] (d:DR D n f l) (σ:Nat->Nat) (g sz n':Nat) (e:TypeId):sZ σ (.row g sz n' e f)=.row g sz n' e f:=by
 show al.row g sz n' e (λi=>(f i).map (ld σ))=_
 rw [d.ren (c:=c) (λx=>abp)]
theorem shd [hc:Rh D c] (d:DR D n f l) (N g sz n':Nat) (e:TypeId):gQ N (.row g sz n' e f)=.row g sz n' e f:=by
 show al.row g sz n' e (λi=>(f i).map (oA N))=_
 rw [d.ren (c:=c) (λx=>abq)]
theorem OQ [hc:Rh D c] (d:DR D n f l) {σ:Nat->Nat} {g sz n':Nat} {e:TypeId} {x:Option al} (hx:x=some (.row g sz n' e f):=by rfl):x=some (sZ σ (.row g sz n' e f)):=by rw [red (c:=c) d];exact hx
theorem DR.self (d:DR D n f l):DR D l.length f l:=by have h:=d.len;subst h;exact d
theorem DR.nil:DR D 0 (λ_=>[]) []:=⟨rfl,λi h=>absurd h (aKR _),λ_ _=>rfl⟩
theorem jh {f:Nat->List PV} {i:Nat} {cs:List PV}:da f i cs i=cs:=by
 unfold da
 rw [show Nat.beq i i=true from aLp i]
 rfl
theorem lD {f:Nat->List PV} {i k:Nat} {cs:List PV} (h:k≠i):da f i cs k=f k:=by
 unfold da
 rw [show Nat.beq k i=false from aLE.2 (λq=>h (No q))]
 rfl
theorem DR.set (d:DR D n f l) {i:Nat} (hi:i<l.length) {cs:List PV} {x:α} (hx:D cs x):DR D n (da f i cs) (l.set i x):=by
 refine ⟨by rw [aLJ];exact d.len,λk hk=>?_,λk hk=>?_⟩
 ·rw [aLJ] at hk
  rw [List.getElem_set]
  by_cases h:i=k
  ·subst h;rw [if_pos rfl,jh];exact hx
  ·rw [if_neg h,lD (aLo h)];exact d.at_ k hk
 ·have:=d.len
  rw [lD aNc];exact d.z k hk
theorem DR.app (d:DR D n f l) {cs:List PV} {x:α} (hx:D cs x):DR D (n+1) (da f n cs) (l++[x]):=by
 have hl:=d.len
 refine ⟨by simp [hl],λk hk=>?_,λk hk=>?_⟩
 ·by_cases h:k=n
  ·subst h
   rw [jh,aLr aNc]
   simp only [hl,aLm,aLF]
   exact hx
  ·rw [lD h,aLs (by simp at hk;omega)];exact d.at_ k (by simp at hk;omega)
 ·rw [lD aNc];exact d.z k aNc
theorem DR.idx [Inhabited α] (d:DR D n f l) {i:Int} {x:α} (h:Go.Am.idx l i=some x):D (f i.toNat) x:=by
 have h1:=abl h
 obtain ⟨h2,h3⟩:=An.1 h1
 rw [<-h3];exact d.at_ _ h2
theorem DR.lt [Inhabited α] (d:DR D n f l) {i:Int} {x:α} (h:Go.Am.idx l i=some x):i.toNat<n:=by rw [<-d.len];exact O2 h
theorem DR.bd [Inhabited α] (d:DR D n f l) {i:Int} {x:α} (h:Go.Am.idx l i=some x):0<=i/\i<(n:Int):=by rw [<-d.len];exact bf h
variable {h η:List al} {k:List Nat} {m:Nat}
theorem aCe {a:PV} (hp:cA a=true\/eh a=true):Fz h η k a a:=by
 cases a<;>first | exact Iz rfl | exact .dI _ _ _ _ _ | (rcases hp with hp | hp<;>cases hp)
theorem Pj:∀{l:List PV},(∀c,c∈l->cA c=true\/eh c=true)->xZ h η k l l
 | [],_=>trivial
 | a::l,hp=>⟨aCe (hp a aNf),Pj (λc hc=>hp c (by simp [hc]))⟩
theorem Fz.rd [hc:Rh D c] {id g sz n0 n':Nat} {e:TypeId} (d:DR D n f l) (hn:n'=l.length:=by first | rfl | simp [*]) (ho:h[id]? =some (al.row g sz n0 e f):=by rfl) (hk:id∉k:=by first | decide | simp):Fz h η k (.own id g 0 n') (sl sz c l):=by
 subst hn
 have at_:∀i,i<l.length->GL (f i) (row c l i):=λi hi=>by rw [rV hi];exact d.od (c:=c) i hi
 refine .frz id g sz n0 0 l.length e f (row c l) hk ho (λi hi=>by rw [aKc];exact (at_ i hi).len) (λi j gy hi h2=>?_) (λi j pv gy hi h1 h2 Ah=>?_)
 ·have hj:j<(f i).length:=by rw [<-(at_ i hi).len];exact (An.1 h2).1
  exact ((at_ i hi).get (Of hj) h2).Ri
 ·rw [aKc] at h1
  cases (at_ i hi).get h1 h2 with
  | p h=>exact Iz h
  | o h=>exact absurd h Ah
theorem odd [hc:Rh D c] {id g sz n0 n':Nat} {e:TypeId} (d:DR D n f l) (hn:n'=n0:=by first | rfl | simp [*]) (hle:n'=n:=by first | rfl | simp [*]) (ho:h[id]? =some (al.row g sz n0 e f):=by rfl):x5 h η k m (.row g sz n' e f) id id:=by
 subst hn hle
 unfold x5;rw [ho];exact ⟨λ_=>⟨rfl,rfl⟩,rfl,.inl rfl,rfl,λi hi=>Pj (d.po (c:=c) i hi)⟩
theorem nwd [hc:Rh D c] {i id g g' sz n0 n':Nat} {e:TypeId} (d:DR D n f l) (hn:n'=n0:=by first | rfl | simp [*]) (hle:n'=n:=by first | rfl | simp [*]) (hi:Nat.ble m i=true:=by rfl) (ho:h[id]? =some (al.row g sz n0 e f):=by rfl):x5 h η k m (.row g' sz n' e f) i id:=by
 subst hn hle
 unfold x5;rw [ho];exact ⟨λh0=>absurd h0 (Nat.not_lt.2 (aKw hi)),rfl,.inl rfl,rfl,λi hi=>Pj (d.po (c:=c) i hi)⟩
theorem Fz.od {id id' g g' sz cJ n0 n1 n2 n3:Nat} {e e':TypeId} {f f':Nat->List PV} (h1:n1=n2:=by first | rfl | simp [*]) (h2:n2=n3:=by first | rfl | simp [*]) (hk:k[id']? =some id:=by rfl) (ho:h[id]? =some (al.row g sz n0 e f):=by rfl) (hη:η[id']? =some (al.row g' cJ n3 e' f'):=by rfl):Fz h η k (.own id g 0 n1) (.own id' g' 0 n2):=by
 subst h1 h2
 exact .own _ _ _ _ _ _ _ _ _ _ _ _ _ _ hk ho hη (Nat.le_of_eq (aKc _))
theorem exs (id:Nat) {g sz n:Nat} {e:TypeId} {f:Nat->List PV} {i cJ n':Nat} {e':TypeId} {f':Nat->List PV} {F:Nat->Prop} (j:Nat) (cs cs1:List PV) (f1:Nat->List PV) (hi:i<n) (hc:f i=cs) (h1:f1 i=cs1) (hr:∀k,k≠i->f1 k=f k)
  (hj:cs[j]? =some (.dI cJ n' e' f' F):=by rfl) (hs:cs1=cs.set j (.own h.length 0 0 n'):=by rfl) (ho:h[id]? =some (.row g sz n e f):=by rfl) {h2:List al} (h3:h2=h.set id (.row g sz n e f1)++[.row 0 cJ n' e' f']:=by rfl):LQ h h2:=
 ⟨id,g,sz,n,e,f,i,j,cJ,n',e',f',F,f1,ho,hi,by rw [hc];exact hj,by rw [h1,hc,hs],λk _ hk=>hr k hk,h3⟩
theorem aaz {id sub g sz n:Nat} {e:TypeId} {f:Nat->List PV} {g2 lN n2:Nat} {e2:TypeId} {f2:Nat->List PV} {i:Nat} {j:Nat} {F:Nat->Prop} (cs cs1:List PV) (f1:Nat->List PV) (hi:i<n) (hc:f i=cs) (h1:f1 i=cs1) (hr:∀k,k≠i->f1 k=f k)
  (hp:∀k,k<n2->∀x,x∈f2 k->cA x=true\/eh x=true) (hj:cs[j]? =some (.own sub g2 0 n2):=by rfl) (hs:cs1=cs.set j (.dI lN n2 e2 f2 F):=by rfl) (ho:h[id]? =some (.row g sz n e f):=by rfl) (WU:h[sub]? =some (.row g2 lN n2 e2 f2):=by rfl) (oY:id≠sub:=by decide)
  {h2:List al} (h3:h2=(h.set id (.row g sz n e f1)).set sub .dead:=by rfl):Bm h id i j sub F h2:=
 ⟨g,sz,n,e,f,g2,lN,n2,e2,f2,f1,ho,WU,oY,hi,by rw [hc];exact hj,hp,by rw [h1,hc,hs],λk _ hk=>hr k hk,h3⟩
theorem amH {f:Nat->List PV} {i off n:Nat} {c0 cv cs:List PV} (hc:oz (gH c0 off cv) cs):∀j,j<n->oz (da f i (gH c0 off cv) j) (da f i cs j):=λj _=>by
 by_cases h:j=i
 ·subst h;rw [jh,jh];exact hc
 ·rw [lD h,lD h];exact oz.refl _
theorem Rj {f:Nat->List PV} {i off n:Nat} {c0 cq cv cs:List PV} (hc:oz (gH c0 off cv) cs):∀j,j<n->oz (da (da f i cq) i (gH c0 off cv) j) (da f i cs j):=λj _=>by
 by_cases h:j=i
 ·subst h;rw [jh,jh];exact hc
 ·rw [lD h,lD h,lD h];exact oz.refl _
theorem aml {f:Nat->List PV} {i:Nat} {cs:List PV}:∀k,k≠i->da f i cs k=f k:=λk h=>lD h
theorem Rk {f:Nat->List PV} {i:Nat} {cs cq:List PV}:∀k,k≠i->da f i cs k=da f i cq k:=λk h=>by rw [lD h,lD h]
theorem cc {f:Nat->List PV} {n N:Nat} {cs cq:List PV} (hN:N=n+1) (hc:oz cs cq):∀i,i<N->oz (bif Nat.blt i n then f (0+i) else cs) (da f n cq i):=λi hi=>by
 subst hN
 by_cases h:i<n
 ·rw [abj h,lD aNc,aKc];exact oz.refl _
 ·obtain rfl:i=n:=by omega
  rw [abk aNc,jh];exact hc
theorem HZ {N:Nat} {cs cq:List PV} (hN:N=1) (hc:oz cs cq):∀i,i<N->oz cs (da (λ_=>[]) 0 cq i):=λi hi=>by
 subst hN
 obtain rfl:i=0:=by omega
 rw [jh];exact hc
end
section
variable {P:Program} {f:FuncId} {args:List PV} {h:List al} {K:PV->List al->Prop} {R:PV->List al->Prop}
theorem aBH {hc:List al} {jT:List PV} (hA:ACall P f args hc R) (is:List Nat) (gT:OvL h (dD is h.length) hc is)
  (k:∀r0 h0,R r0 h0->∃r1 h1,vO (dD is h.length) r0=r1/\rW h is h0=h1/\K r1 h1)
  (mB:jT=args.map (tV (dD is h.length)):=by rfl) (hl:hc.length=is.length:=by rfl) (hd:is.Nodup:=by decide) (bc:is.all (λid=>Nat.blt id h.length)=true:=by rfl):pF P f jT h K:=
 ⟨_,hA.Rg is h gT hl hd bc mB,by
  rintro _ _ ⟨r0,h0,hR,rfl,rfl⟩
  obtain ⟨r1,h1,rfl,rfl,hk⟩:=k r0 h0 hR
  exact hk⟩
theorem amI (hA:ACall P f args [] R) (k:∀r0 h0,R r0 h0->∃r1 h1,tU h.length r0=r1/\h++h0.map (gQ h.length)=h1/\K r1 h1) (hp:args.all Rd=true:=by rfl):pF P f args h K:=
 ⟨_,hA.frame h hp,by
  rintro _ _ ⟨r0,h0,hR,rfl,rfl⟩
  obtain ⟨r1,h1,rfl,rfl,hk⟩:=k r0 h0 hR
  exact hk⟩
end
def vQ (cs:List PV):Prop:=∀c∈cs,(eh c=false->qA c=true)/\(eh c=true->OG (λpv=>qA pv=true) c)
class Fl1 {α:Type} (c:α->List PV):Prop where
 fl:∀x,(c x).all qA=true
class Dfl {α:Type} (D:List PV->α->Prop):Prop where
 fl:∀cs x,D cs x->vQ cs
instance:Fl1 cI:=⟨λ_=>rfl⟩
instance (k:IntKind):Fl1 (amF k):=⟨λ_=>rfl⟩
instance:Fl1 cB:=⟨λ_=>rfl⟩
instance:Fl1 cT:=⟨λ_=>rfl⟩
instance:Fl1 cS:=⟨λ_=>rfl⟩
theorem LR {a:PV} (h:qA a=true):eh a=false:=by cases a<;>first | rfl | cases h
theorem aHQ:vQ []:=λc hc=>absurd hc aLU
theorem amJ {a:PV} {l:List PV} (t:vQ l) (h:qA a=true:=by rfl):vQ (a::l):=λc hc=>by
 rcases aKo.1 hc with rfl | hc
 ·exact ⟨λ_=>h,λq=>by rw [LR h] at q;cases q⟩
 ·exact t c hc
theorem amK {l:List PV} (h:l.all qA=true):vQ l:=λc hc=>⟨λ_=>aKd.1 h c hc,λq=>by rw [LR (aKd.1 h c hc)] at q;cases q⟩
theorem aCf {sz n:Nat} {e:TypeId} {f:Nat->List PV} {F:Nat->Prop} (h:∀i,i<n->vQ (f i)):OG (λpv=>qA pv=true) (.dI sz n e f F):=
 .mk sz n e f F (λi j pv hi hj hn=>(h i hi pv (aKl hj)).1 hn) (λi j _ _ _ _ _ hi hj=>(h i hi _ (aKl hj)).2 rfl)
theorem aHR {sz n:Nat} {e:TypeId} {f:Nat->List PV} {F:Nat->Prop} {l:List PV} (h:∀i,i<n->vQ (f i)) (t:vQ l):vQ (.dI sz n e f F::l):=λc hc=>by
 rcases aKo.1 hc with rfl | hc
 ·exact ⟨λq=>(by cases q),λ_=>aCf h⟩
 ·exact t c hc
instance {α:Type} (c:α->List PV) [h:Fl1 c]:Dfl (DEq c):=⟨λcs x q=>by
 have q:cs=c x:=q
 subst q;exact amK (h.fl x)⟩
theorem bT {cs:List PV}:∀i,i<1->oz ([cs].getD i []) ((λ_=>cs) i):=λi hi=>by
 obtain rfl:i=0:=by omega
 exact oz.refl _
theorem LS:∀{l:List PV},l.all cA=true->noO l=true
 | [],_=>rfl
 | a::l,h=>by
  simp only [aKf,At] at h
  have:=LS h.2
  cases a<;>first | exact this | (have h1:=h.1;cases h1)
theorem mw {α:Type} {c:α->List PV} [hp:vM c] {f:Nat->List PV} {off:Nat} {l:List α} (hs:DK c f off l):∀i,i<l.length->noO (f (off+i))=true:=λi hi=>by
 rw [hs i hi];exact LS (pa hp.pure i)
section
variable {α:Type} {D:List PV->α->Prop} {n:Nat} {f:Nat->List PV} {l q:List α} {x:α} {b:Nat}
theorem LU (h:cC b l [x]=some q):l++[x]=q:=(di h).2
theorem DR.gu (d:DR D n f l) (h:cC b l [x]=some q) {cs:List PV} (hx:D cs x):DR D q.length (da f n cs) q:=by
 have h1:=LU h
 subst h1
 exact (d.app hx).self
theorem DR.ln (d:DR D n f l) (h:cC b l [x]=some q):q.length=n+1:=by
 have h1:=LU h
 subst h1
 simp [d.len]
theorem DR.lq (d:DR D n f l) (h:cC b l [x]=some q):n<q.length:=by rw [d.ln h];exact aKe n
theorem DR.rO (d:DR D n f l) (h:cC b l [x]=some q):(n+1)*b<=140737488355328:=by
 have h1:=ji h
 rw [d.len] at h1
 exact h1
theorem DR.cZ:DR D 0 (jr []) []:=⟨rfl,λi h=>absurd h (aKR _),λ_ _=>rfl⟩
theorem DR.bS {cs:List PV} {l':List (List PV)} (hx:D cs x) (d:DR D n (jr l') l):DR D (n+1) (jr (cs::l')) (x::l):=
 ⟨by simp [d.len],λi h=>by
  cases i with
  | zero=>exact hx
  | succ i=>exact d.at_ i aNH,λi hi=>by
  cases i with
  | zero=>omega
  | succ i=>exact d.z i aNc⟩
theorem DR.jn {m:Nat} {f2:Nat->List PV} {l2:List α} (d:DR D n f l) (d2:DR D m f2 l2):DR D (n+m) (Od f n f2) (l++l2):=
 ⟨by simp [d.len,d2.len],λi h=>by
  unfold Od
  by_cases hi:i<n
  ·have hb:Nat.blt i n=true:=by simpa using hi
   rw [hb,aLs (by rw [d.len];exact hi)]
   exact d.at_ i _
  ·have hb:Nat.blt i n=false:=by
    rw [aLE]
    intro hh
    exact hi aNN
   have hl:=d.len
   have h':i<l.length+l2.length:=by simpa using h
   rw [hb,aLr aNc]
   have:=d2.at_ (i - n) aNc
   simp only [hl]
   exact this,λi hi=>by
  unfold Od
  have hb:Nat.blt i n=false:=by
   rw [aLE]
   intro hh
   have:i<n:=by simpa using hh
   omega
  rw [hb]
  exact d2.z _ aNc⟩
theorem DR.MD {m:Nat} {f2:Nat->List PV} {l2:List α} (d:DR D n f l) (d2:DR D m f2 l2) (h:cC b l l2=some q):DR D (n+m) (Od f n f2) q:=by
 have h1:l++l2=q:=(di h).2
 subst h1
 exact d.jn d2
theorem DR.jbd {m:Nat} {l2:List α} (hl:l.length=n) (hm:l2.length=m) (h:cC b l l2=some q):(n+m)*b<=140737488355328:=by
 subst hl;subst hm;exact ji h
theorem DR.mb (d:DR D n f l) (h:l.length*b<=140737488355328):n*b<=140737488355328:=by rw [<-d.len];exact h
end
def ae5 (f:Nat->List PV):Prop:=∀g:PV->PV,(∀x,cA x=true\/eh x=true->g x=x)->(λi=>(f i).map g)=f
theorem DR.abt {α:Type} {D:List PV->α->Prop} {c:α->List PV} [hc:Rh D c] {n:Nat} {f:Nat->List PV} {l:List α} (d:DR D n f l):ae5 f:=λg hg=>d.ren (c:=c) hg
theorem vR {α:Type} {c:α->List PV} [hp:vM c] {l:List α}:ae5 (row c l):=λg hg=>by
 funext i
 exact IA (λx hx=>hg x (.inl (aKd.1 (pa hp.pure i) x hx)))
theorem vU {cs:List PV} (h:cs.all cA=true):ae5 (λ_=>cs):=λg hg=>by
 funext i
 exact IA (λx hx=>hg x (.inl (aKd.1 h x hx)))
theorem rfx {f:Nat->List PV} (h:ae5 f) (σ:Nat->Nat) (g sz n:Nat) (e:TypeId):sZ σ (.row g sz n e f)=.row g sz n e f:=by
 show al.row g sz n e (λi=>(f i).map (ld σ))=_
 rw [h _ (λx=>abp)]
theorem vV {cs:List PV} {σ:Nat->Nat} {g sz n:Nat} {e:TypeId}:sZ σ (.row g sz n e (λ_=>cs))=.row g sz n e (λ_=>cs.map (ld σ)):=rfl
theorem ta {σ:Nat->Nat}:sZ σ .dead=.dead:=rfl
theorem nx {h h0 h1:List al} {is:List Nat} {r0 r1:PV} {K:PV->List al->Prop} (k:K r1 h1)
  (hr:vO (dD is h.length) r0=r1:=by simp only [vO,tV,ld,dD,aKp,aKI,an,mg,aKH,aKE,aKV,Nat.reduceAdd,Nat.reduceSub];rfl)
  (hh:rW h is h0=h1:=by
   simp (disch:=first | rfl | exact DR.abt aNs | exact vR | exact vU rfl) only [rW,nB,rfx,vV,ta,ld,dD,aKp,aKI,aLk,aKh,aLG,an,mg,aLq,aLu,aKY,aKk,aKH,aKE,aKV,Nat.reduceAdd,Nat.reduceSub]
   rfl):∃r1 h1,vO (dD is h.length) r0=r1/\rW h is h0=h1/\K r1 h1:=⟨r1,h1,hr,hh,k⟩
section
variable {P:Program} {f:FuncId} {h:List al} {K:PV->List al->Prop} {r0 r1:PV} {h0 h1:List al}
theorem aHS {hc:List al} {args jT:List PV} (hA:ACall P f args hc (λres h=>res=r0/\h=h0)) (is:List Nat) (gT:OvL h (dD is h.length) hc is) (k:K r1 h1)
  (hr:vO (dD is h.length) r0=r1:=by simp only [vO,tV,ld,dD,aKp,aKI,an,mg,aKH,aKE,aKV,Nat.reduceAdd,Nat.reduceSub];rfl)
  (hh:rW h is h0=h1:=by
   simp (disch:=first | rfl | exact DR.abt aNs | exact vR | exact vU rfl) only [rW,nB,rfx,vV,ta,ld,dD,aKp,aKI,aLk,aKh,aLG,an,mg,aLq,aLu,aKY,aKk,aKH,aKE,aKV,Nat.reduceAdd,Nat.reduceSub]
   rfl)
  (hl:hc.length=is.length:=by rfl) (hd:is.Nodup:=by decide) (bc:is.all (λid=>Nat.blt id h.length)=true:=by rfl) (mB:jT=args.map (tV (dD is h.length)):=by rfl):pF P f jT h K:=
 ⟨_,hA.Rg is h gT hl hd bc mB,by rintro _ _ ⟨_,_,⟨rfl,rfl⟩,rfl,rfl⟩;rw [hr,hh];exact k⟩
theorem bK {hc:List al} {args jT:List PV} (hA:ACall P f args hc (λres h=>res=r0/\h=h0)) (is:List Nat) (k:K r1 h1) (gT:OvL h (dD is h.length) hc is:=by exact ⟨rfl,⟨⟩⟩)
  (hr:vO (dD is h.length) r0=r1:=by simp only [vO,tV,ld,dD,aKp,aKI,an,mg,aKH,aKE,aKV,Nat.reduceAdd,Nat.reduceSub];rfl)
  (hh:rW h is h0=h1:=by
   simp (disch:=first | rfl | exact DR.abt aNs | exact vR | exact vU rfl) only [rW,nB,rfx,vV,ta,ld,dD,aKp,aKI,aLk,aKh,aLG,an,mg,aLq,aLu,aKY,aKk,aKH,aKE,aKV,Nat.reduceAdd,Nat.reduceSub]
   rfl)
  (hl:hc.length=is.length:=by rfl) (hd:is.Nodup:=by decide) (bc:is.all (λid=>Nat.blt id h.length)=true:=by rfl) (mB:jT=args.map (tV (dD is h.length)):=by rfl):pF P f jT h K:=aHS hA is gT k hr hh hl hd bc mB
theorem QY {α:Type} {D:List PV->α->Prop} {n:Nat} {l:List α} {hc:List al} {args jT:List PV} {X R1:(Nat->List PV)->PV} {H H1:(Nat->List PV)->List al} (hA:ACall P f args hc (λres h=>∃F,DR D n F l/\res=X F/\h=H F)) (is:List Nat) (gT:OvL h (dD is h.length) hc is) (k:∀F,DR D n F l->K (R1 F) (H1 F))
  (hr:∀F,DR D n F l->vO (dD is h.length) (X F)=R1 F:=by intro F d;simp only [vO,tV,ld,dD,aKp,aKI,an,mg,aKH,aKE,aKV,Nat.reduceAdd,Nat.reduceSub];rfl)
  (hh:∀F,DR D n F l->rW h is (H F)=H1 F:=by
   intro F d
   simp (disch:=first | rfl | exact DR.abt aNs | exact vR | exact vU rfl) only [rW,nB,rfx,vV,ta,ld,dD,aKp,aKI,aLk,aKh,aLG,an,mg,aLq,aLu,aKY,aKk,aKH,aKE,aKV,Nat.reduceAdd,Nat.reduceSub]
   rfl)
  (hl:hc.length=is.length:=by rfl) (hd:is.Nodup:=by decide) (bc:is.all (λid=>Nat.blt id h.length)=true:=by rfl) (mB:jT=args.map (tV (dD is h.length)):=by rfl):pF P f jT h K:=
 ⟨_,hA.Rg is h gT hl hd bc mB,by rintro _ _ ⟨_,_,⟨F,d,rfl,rfl⟩,rfl,rfl⟩;rw [hr F d,hh F d];exact k F d⟩
theorem bp {α:Type} {D:List PV->α->Prop} {n:Nat} {l:List α} {hc:List al} {args jT:List PV} {X R1:(Nat->List PV)->PV} {H H1:(Nat->List PV)->List al} (hA:ACall P f args hc (λres h=>∃F,DR D n F l/\res=X F/\h=H F)) (is:List Nat) (k:∀F,DR D n F l->K (R1 F) (H1 F)) (gT:OvL h (dD is h.length) hc is:=by exact ⟨rfl,⟨⟩⟩)
  (hr:∀F,DR D n F l->vO (dD is h.length) (X F)=R1 F:=by intro F d;simp only [vO,tV,ld,dD,aKp,aKI,an,mg,aKH,aKE,aKV,Nat.reduceAdd,Nat.reduceSub];rfl)
  (hh:∀F,DR D n F l->rW h is (H F)=H1 F:=by
   intro F d
   simp (disch:=first | rfl | exact DR.abt aNs | exact vR | exact vU rfl) only [rW,nB,rfx,vV,ta,ld,dD,aKp,aKI,aLk,aKh,aLG,an,mg,aLq,aLu,aKY,aKk,aKH,aKE,aKV,Nat.reduceAdd,Nat.reduceSub]
   rfl)
  (hl:hc.length=is.length:=by rfl) (hd:is.Nodup:=by decide) (bc:is.all (λid=>Nat.blt id h.length)=true:=by rfl) (mB:jT=args.map (tV (dD is h.length)):=by rfl):pF P f jT h K:=QY hA is gT k hr hh hl hd bc mB
end
theorem aj {c0 cv:List PV} {off:Nat} {f:Nat->List PV}:∀j,j<1->oz (da f 0 (gH c0 off cv) j) ((λ_=>gH c0 off cv) j):=ae1 rfl
theorem cm {n:Nat} {l:List (List PV)}:∀i,i<n->oz (l.getD i []) (jr l i):=λi _=>oz.refl _
section
variable {h:List al} {id sub g sz n g2 lN n2:Nat} {e e2:TypeId} {f2:Nat->List PV} {i j:Nat} {F:Nat->Prop}
theorem pf {f:Nat->List PV} {cq c1:List PV} (hi:i<n) (hp:∀k,k<n2->∀x,x∈f2 k->cA x=true\/eh x=true) (ho:h[id]? =some (.row g sz n e (da f i cq)):=by rfl) (hj:cq[j]? =some (.own sub g2 0 n2):=by rfl)
  (WU:h[sub]? =some (.row g2 lN n2 e2 f2):=by rfl) (hs:cq.set j (.dI lN n2 e2 f2 F)=c1:=by rfl) (oY:id≠sub:=by decide) {h2:List al} (h3:h2=(h.set id (.row g sz n e (da f i c1))).set sub .dead:=by rfl):Bm h id i j sub F h2:=
 aaz cq c1 (da f i c1) hi jh jh Rk hp hj hs.symm ho WU oY h3
theorem Rl {cs:List (List PV)} {i:Nat} {c:List PV} (h:cs[i]? =some c):jr cs i=c:=by unfold jr;rw [aKb,h];rfl
theorem LV {cs:List (List PV)} {i:Nat} {c c1:List PV} (h:cs[i]? =some c):jr (cs.set i c1) i=c1:=by
 unfold jr
 rw [aKb,aKP (An.1 h).1];rfl
theorem gN {cs:List (List PV)} {cq c1:List PV} {ds:List (List PV)} (hp:∀k,k<n2->∀x,x∈f2 k->cA x=true\/eh x=true) (ho:h[id]? =some (.row g sz n e (jr cs)):=by rfl) (hc:cs[i]? =some cq:=by rfl) (hj:cq[j]? =some (.own sub g2 0 n2):=by rfl)
  (WU:h[sub]? =some (.row g2 lN n2 e2 f2):=by rfl) (hs:cq.set j (.dI lN n2 e2 f2 F)=c1:=by rfl) (hd:cs.set i c1=ds:=by rfl) (hi:Nat.blt i n=true:=by rfl) (oY:id≠sub:=by decide) {h2:List al} (h3:h2=(h.set id (.row g sz n e (jr ds))).set sub .dead:=by rfl):Bm h id i j sub F h2:=
 aaz cq c1 (jr ds) (by simpa using hi) (Rl hc) (by rw [<-hd];exact LV hc) (B0 c1 hd.symm) hp hj hs.symm ho WU oY h3
theorem abJ {cs:List (List PV)} {cq c1:List PV} {ds:List (List PV)} {N:Nat} {q:Nat->List PV} (hp:∀k,k<n2->∀x,x∈f2 k->cA x=true\/eh x=true) (ho:h[id]? =some (.row g sz n e (Od (jr cs) N q)):=by rfl) (hc:cs[i]? =some cq:=by rfl) (hj:cq[j]? =some (.own sub g2 0 n2):=by rfl)
  (WU:h[sub]? =some (.row g2 lN n2 e2 f2):=by rfl) (hs:cq.set j (.dI lN n2 e2 f2 F)=c1:=by rfl) (hd:cs.set i c1=ds:=by rfl) (hN:Nat.blt i N=true:=by rfl) (oY:id≠sub:=by decide) {h2:List al} (h3:h2=(h.set id (.row g sz n e (Od (jr ds) N q))).set sub .dead:=by rfl) (hi:i<n:=by omega):Bm h id i j sub F h2:=
 aaz cq c1 (Od (jr ds) N q) hi (by unfold Od;rw [hN];exact Rl hc) (by unfold Od;rw [hN,<-hd];exact LV hc) (amG (by simpa using hN) (B0 c1 hd.symm)) hp hj hs.symm ho WU oY h3
end
theorem Fz.oe {h η:List al} {k:List Nat} {id id' g g' sz cJ n0 n1 n2 n3:Nat} {e e':TypeId} {f f':Nat->List PV} (h1:n1=n2:=by first | rfl | exact DR.len aNs | exact (DR.len aNs).symm) (h2:n2=n3:=by first | rfl | exact DR.len aNs | exact (DR.len aNs).symm) (hk:k[id']? =some id:=by rfl) (ho:h[id]? =some (al.row g sz n0 e f):=by rfl) (hη:η[id']? =some (al.row g' cJ n3 e' f'):=by rfl):Fz h η k (.own id g 0 n1) (.own id' g' 0 n2):=Fz.od h1 h2 hk ho hη
section
variable {h η:List al} {k:List Nat} {m:Nat}
theorem xZ.n:xZ h η k [] []:=trivial
theorem xZ.c {a b:PV} {l r:List PV} (h1:Fz h η k a b) (h2:xZ h η k l r):xZ h η k (a::l) (b::r):=⟨h1,h2⟩
theorem zh.n {env:Env}:zh h η k env []:=trivial
theorem zh.c {env:Env} {t:Nat} {v:PV} {r:List (Nat×PV)} (h1:Fz h η k (env t) v) (h2:zh h η k env r):zh h η k env ((t,v)::r):=⟨h1,h2⟩
theorem lL.n {i:Nat}:lL h η k m i [] []:=trivial
theorem lL.c {i id:Nat} {o:al} {r:List al} {r':List Nat} (h1:x5 h η k m o i id) (h2:lL h η k m (i+1) r r'):lL h η k m i (o::r) (id::r'):=⟨h1,h2⟩
theorem nwz {α:Type} {D:List PV->α->Prop} {c:α->List PV} {l:List α} {n:Nat} {f:Nat->List PV} (d:DR D n f l) [hc:Rh D c] {i id g g' sz n0 n':Nat} {e:TypeId} (ho:h[id]? =some (al.row g sz n0 e f):=by rfl) (hn:n'=n0:=by first | rfl | exact DR.len aNs | exact (DR.len aNs).symm) (hle:n'=n:=by first | rfl | exact DR.len aNs | exact (DR.len aNs).symm) (hi:Nat.ble m i=true:=by rfl):x5 h η k m (.row g' sz n' e f) i id:=nwd (c:=c) d hn hle hi ho
theorem odz {α:Type} {D:List PV->α->Prop} {c:α->List PV} {l:List α} {n:Nat} {f:Nat->List PV} (d:DR D n f l) [hc:Rh D c] {id g sz n0 n':Nat} {e:TypeId} (ho:h[id]? =some (al.row g sz n0 e f):=by rfl) (hn:n'=n0:=by first | rfl | exact DR.len aNs | exact (DR.len aNs).symm) (hle:n'=n:=by first | rfl | exact DR.len aNs | exact (DR.len aNs).symm):x5 h η k m (.row g sz n' e f) id id:=odd (c:=c) d hn hle ho
end
theorem yY {p:Prop} (h:p:=by exact nwz aNs):p:=h
theorem oda {p:Prop} (h:p:=by exact odz aNs):p:=h
theorem rs {α:Type} {D:List PV->α->Prop} {n:Nat} {f:Nat->List PV} {l:List α} (d:DR D n f l) {X:(Nat->List PV)->PV} {H:(Nat->List PV)->List al}:∃F,DR D l.length F l/\X f=X F/\H f=H F:=⟨f,d.self,rfl,rfl⟩
end Go.Am
namespace Go.Am
open Go Go.RowKit Go.Proofs
mutual
inductive ae where
 | mk (ai:Int) (aE:Int) (aq:aD) (af:List ae)
end
def ae.ai:ae->Int | .mk x _ _ _=>x
def ae.aE:ae->Int | .mk _ x _ _=>x
def ae.aq:ae->aD | .mk _ _ x _=>x
def ae.af:ae->List ae | .mk _ _ _ x=>x
@[simp] theorem ae.qh (a0:Int) (a1:Int) (a2:aD) (a3:List ae):(ae.mk a0 a1 a2 a3).ai=a0:=rfl
@[simp] theorem ae.rh (a0:Int) (a1:Int) (a2:aD) (a3:List ae):(ae.mk a0 a1 a2 a3).aE=a1:=rfl
@[simp] theorem ae.mW (a0:Int) (a1:Int) (a2:aD) (a3:List ae):(ae.mk a0 a1 a2 a3).aq=a2:=rfl
@[simp] theorem ae.kM (a0:Int) (a1:Int) (a2:aD) (a3:List ae):(ae.mk a0 a1 a2 a3).af=a3:=rfl
instance:Inhabited ae:=⟨.mk 0 0 [] []⟩
mutual
def ae.cells:ae->List PV | .mk a0 a1 a2 a3=>[.int .i64 a0]++[.int .i64 a1]++[.str a2]++[.ij 4 a3.length (λi=>(ae.IB a3).getD i [])]
def ae.IB:List ae->List (List PV) | []=>[] | x::r=>x.cells::ae.IB r
end
theorem ae.DM:∀(l:List ae),ae.IB l=l.map ae.cells
 | []=>rfl
 | a::r=>by unfold ae.IB;rw [ae.DM r];rfl
abbrev ae.lit (x:ae):List PV:=[.int .i64 x.ai,.int .i64 x.aE,.str x.aq,sl 4 ae.cells x.af]
theorem ae.aO (x:ae):x.cells=x.lit:=by
 cases x with
 | mk a0 a1 a2 a3=>
  unfold ae.cells
  rw [ae.DM]
  rfl
theorem ae.iw (x:ae):x.cells.all cA=true:=by rw [ae.aO];rfl
instance:vM ae.cells:=⟨ae.iw⟩
structure abu where
 aIT:Unit
 aJU:List UInt8
 deriving DecidableEq,Inhabited
structure aCg where
 aCh:abu
 deriving DecidableEq,Inhabited
structure ah where
 ai:Int
 aE:Int
 aq:aD
 bx:Int
 deriving DecidableEq,Inhabited
abbrev ah.lit (x:ah):List PV:=[.int .i64 x.ai,.int .i64 x.aE,.str x.aq,.int .i64 x.bx]
def ah.cells (x:ah):List PV:=x.lit
theorem ah.aO (x:ah):x.cells=x.lit:=rfl
theorem ah.iw (x:ah):x.cells.all cA=true:=rfl
instance:vM ah.cells:=⟨ah.iw⟩
structure aC where
 fT:List ah
 fI:Int
 aw:Int
 av:Int
 deriving DecidableEq,Inhabited
abbrev aC.lit (x:aC):List PV:=[sl 4 ah.cells x.fT,.int .i64 x.fI,.int .i64 x.aw,.int .i64 x.av]
def aC.cells (x:aC):List PV:=x.lit
theorem aC.aO (x:aC):x.cells=x.lit:=rfl
theorem aC.iw (x:aC):x.cells.all cA=true:=rfl
instance:vM aC.cells:=⟨aC.iw⟩
structure ak where
 ao:List ah
 bx:Int
 aw:Int
 av:Bool
 deriving DecidableEq,Inhabited
abbrev ak.lit (x:ak):List PV:=[sl 4 ah.cells x.ao,.int .i64 x.bx,.int .i64 x.aw,.bool x.av]
def ak.cells (x:ak):List PV:=x.lit
theorem ak.aO (x:ak):x.cells=x.lit:=rfl
theorem ak.iw (x:ak):x.cells.all cA=true:=rfl
instance:vM ak.cells:=⟨ak.iw⟩
structure bL where
 fS:aD
 bx:Int
 bO:List ah
 dM:Int
 deriving DecidableEq,Inhabited
abbrev bL.lit (x:bL):List PV:=[.str x.fS,.int .i64 x.bx,sl 4 ah.cells x.bO,.int .i64 x.dM]
def bL.cells (x:bL):List PV:=x.lit
theorem bL.aO (x:bL):x.cells=x.lit:=rfl
theorem bL.iw (x:bL):x.cells.all cA=true:=rfl
instance:vM bL.cells:=⟨bL.iw⟩
structure rX where
 fB:List UInt8
 fI:Int
 fH:Int
 deriving DecidableEq,Inhabited
abbrev rX.lit (x:rX):List PV:=[sl 1 cB x.fB,.int .i64 x.fI,.int .i64 x.fH]
def rX.cells (x:rX):List PV:=x.lit
theorem rX.aO (x:rX):x.cells=x.lit:=rfl
theorem rX.iw (x:rX):x.cells.all cA=true:=rfl
instance:vM rX.cells:=⟨rX.iw⟩
instance:Fl1 ah.cells:=⟨λ_=>rfl⟩
inductive ae.D:List PV->ae->Prop
 | mk (x:ae) (n0:Nat) (F0:Nat->Prop) (JY:x.af.length=n0) (f0:Nat->List PV) (h0:∀i (hi:i<x.af.length),ae.D (f0 i) x.af[i]) (hz0:∀i,n0<=i->f0 i=[]):ae.D [.int .i64 x.ai,.int .i64 x.aE,.str x.aq,.dI 4 n0 29 f0 F0] x
theorem ae.bh {x:ae} {n0:Nat} {F0:Nat->Prop} {f0:Nat->List PV} (d0:DR ae.D n0 f0 x.af):ae.D [.int .i64 x.ai,.int .i64 x.aE,.str x.aq,.dI 4 n0 29 f0 F0] x:=.mk x _ _ d0.len _ d0.at_ d0.z
theorem ae.ahe {cs:List PV} {x:ae} (h:ae.D cs x):∃(F0:Nat->Prop),∃f0:Nat->List PV,cs=[.int .i64 x.ai,.int .i64 x.aE,.str x.aq,.dI 4 x.af.length 29 f0 F0]/\DR ae.D x.af.length f0 x.af:=by
 cases h with
 | mk _ n0 F0 JY f0 h0 hz0=>subst JY;exact ⟨F0,f0,rfl,⟨rfl,h0,hz0⟩⟩
theorem ae.aCi:∀cs x,ae.D cs x->GL cs x.cells:=λcs x h=>ae.D.rec (motive:=λcs x _=>GL cs x.cells) (λx n0 F0 JY f0 h0 hz0 ih0=>by rw [ae.aO];exact ⟨.p rfl,.p rfl,.p rfl,.o (abr ih0 JY 4 29 F0),trivial⟩) h
instance:Rh ae.D ae.cells:=⟨ae.aCi⟩
theorem ae.amL:∀cs x,ae.D cs x->vQ cs:=λcs x h=>ae.D.rec (motive:=λcs x _=>vQ cs) (λx n0 F0 JY f0 h0 hz0 ih0=>(amJ (amJ (amJ (aHR (λi hi=>ih0 i (Nat.lt_of_lt_of_eq hi JY.symm)) aHQ))))) h
instance:Dfl ae.D:=⟨ae.amL⟩
def amM:qq:=xk [(3,.int .i64),
 (4,.bool),
 (5,.int .u8),
 (9,.str),
 (22,.slice 24 4 56 [.int .i64 0,.int .i64 0,.str [],.ck]),
 (24,.struct 4 [(0,1,false),(1,1,false),(2,1,false),(3,1,false)] [.int .i64 0,.int .i64 0,.str [],.ck]),
 (27,.slice 29 4 56 [.int .i64 0,.int .i64 0,.str [],.ck]),
 (29,.struct 4 [(0,1,false),(1,1,false),(2,1,false),(3,1,false)] [.int .i64 0,.int .i64 0,.str [],.ck]),
 (39,.slice 5 1 1 [.int .u8 0]),
 (49,.struct 2 [(0,1,false),(1,1,false)] [.iF,.ck]),
 (51,.struct 2 [(0,2,true)] [.iF,.ck]),
 (58,.slice 101 4 40 [.int .i64 0,.int .i64 0,.str [],.int .i64 0]),
 (62,.struct 4 [(0,1,false),(1,1,false),(2,1,false),(3,1,false)] [.ck,.int .i64 0,.int .i64 0,.int .i64 0]),
 (67,.struct 4 [(0,1,false),(1,1,false),(2,1,false),(3,1,false)] [.ck,.int .i64 0,.int .i64 0,.bool false]),
 (78,.slice 9 1 16 [.str []]),
 (88,.ptr 5),
 (101,.struct 4 [(0,1,false),(1,1,false),(2,1,false),(3,1,false)] [.int .i64 0,.int .i64 0,.str [],.int .i64 0]),
 (107,.struct 4 [(0,1,false),(1,1,false),(2,1,false),(3,1,false)] [.str [],.int .i64 0,.ck,.int .i64 0]),
 (117,.struct 3 [(0,1,false),(1,1,false),(2,1,false)] [.ck,.int .i64 0,.int .i64 0]),
 (120,.slice 3 1 8 [.int .i64 0])]
theorem ae6:fe Tryz.prog amM:=aCj aNh
theorem mixed:Tryz.prog.follows .mixedOrders=true:=by kernel_rfl
theorem ep {f:FuncId} {fn:Func} {c:Code} {args:List PV} {h:List al} {R:PV->List al->Prop} (hf:Tryz.prog.funcs[f]? =some fn) (hv:vc Tryz.prog amM h.length c (aCk amM fn.results.toList h.length R) (vW args) h) (hb:fn.body=some c:=by rfl) (zk:(fn.name== "runtime.NumGoroutine")=false:=by kernel_rfl) (hn:Nat.ble args.length fn.ntmps=true:=by rfl) (yu:codeOk fn.ntmps c=true:=by kernel_rfl):ACall Tryz.prog f args h R:=ACall.aCl ae6 mixed hf hb zk _ _ _ hn yu hv
abbrev pI (x:Int):PV:=.int .i64 x
abbrev iD:=((Unit) ⊕ Bool)
abbrev mo:=(ae×aC)
abbrev kN:=(ae×ak)
abbrev SK:=((List ae)×aC)
abbrev NQ:=((List ae)×ak)
abbrev uG:=((Unit) ⊕ iD)
abbrev aeF:=((List ah)×Int×Int)
abbrev ae7:=(Int×Int×aD×(List ae))
abbrev aeE:=(aD×Int×Int×(List ah))
abbrev S4:=((List ah)×Int×Int×Int×Bool)
abbrev Sh:=((List ah)×Int×Int×Bool×Bool)
abbrev aeD:=((List ae)×(List ae)×(List ae))
abbrev aeR:=(((List ah)) ⊕ aeF)
abbrev Bw:=((List ah)×Int×Int×Int×(List ae))
abbrev Ct:=((List ah)×Int×Int×Bool×(List ae))
abbrev ty9:=((List ah)×Int×Int×Int×(List ae)×(List ae))
abbrev ty8:=((List ah)×Int×Int×Bool×(List ae)×(List ae))
abbrev ty7:=(Bw ⊕ SK)
abbrev ty6:=(Ct ⊕ NQ)
abbrev ty5:=((List ah)×Int×Int×Int×(List ae)×Int×Int×aD×(List ae))
abbrev Xx:=((List ah)×Int×Int×Bool×(List ae)×Int×Int×aD×(List ae))
abbrev ty3:=(ty9 ⊕ mo)
abbrev ty2:=(ty8 ⊕ kN)
abbrev ty1:=(ty5 ⊕ mo)
abbrev ty0:=(Xx ⊕ kN)
def E7 (n:FuncId) (a0:ak) (r:ae×ak) (g1000:Nat):Prop:=ACall Tryz.prog n [.aA 0 g1000 0 0] [.row g1000 4 1 67 (λ_=>a0.lit)] (λres h=>∃F1:Nat->List PV,DR ae.D r.1.af.length F1 r.1.af/\res=.agg [pI r.1.ai,pI r.1.aE,.str r.1.aq,.own 1 0 0 r.1.af.length]/\h=[.row g1000 4 1 67 (λ_=>r.2.lit),.row 0 4 r.1.af.length 29 F1])
def GB (n:FuncId) (a0:aC) (r:ae×aC) (g1000:Nat):Prop:=ACall Tryz.prog n [.aA 0 g1000 0 0] [.row g1000 4 1 62 (λ_=>a0.lit)] (λres h=>∃F1:Nat->List PV,DR ae.D r.1.af.length F1 r.1.af/\res=.agg [pI r.1.ai,pI r.1.aE,.str r.1.aq,.own 1 0 0 r.1.af.length]/\h=[.row g1000 4 1 62 (λ_=>r.2.lit),.row 0 4 r.1.af.length 29 F1])
def Hk (n:FuncId) (a0:ae) (r:Bool):Prop:=ACall Tryz.prog n [.agg a0.lit] [] (λres h=>res=.bool r/\h=[])
def sg3 (n:FuncId) (a0:aD) (r:Bool):Prop:=ACall Tryz.prog n [.str a0] [] (λres h=>res=.bool r/\h=[])
def sg4 (n:FuncId) (a0:ae) (r:Int):Prop:=ACall Tryz.prog n [.agg a0.lit] [] (λres h=>res=pI r/\h=[])
def sg5 (n:FuncId) (a0:List ae) (r:Bool):Prop:=ACall Tryz.prog n [sl 4 ae.cells a0] [] (λres h=>res=.bool r/\h=[])
def sg6 (n:FuncId) (a0:Int) (r:aD):Prop:=ACall Tryz.prog n [pI a0] [] (λres h=>res=.str r/\h=[])
def sg7 (n:FuncId) (a0:ae) (a1:Int) (r:Int):Prop:=ACall Tryz.prog n [.agg a0.lit,pI a1] [] (λres h=>res=pI r/\h=[])
def sg8 (n:FuncId) (a0:Int) (r:Bool):Prop:=ACall Tryz.prog n [.int .u8 a0] [] (λres h=>res=.bool r/\h=[])
def sg9 (n:FuncId) (a0:List ae) (a1:Bool) (r:Bool):Prop:=ACall Tryz.prog n [sl 4 ae.cells a0,.bool a1] [] (λres h=>res=.bool r/\h=[])
def aCm (n:FuncId) (a0:List ae) (a1:Int) (r:Int):Prop:=ACall Tryz.prog n [sl 4 ae.cells a0,pI a1] [] (λres h=>res=pI r/\h=[])
def ajh (n:FuncId) (a0:ak) (r:(List ae)×ak) (g1000:Nat):Prop:=ACall Tryz.prog n [.aA 0 g1000 0 0] [.row g1000 4 1 67 (λ_=>a0.lit)] (λres h=>∃F1:Nat->List PV,DR ae.D r.1.length F1 r.1/\res=.own 1 0 0 r.1.length/\h=[.row g1000 4 1 67 (λ_=>r.2.lit),.row 0 4 r.1.length 29 F1])
def asM (n:FuncId) (a0:ak) (a1:Int) (r:ae×ak) (g1000:Nat):Prop:=ACall Tryz.prog n [.aA 0 g1000 0 0,pI a1] [.row g1000 4 1 67 (λ_=>a0.lit)] (λres h=>∃F1:Nat->List PV,DR ae.D r.1.af.length F1 r.1.af/\res=.agg [pI r.1.ai,pI r.1.aE,.str r.1.aq,.own 1 0 0 r.1.af.length]/\h=[.row g1000 4 1 67 (λ_=>r.2.lit),.row 0 4 r.1.af.length 29 F1])
def amt (n:FuncId) (a0:aD) (r:Int):Prop:=ACall Tryz.prog n [.str a0] [] (λres h=>res=pI r/\h=[])
def amN (n:FuncId) (a0:Int) (a1:Int) (r:Int):Prop:=ACall Tryz.prog n [pI a0,pI a1] [] (λres h=>res=pI r/\h=[])
def axN (n:FuncId) (a0:aC) (a1:Int) (r:ae×aC) (g1000:Nat):Prop:=ACall Tryz.prog n [.aA 0 g1000 0 0,pI a1] [.row g1000 4 1 62 (λ_=>a0.lit)] (λres h=>∃F1:Nat->List PV,DR ae.D r.1.af.length F1 r.1.af/\res=.agg [pI r.1.ai,pI r.1.aE,.str r.1.aq,.own 1 0 0 r.1.af.length]/\h=[.row g1000 4 1 62 (λ_=>r.2.lit),.row 0 4 r.1.af.length 29 F1])
def aBI (n:FuncId) (a0:bL) (r:bL) (g1000:Nat) (g1001:Nat):Prop:=ACall Tryz.prog n [.aA 0 g1000 0 0] [.row g1000 4 1 107 (λ_=>[.str a0.fS,pI a0.bx,.own 1 g1001 0 a0.bO.length,pI a0.dM]),.row g1001 4 a0.bO.length 101 (row ah.cells a0.bO)] (λres h=>∃G1:Nat,res=.fM []/\h=[.row g1000 4 1 107 (λ_=>[.str r.fS,pI r.bx,.own 1 G1 0 r.bO.length,pI r.dM]),.row G1 4 r.bO.length 101 (row ah.cells r.bO)])
def aBJ (n:FuncId) (a0:bL) (a1:aD) (r:bL) (g1000:Nat) (g1001:Nat):Prop:=ACall Tryz.prog n [.aA 0 g1000 0 0,.str a1] [.row g1000 4 1 107 (λ_=>[.str a0.fS,pI a0.bx,.own 1 g1001 0 a0.bO.length,pI a0.dM]),.row g1001 4 a0.bO.length 101 (row ah.cells a0.bO)] (λres h=>∃G1:Nat,res=.fM []/\h=[.row g1000 4 1 107 (λ_=>[.str r.fS,pI r.bx,.own 1 G1 0 r.bO.length,pI r.dM]),.row G1 4 r.bO.length 101 (row ah.cells r.bO)])
def aFp (n:FuncId) (a0:aC) (a1:Bool) (r:ae×aC) (g1000:Nat):Prop:=ACall Tryz.prog n [.aA 0 g1000 0 0,.bool a1] [.row g1000 4 1 62 (λ_=>a0.lit)] (λres h=>∃F1:Nat->List PV,DR ae.D r.1.af.length F1 r.1.af/\res=.agg [pI r.1.ai,pI r.1.aE,.str r.1.aq,.own 1 0 0 r.1.af.length]/\h=[.row g1000 4 1 62 (λ_=>r.2.lit),.row 0 4 r.1.af.length 29 F1])
def awD (n:FuncId) (a0:aD) (r:ae×Int×Int):Prop:=ACall Tryz.prog n [.str a0] [] (λres h=>∃F0:Nat->List PV,DR ae.D r.1.af.length F0 r.1.af/\res=.fM [.agg [pI r.1.ai,pI r.1.aE,.str r.1.aq,.own 0 0 0 r.1.af.length],pI r.2.1,pI r.2.2]/\h=[.row 0 4 r.1.af.length 29 F0])
def aDJ (n:FuncId) (a0:ak) (a1:Bool) (r:ae×ak) (g1000:Nat):Prop:=ACall Tryz.prog n [.aA 0 g1000 0 0,.bool a1] [.row g1000 4 1 67 (λ_=>a0.lit)] (λres h=>∃F1:Nat->List PV,DR ae.D r.1.af.length F1 r.1.af/\res=.agg [pI r.1.ai,pI r.1.aE,.str r.1.aq,.own 1 0 0 r.1.af.length]/\h=[.row g1000 4 1 67 (λ_=>r.2.lit),.row 0 4 r.1.af.length 29 F1])
theorem nQ {p:Prop} (h:p:=by exact ⟨(On rfl),(nb rfl ⟨.i,.i,.s,.oe,⟨⟩⟩),yY,(nb rfl ⟨.i,.i,.s,.oe,⟨⟩⟩),yY,⟨⟩⟩):p:=h
theorem eo {p:Prop} (h:p:=by exact (.kR ⟨.i,.i,.s,.oe,⟨⟩⟩)):p:=h
theorem kh {p:Prop} (h:p:=by exact ⟨(ob rfl ⟨.l,.i,.i,.b,⟨⟩⟩),yY,⟨⟩⟩):p:=h
theorem lO {p:Prop} (h:p:=by exact ⟨(ob rfl ⟨.l,.i,.i,.i,⟨⟩⟩),yY,⟨⟩⟩):p:=h
theorem ED {p:Prop} (h:p:=by exact ⟨(On rfl),(nb rfl ⟨.i,.i,.s,.g,⟨⟩⟩),gh,(nb rfl ⟨.i,.i,.s,.oe,⟨⟩⟩),yY,⟨⟩⟩):p:=h
theorem tz5 {p:Prop} (h:p:=by exact ⟨(On rfl),(nb rfl ⟨.i,.i,.s,(.od aNr),⟨⟩⟩),(nwd (DR.nil (D:=ae.D))),(nb rfl ⟨.i,.i,.s,.oe,⟨⟩⟩),yY,⟨⟩⟩):p:=h
theorem qQ {p:Prop} (h:p:=by exact ⟨(ob rfl ⟨.s,.i,.o,.i,⟨⟩⟩),od,⟨⟩⟩):p:=h
theorem gx {p:Prop} (h:p:=by exact ⟨(nbp rfl),⟨⟩⟩):p:=h
theorem T5 {p:Prop} (h:p:=by exact ⟨(On rfl),(nb rfl ⟨.i,.i,.s,.g,⟨⟩⟩),gh,(nb rfl ⟨.i,.i,.s,.g,⟨⟩⟩),gh,⟨⟩⟩):p:=h
theorem xb {p:Prop} (h:p:=by exact (.kR ⟨.i,.i,.s,.g,⟨⟩⟩)):p:=h
theorem gP {p:Prop} (h:p:=by exact ⟨.p,.p,.p,⟨⟩⟩):p:=h
theorem rR {p:Prop} (h:p:=by exact ⟨(ob rfl ⟨.l,.i,.i,.b,⟨⟩⟩),⟨⟩⟩):p:=h
theorem adU {p:Prop} (h:p:=by exact ⟨(On rfl),(nb rfl ⟨.i,.i,.s,(.od aNr),⟨⟩⟩),(nwd (DR.nil (D:=ae.D))),⟨⟩⟩):p:=h
theorem aBB {p:Prop} (h:p:=by exact ⟨(On rfl),(nb rfl ⟨.i,.i,.s,(.od aNr),⟨⟩⟩),(nwd (DR.nil (D:=ae.D))),(nb rfl ⟨.i,.i,.s,(.od aNr),⟨⟩⟩),(nwd (DR.nil (D:=ae.D))),⟨⟩⟩):p:=h
theorem wX {p:Prop} (h:p:=by exact ⟨(ob rfl ⟨.l,.i,.i,.i,⟨⟩⟩),gh,⟨⟩⟩):p:=h
theorem wU {p:Prop} (h:p:=by exact ⟨(ob rfl ⟨.l,.i,.i,.b,⟨⟩⟩),gh,⟨⟩⟩):p:=h
theorem oJ {p:Prop} (h:p:=by exact ⟨.p,.i,.i,.b,⟨⟩⟩):p:=h
theorem adV {p:Prop} (h:p:=by exact ⟨(On rfl),(nb rfl ⟨.i,.i,.s,.oe,⟨⟩⟩),yY,(nb rfl ⟨.i,.i,.s,.oe,⟨⟩⟩),yY,(nb rfl ⟨.i,.i,.s,.oe,⟨⟩⟩),yY,⟨⟩⟩):p:=h
theorem FG {p:Prop} (h:p:=by exact (.nR ⟨.kR ⟨.i,.i,.s,.i,⟨⟩⟩,.i,.i,⟨⟩⟩)):p:=h
theorem E8 {p:Prop} (h:p:=by exact ⟨(On rfl),(nb rfl ⟨.i,.i,.s,.g,⟨⟩⟩),gh,⟨⟩⟩):p:=h
theorem BJ {p:Prop} (h:p:=by exact ⟨(ob rfl ⟨.l,.i,.i,.i,⟨⟩⟩),⟨⟩⟩):p:=h
theorem Tb {p:Prop} (h:p:=by exact ⟨.p,.i,.p,.p,.i,.p,.p,.p,.l,.p,.p,.p,.i,.i,.b,.b,⟨⟩⟩):p:=h
theorem lC {p:Prop} (h:p:=by exact ⟨nw,⟨⟩⟩):p:=h
theorem adW {p:Prop} (h:p:=by exact ⟨(nb rfl ⟨.i,.i,.s,.oe,⟨⟩⟩),yY,(nbp rfl),(nb rfl ⟨.i,.i,.s,.oe,⟨⟩⟩),yY,⟨⟩⟩):p:=h
theorem Lq {p:Prop} (h:p:=by exact ⟨(ob rfl ⟨.s,.i,.o,.i,⟨⟩⟩),od,nw,⟨⟩⟩):p:=h
theorem zl {p:Prop} (h:p:=by exact ⟨.p,.b,.b,.i,.b,⟨⟩⟩):p:=h
theorem aCn {p:Prop} (h:p:=by exact ⟨(nb rfl ⟨.i,.i,.s,.oe,⟨⟩⟩),yY,(nb rfl ⟨.i,.i,.s,.oe,⟨⟩⟩),yY,⟨⟩⟩):p:=h
theorem Y6 {p:Prop} (h:p:=by exact ⟨(On rfl),(nb rfl ⟨.i,.i,.s,.g,⟨⟩⟩),gh,(nbp rfl),⟨⟩⟩):p:=h
theorem SI {p:Prop} (h:p:=by exact (.nR ⟨.kR ⟨.i,.i,.s,.g,⟨⟩⟩,.i,.i,⟨⟩⟩)):p:=h
theorem FE {p:Prop} (h:p:=by exact ⟨.s,.o,.i,⟨⟩⟩):p:=h
theorem Hy {p:Prop} (h:p:=by exact ⟨.p,.i,.i,.b,.b,.i,.b,⟨⟩⟩):p:=h
theorem Cl {p:Prop} (h:p:=by exact ⟨(nbp rfl),(nbp rfl),⟨⟩⟩):p:=h
theorem yV {p:Prop} (h:p:=by exact ⟨.p,.b,.p,.p,⟨⟩⟩):p:=h
theorem pq {p:Prop} (h:p:=by exact (.nR ⟨⟩)):p:=h
theorem SM {p:Prop} (h:p:=by exact ⟨(ob rfl ⟨.l,.i,.i,.i,⟨⟩⟩),dd,yY,⟨⟩⟩):p:=h
theorem Ak {p:Prop} (h:p:=by exact ⟨.s,.o,.b,.i,⟨⟩⟩):p:=h
theorem zZ {p:Prop} (h:p:=by exact ⟨(On rfl),yY,⟨⟩⟩):p:=h
theorem uO {p:Prop} (h:p:=by exact ⟨.p,.p,⟨⟩⟩):p:=h
theorem Fa {p:Prop} (h:p:=by exact ⟨.p,.p,.p,.b,⟨⟩⟩):p:=h
theorem aaZ {p:Prop} (h:p:=by exact ⟨(nb rfl ⟨.s,.i,.o,.i,⟨⟩⟩),nw,⟨⟩⟩):p:=h
theorem wN {p:Prop} (h:p:=by exact ⟨.b,.b,⟨⟩⟩):p:=h
theorem R8 {p:Prop} (h:p:=by exact ⟨.p,.i,.i,.p,.b,.b,.b,⟨⟩⟩):p:=h
theorem KZ {p:Prop} (h:p:=by exact ⟨(On rfl),dd,yY,⟨⟩⟩):p:=h
theorem Hq {p:Prop} (h:p:=by exact ⟨.l,.i,.i,⟨⟩⟩):p:=h
theorem R5 {p:Prop} (h:p:=by exact ⟨.p,.i,.b,.b,.i,.b,⟨⟩⟩):p:=h
theorem EO {p:Prop} (h:p:=by exact ⟨.p,.i,.i,⟨⟩⟩):p:=h
theorem BG {p:Prop} (h:p:=by exact ⟨.s,.i,⟨⟩⟩):p:=h
theorem R6 {p:Prop} (h:p:=by exact ⟨.p,.i,.l,.i,.i,⟨⟩⟩):p:=h
theorem vF {p:Prop} (h:p:=by exact ⟨.p,⟨⟩⟩):p:=h
theorem ac8 {p:Prop} (h:p:=by exact ⟨.p,.i,.i,.b,.b,.b,.b,⟨⟩⟩):p:=h
theorem Lp {p:Prop} (h:p:=by exact ⟨.p,.s,.i,⟨⟩⟩):p:=h
theorem Sz {p:Prop} (h:p:=by exact ⟨.p,.p,.b,⟨⟩⟩):p:=h
theorem Tg {p:Prop} (h:p:=by exact (.nR ⟨.i,.b,⟨⟩⟩)):p:=h
theorem Vm {p:Prop} (h:p:=by exact ⟨.p,.i,.b,.i,.b,⟨⟩⟩):p:=h
theorem Th {p:Prop} (h:p:=by exact ⟨.p,.s,.o,.i,⟨⟩⟩):p:=h
theorem Ti {p:Prop} (h:p:=by exact ⟨.p,.s,.i,.b,⟨⟩⟩):p:=h
theorem SC {p:Prop} (h:p:=by exact ⟨.p,.i,.p,.p,⟨⟩⟩):p:=h
theorem H2 {p:Prop} (h:p:=by exact ⟨.p,.oe,⟨⟩⟩):p:=h
theorem Al {p:Prop} (h:p:=by exact ⟨.i,⟨⟩⟩):p:=h
theorem IC {p:Prop} (h:p:=by exact ⟨.i,.b,⟨⟩⟩):p:=h
theorem SJ {p:Prop} (h:p:=by exact ⟨gh,⟨⟩⟩):p:=h
theorem SN {p:Prop} (h:p:=by exact ⟨.p,.i,.oe,⟨⟩⟩):p:=h
theorem acV {p:Prop} (h:p:=by exact ⟨.b,.b,.l,.i,.i,⟨⟩⟩):p:=h
theorem ac6 {p:Prop} (h:p:=by exact ⟨.l,.b,.b,.i,.i,⟨⟩⟩):p:=h
theorem JQ {p:Prop} (h:p:=by exact ⟨.p,.i,⟨⟩⟩):p:=h
theorem aeQ {p:Prop} (h:p:=by exact ⟨.s,.i,.p,.p,.i,⟨⟩⟩):p:=h
theorem aeS {p:Prop} (h:p:=by exact ⟨.s,.o,.b,.i,.b,⟨⟩⟩):p:=h
theorem adM {p:Prop} (h:p:=by exact ⟨.p,.b,.p,.p,.b,⟨⟩⟩):p:=h
theorem adY {p:Prop} (h:p:=by exact ⟨.p,.i,.oe,.p,⟨⟩⟩):p:=h
theorem abb {p:Prop} (h:p:=by exact ⟨.s,.i,.i,⟨⟩⟩):p:=h
def yn (a0:Int) (a1:Int) (a2:Int):Option (Bool):=
 (if a0>=a1 then
 some (decide (a0<=a2))
 else
 some false)
theorem rJ {a0:Int} {a1:Int} {a2:Int} {r:Bool} (h:yn a0 a1 a2=some r):ACall Tryz.prog 146 [pI a0,pI a1,pI a2] [] (λres h=>res=.bool r/\h=[]):=by
 refine ep Tryz.func146 ?_
 unfold yn at h
 refine .d (.d (sD h (λmJ h=>?_) (λmJ h=>?_)))
 exact .t (.t (.t (eB h)))
 exact aMS
def Mz (a0:Int) (a1:Int) (a2:Int):Option (Bool):=
 (if a1<=a0 then
 some (decide (a0<=a2))
 else
 some false)
theorem EJ {a0:Int} {a1:Int} {a2:Int} {r:Bool} (h:Mz a0 a1 a2=some r):ACall Tryz.prog 135 [pI a0,pI a1,pI a2] [] (λres h=>res=.bool r/\h=[]):=by
 refine ep Tryz.func135 ?_
 unfold Mz at h
 refine .d (.d (sD h (λmJ h=>?_) (λmJ h=>?_)))
 exact .t (.t (.t (eB h)))
 exact aMS
def mT (a0:Int):Option (Bool):=
 (if a0>=65 then
 (if a0<=90 then
 some true
 else
 (if a0>=97 then
 some (decide (a0<=122))
 else
 some false))
 else
 (if a0>=97 then
 some (decide (a0<=122))
 else
 some false))
theorem FI {a0:Int} {r:Bool} (h:mT a0=some r):sg8 206 a0 r:=by
 refine ep Tryz.func206 ?_
 unfold mT at h
 refine .d (.d (sD h (λmJ h=>?_) (λmJ h=>?_)))
 refine .t (.t (sD h (λAS h=>?_) (λAS h=>?_)))
 exact .t (.t (.t (.t (eB h))))
 refine .f (.f (sD h (λzA h=>?_) (λzA h=>?_)))
 exact .t (.f (.t (.f (eB h))))
 exact .f (.f (.f (.f (eB h))))
 refine .f (.f (.f (.f (.f (sD h (λuX h=>?_) (λuX h=>?_))))))
 exact .t (.f (.t (.f (eB h))))
 exact .f (.f (.f (.f (eB h))))
def kG (a0:Int):Option (Bool):=
 (if a0>=48 then
 some (decide (a0<=57))
 else
 some false)
theorem tP {a0:Int} {r:Bool} (h:kG a0=some r):sg8 172 a0 r:=by
 refine ep Tryz.func172 ?_
 unfold kG at h
 refine .d (.d (sD h (λmJ h=>?_) (λmJ h=>?_)))
 exact .t (.t (eB h))
 exact .f (.f (eB h))
def kn (a0:Int):Option (Bool):=
 yn (bm (a0)) 97 122>>=λv1=>
 (if v1=true then
 some true
 else
 yn (bm (a0)) 65 90>>=λv4=>
 (if v4=true then
 some true
 else
 some (a0==95)))
theorem vL {a0:Int} {r:Bool} (h:kn a0=some r):sg8 161 a0 r:=by
 refine ep Tryz.func161 ?_
 unfold kn at h
 refine .d (.d (bk h λv1 tu h=>(b8 (rJ tu) (sV h (λzA h=>?_) (λzA h=>?_)))))
 exact .t (.t (.t (.t (.t (.t (eB h))))))
 refine .f (.f (bk h λv4 Ni h=>(b8 (rJ Ni) (.f (sV h (λBR h=>?_) (λBR h=>?_))))))
 exact .t (.t (eB h))
 exact .f (.f (eB h))
def jY (a0:Int):Option (Bool):=
 yn (bm (a0)) 48 57>>=λv1=>
 some v1
theorem rU {a0:Int} {r:Bool} (h:jY a0=some r):sg8 162 a0 r:=by
 refine ep Tryz.func162 ?_
 unfold jY at h
 exact .d (.d (bk h λv1 tu h=>(b8 (rJ tu) (eB h))))
def cK (a0:aD) (y5:Int):Option (Int):=
 (if y5<(a0.length:Int) then
 gz a0 y5>>=λc9=>
 mT (c9.toNat:Int)>>=λv11=>
 (if v11=true then
 cK a0 (bm (y5+1))
 else
 gz a0 y5>>=λc14=>
 (if (c14.toNat:Int)=95 then
 cK a0 (bm (y5+1))
 else
 (if y5>0 then
 gz a0 y5>>=λc18=>
 kG (c18.toNat:Int)>>=λv20=>
 (if v20=true then
 cK a0 (bm (y5+1))
 else
 some y5)
 else
 some y5)))
 else
 some y5)
partial_fixpoint
def dT (a0:aD):Option (Int):=
 (
 cK a0 0
 :Option (Int))>>=λy1=>
 some y1
theorem mf {a0:aD} {r:Int} (h:dT a0=some r):amt 171 a0 r:=by
 refine ep Tryz.func171 ?_
 unfold dT at h
 refine .d (.d ?_)
 obtain ⟨o2,h,ID⟩:=bd h
 refine .cut (λσ η=>∃y1,y1=o2/\σ=[(3,pI y1)]/\η=[]) ?_ ?_
 refine le (cK.partial_correctness a0 (motive:=λy5 o23=>o2=o23->aK _ _ [(0,.str a0),(3,pI y5)] []) ?_ 0 o2 h rfl) (tk [] BG ⟨⟩)
 intro F7 FX y5 o23 h aHT
 subst aHT
 refine aK.round (.d (.d (sD h (λFT h=>?_) (λFT h=>?_))))
 refine .t (.t (bk h λc9 u7 h=>⟨cn u7,c9,cp u7,(.t (bk h λv11 Iq h=>(b8 (FI Iq) (.t (sV h (λsj h=>?_) (λsj h=>?_))))))⟩))
 exact .t (.t (.t (.t (.t (.t (.t (.t (.t (.t (.t (.t (.t (.t (lg (FX _ _ h rfl) (tk [] BG ⟨⟩)))))))))))))))
 refine .f (.f (bk h λc14 yE h=>⟨cn yE,c14,cp yE,(.f (.t (.f (.t (sE h (λnK h=>?_) (λnK h=>?_))))))⟩))
 exact .t (.t (.t (.t (.t (.t (.t (lg (FX _ _ h rfl) (tk [] BG ⟨⟩))))))))
 refine .f (.f (sD h (λyz h=>?_) (λyz h=>?_)))
 refine .t (.t (bk h λc18 abc h=>⟨cn abc,c18,cp abc,(.t (bk h λv20 amh h=>(b8 (tP amh) (.f (.t (.t (.f (.t (sV h (λyH h=>?_) (λyH h=>?_))))))))))⟩))
 exact lg (FX _ _ h rfl) (tk [] BG ⟨⟩)
 exact aMM
 exact .f (.f (.f (.f (.f (.t (.f (.t (.f (ct ⟨_,si h,rfl,rfl⟩ (tk [] Al ⟨⟩))))))))))
 exact .f (.f (.f (.f (.f (.f (.f (.f (.f (ct ⟨_,si h,rfl,rfl⟩ (tk [] Al ⟨⟩))))))))))
 exact aMe
def oh (a0:aD):Option (Bool):=
 (if (a0.length:Int)<=20 then
 dT a0>>=λv2=>
 (if v2=(a0.length:Int) then
 some (!(a0==([]:aD)))
 else
 some false)
 else
 some false)
theorem LW {a0:aD} {r:Bool} (h:oh a0=some r):sg3 196 a0 r:=by
 refine ep Tryz.func196 ?_
 unfold oh at h
 refine .d (.d (sD h (λmJ h=>?_) (λmJ h=>?_)))
 refine .t (bk h λv2 tD h=>(b8 (mf tD) (.t (.t (.t (.t (sE h (λuX h=>?_) (λuX h=>?_))))))))
 exact .t (.t (eB h))
 exact .f (.f (eB h))
 exact aMW
def kI (a0:aD):Option (Bool):=
 (if a0=([101,99,104,111]:aD) then
 some true
 else
 (if a0=([105,102]:aD) then
 some true
 else
 (if a0=([101,108,115,101]:aD) then
 some true
 else
 (if a0=([119,104,105,108,101]:aD) then
 some true
 else
 (if a0=([102,111,114,101,97,99,104]:aD) then
 some true
 else
 (if a0=([97,115]:aD) then
 some true
 else
 (if a0=([98,114,101,97,107]:aD) then
 some true
 else
 (if a0=([99,111,110,116,105,110,117,101]:aD) then
 some true
 else
 (if a0=([114,101,116,117,114,110]:aD) then
 some true
 else
 (if a0=([103,108,111,98,97,108]:aD) then
 some true
 else
 (if a0=([117,110,115,101,116]:aD) then
 some true
 else
 (if a0=([116,104,114,111,119]:aD) then
 some true
 else
 (if a0=([116,114,121]:aD) then
 some true
 else
 (if a0=([99,97,116,99,104]:aD) then
 some true
 else
 (if a0=([102,105,110,97,108,108,121]:aD) then
 some true
 else
 (if a0=([121,105,101,108,100]:aD) then
 some true
 else
 (if a0=([105,110,99,108,117,100,101]:aD) then
 some true
 else
 (if a0=([102,117,110,99,116,105,111,110]:aD) then
 some true
 else
 (if a0=([99,108,97,115,115]:aD) then
 some true
 else
 (if a0=([116,114,97,105,116]:aD) then
 some true
 else
 (if a0=([101,120,116,101,110,100,115]:aD) then
 some true
 else
 (if a0=([117,115,101]:aD) then
 some true
 else
 (if a0=([112,114,105,118,97,116,101]:aD) then
 some true
 else
 (if a0=([115,116,97,116,105,99]:aD) then
 some true
 else
 (if a0=([110,101,119]:aD) then
 some true
 else
 (if a0=([116,114,117,101]:aD) then
 some true
 else
 (if a0=([102,97,108,115,101]:aD) then
 some true
 else
 (if a0=([110,117,108,108]:aD) then
 some true
 else
 some false))))))))))))))))))))))))))))
theorem BK {a0:aD} {r:Bool} (h:kI a0=some r):sg3 197 a0 r:=by
 refine ep Tryz.func197 ?_
 unfold kI at h
 refine .d (.d (.d (.d (.d (sE h (λmJ h=>?_) (λmJ h=>?_))))))
 exact .kt mJ (.d (eB h))
 refine .d (sE h (λAS h=>?_) (λAS h=>?_))
 exact .kt AS (.d (eB h))
 refine .d (sE h (λzA h=>?_) (λzA h=>?_))
 exact .kt zA (.d (eB h))
 refine .d (sE h (λuX h=>?_) (λuX h=>?_))
 exact .kt uX (.d (eB h))
 refine .d (sE h (λAK h=>?_) (λAK h=>?_))
 exact .kt AK (.d (eB h))
 refine .d (sE h (λBR h=>?_) (λBR h=>?_))
 exact .kt BR (.d (eB h))
 refine .d (sE h (λEC h=>?_) (λEC h=>?_))
 exact .kt EC (.d (eB h))
 refine .d (sE h (λFT h=>?_) (λFT h=>?_))
 exact .kt FT (.d (eB h))
 refine .d (sE h (λP8 h=>?_) (λP8 h=>?_))
 exact .kt P8 (.d (eB h))
 refine .d (sE h (λlS h=>?_) (λlS h=>?_))
 exact .kt lS (.d (eB h))
 refine .d (sE h (λqR h=>?_) (λqR h=>?_))
 exact .kt qR (.d (eB h))
 refine .d (sE h (λoI h=>?_) (λoI h=>?_))
 exact .kt oI (.d (eB h))
 refine .d (sE h (λsj h=>?_) (λsj h=>?_))
 exact .kt sj (.d (eB h))
 refine .d (sE h (λsq h=>?_) (λsq h=>?_))
 exact .kt sq (.d (eB h))
 refine .d (sE h (λsg h=>?_) (λsg h=>?_))
 exact .kt sg (.d (eB h))
 refine .d (sE h (λnK h=>?_) (λnK h=>?_))
 exact .kt nK (.d (eB h))
 refine .d (sE h (λyz h=>?_) (λyz h=>?_))
 exact .kt yz (.d (eB h))
 refine .d (sE h (λyF h=>?_) (λyF h=>?_))
 exact .kt yF (.d (eB h))
 refine .d (sE h (λzO h=>?_) (λzO h=>?_))
 exact .kt zO (.d (eB h))
 refine .d (sE h (λyB h=>?_) (λyB h=>?_))
 exact .kt yB (.d (eB h))
 refine .d (sE h (λEM h=>?_) (λEM h=>?_))
 exact .kt EM (.d (eB h))
 refine .d (sE h (λyH h=>?_) (λyH h=>?_))
 exact .kt yH (.d (eB h))
 refine .d (sE h (λsr h=>?_) (λsr h=>?_))
 exact .kt sr (.d (eB h))
 refine .d (sE h (λJD h=>?_) (λJD h=>?_))
 exact .kt JD (.d (eB h))
 refine .d (sE h (λTC h=>?_) (λTC h=>?_))
 exact .kt TC (.d (eB h))
 refine .d (sE h (λwP h=>?_) (λwP h=>?_))
 exact .kt wP (.d (eB h))
 refine .d (sE h (λHz h=>?_) (λHz h=>?_))
 exact .kt Hz (.d (eB h))
 refine sE h (λHA h=>?_) (λHA h=>?_)
 exact aMI
 exact aMI
def bC (a0:aD):Option (Bool):=
 oh a0>>=λv1=>
 (if v1=true then
 kI a0>>=λv4=>
 some (!v4)
 else
 some false)
theorem cH {a0:aD} {r:Bool} (h:bC a0=some r):sg3 133 a0 r:=by
 refine ep Tryz.func133 ?_
 unfold bC at h
 refine .d (.d (bk h λv1 tu h=>(b8 (LW tu) (sV h (λzA h=>?_) (λzA h=>?_)))))
 exact .t (bk h λv4 Ni h=>(b8 (BK Ni) (.t (.t (eB h)))))
 exact aMS
def eF (a0:aD) (a1:Int) (y5:Int):Option (Int):=
 (if y5<(a0.length:Int) then
 gz a0 y5>>=λc9=>
 kn (c9.toNat:Int)>>=λv11=>
 (if v11=true then
 eF a0 a1 (bm (y5+1))
 else
 (if y5>a1 then
 gz a0 y5>>=λc15=>
 jY (c15.toNat:Int)>>=λAV=>
 (if AV=true then
 eF a0 a1 (bm (y5+1))
 else
 some y5)
 else
 some y5))
 else
 some y5)
partial_fixpoint
def iX (a0:aD) (a1:Int):Option (Int):=
 (
 eF a0 a1 a1
 :Option (Int))>>=λy1=>
 some y1
theorem tT {a0:aD} {a1:Int} {r:Int} (h:iX a0 a1=some r):ACall Tryz.prog 160 [.str a0,pI a1] [] (λres h=>res=pI r/\h=[]):=by
 refine ep Tryz.func160 ?_
 unfold iX at h
 refine .d (.d ?_)
 obtain ⟨o2,h,ID⟩:=bd h
 refine .cut (λσ η=>∃y1,y1=o2/\σ=[(5,pI y1)]/\η=[]) ?_ ?_
 refine le (eF.partial_correctness a0 a1 (motive:=λy5 o20=>o2=o20->aK _ _ [(0,.str a0),(1,pI a1),(5,pI y5)] []) ?_ a1 o2 h rfl) (tk [] abb ⟨⟩)
 intro F7 FX y5 o20 h amA
 subst amA
 refine aK.round (.d (.d (sD h (λFT h=>?_) (λFT h=>?_))))
 refine .t (.t (bk h λc9 u7 h=>⟨cn u7,c9,cp u7,(.t (bk h λv11 Iq h=>(b8 (vL Iq) (.t (sV h (λsj h=>?_) (λsj h=>?_))))))⟩))
 exact .t (.t (.t (.t (.t (.t (.t (.t (lg (FX _ _ h rfl) (tk [] abb ⟨⟩)))))))))
 refine .f (.f (.f (sD h (λsq h=>?_) (λsq h=>?_))))
 refine .t (.t (bk h λc15 abv h=>⟨cn abv,c15,cp abv,(.t (bk h λAV WG h=>(b8 (rU WG) (.f (.t (.t (.f (.t (sV h (λzO h=>?_) (λzO h=>?_))))))))))⟩))
 exact lg (FX _ _ h rfl) (tk [] abb ⟨⟩)
 exact aMM
 exact .f (.f (.f (.f (.f (.t (.f (.t (.f (ct ⟨_,si h,rfl,rfl⟩ (tk [] Al ⟨⟩))))))))))
 exact .f (.f (.f (.f (.f (.f (.f (ct ⟨_,si h,rfl,rfl⟩ (tk [] Al ⟨⟩))))))))
 exact aMe
def qf (a0:aD):Option (Bool):=
 (if (a0.length:Int)>=1 then
 (if (a0.length:Int)<=20 then
 iX a0 0>>=λv3=>
 some (v3==(a0.length:Int))
 else
 some false)
 else
 some false)
theorem LX {a0:aD} {r:Bool} (h:qf a0=some r):sg3 199 a0 r:=by
 refine ep Tryz.func199 ?_
 unfold qf at h
 refine .d (.d (sD h (λmJ h=>?_) (λmJ h=>?_)))
 refine .t (.t (.t (sD h (λAS h=>?_) (λAS h=>?_))))
 exact .t (bk h λv3 RP h=>(b8 (tT RP) (.t (.t (.t (.t (eB h)))))))
 exact .f (.f (.f (.f (.f (eB h)))))
 exact .f (.f (.f (.f (.f (.f (.f (.f (.f (eB h)))))))))
def iY (a0:aD) (y4:Int):Option iD:=
 (if y4<(([[101,99,104,111],[105,102],[101,108,115,101],[119,104,105,108,101],[102,111,114,101,97,99,104],[97,115],[98,114,101,97,107],[99,111,110,116,105,110,117,101],[114,101,116,117,114,110],[103,108,111,98,97,108],[117,110,115,101,116],[116,104,114,111,119],[116,114,121],[99,97,116,99,104],[102,105,110,97,108,108,121],[121,105,101,108,100],[105,110,99,108,117,100,101],[102,117,110,99,116,105,111,110],[99,108,97,115,115],[116,114,97,105,116],[101,120,116,101,110,100,115],[117,115,101],[112,114,105,118,97,116,101],[115,116,97,116,105,99],[110,101,119],[116,114,117,101],[102,97,108,115,101],[110,117,108,108]]:List aD).length:Int) then
 idx ([[101,99,104,111],[105,102],[101,108,115,101],[119,104,105,108,101],[102,111,114,101,97,99,104],[97,115],[98,114,101,97,107],[99,111,110,116,105,110,117,101],[114,101,116,117,114,110],[103,108,111,98,97,108],[117,110,115,101,116],[116,104,114,111,119],[116,114,121],[99,97,116,99,104],[102,105,110,97,108,108,121],[121,105,101,108,100],[105,110,99,108,117,100,101],[102,117,110,99,116,105,111,110],[99,108,97,115,115],[116,114,97,105,116],[101,120,116,101,110,100,115],[117,115,101],[112,114,105,118,97,116,101],[115,116,97,116,105,99],[110,101,119],[116,114,117,101],[102,97,108,115,101],[110,117,108,108]]:List aD) y4>>=λx8=>
 (if x8=a0 then
 some (.inr true)
 else
 iY a0 (bm (y4+1)))
 else
 some (.inl ()))
partial_fixpoint
def kH (a0:aD):Option (Bool):=
 ((
 iY a0 0
 :Option iD)>>=λo1=>match o1 with
 | .inr r=>some r
 | .inl _=>
 some false
 )
theorem BL {a0:aD} {r:Bool} (h:kH a0=some r):sg3 200 a0 r:=by
 refine ep Tryz.func200 ?_
 unfold kH at h
 refine .d (.d ⟨row cS ([[101,99,104,111],[105,102],[101,108,115,101],[119,104,105,108,101],[102,111,114,101,97,99,104],[97,115],[98,114,101,97,107],[99,111,110,116,105,110,117,101],[114,101,116,117,114,110],[103,108,111,98,97,108],[117,110,115,101,116],[116,104,114,111,119],[116,114,121],[99,97,116,99,104],[102,105,110,97,108,108,121],[121,105,101,108,100],[105,110,99,108,117,100,101],[102,117,110,99,116,105,111,110],[99,108,97,115,115],[116,114,97,105,116],[101,120,116,101,110,100,115],[117,115,101],[112,114,105,118,97,116,101],[115,116,97,116,105,99],[110,101,119],[116,114,117,101],[102,97,108,115,101],[110,117,108,108]]:List aD),eg cS ([[101,99,104,111],[105,102],[101,108,115,101],[119,104,105,108,101],[102,111,114,101,97,99,104],[97,115],[98,114,101,97,107],[99,111,110,116,105,110,117,101],[114,101,116,117,114,110],[103,108,111,98,97,108],[117,110,115,101,116],[116,104,114,111,119],[116,114,121],[99,97,116,99,104],[102,105,110,97,108,108,121],[121,105,101,108,100],[105,110,99,108,117,100,101],[102,117,110,99,116,105,111,110],[99,108,97,115,115],[116,114,97,105,116],[101,120,116,101,110,100,115],[117,115,101],[112,114,105,118,97,116,101],[115,116,97,116,105,99],[110,101,119],[116,114,117,101],[102,97,108,115,101],[110,117,108,108]]:List aD) rfl (dC rfl),?_⟩)
 obtain ⟨o1,h,fD⟩:=bd h
 refine .cut (λσ η=>.inl ()=o1/\σ=[]/\η=[]) ?_ ?_
 refine .d ?_
 refine le (iY.partial_correctness a0 (motive:=λy4 Q1=>o1=Q1->aK _ _ [(0,.str a0),(3,.own 0 0 0 ([[101,99,104,111],[105,102],[101,108,115,101],[119,104,105,108,101],[102,111,114,101,97,99,104],[97,115],[98,114,101,97,107],[99,111,110,116,105,110,117,101],[114,101,116,117,114,110],[103,108,111,98,97,108],[117,110,115,101,116],[116,104,114,111,119],[116,114,121],[99,97,116,99,104],[102,105,110,97,108,108,121],[121,105,101,108,100],[105,110,99,108,117,100,101],[102,117,110,99,116,105,111,110],[99,108,97,115,115],[116,114,97,105,116],[101,120,116,101,110,100,115],[117,115,101],[112,114,105,118,97,116,101],[115,116,97,116,105,99],[110,101,119],[116,114,117,101],[102,97,108,115,101],[110,117,108,108]]:List aD).length),(4,pI y4)] [.row 0 1 ([[101,99,104,111],[105,102],[101,108,115,101],[119,104,105,108,101],[102,111,114,101,97,99,104],[97,115],[98,114,101,97,107],[99,111,110,116,105,110,117,101],[114,101,116,117,114,110],[103,108,111,98,97,108],[117,110,115,101,116],[116,104,114,111,119],[116,114,121],[99,97,116,99,104],[102,105,110,97,108,108,121],[121,105,101,108,100],[105,110,99,108,117,100,101],[102,117,110,99,116,105,111,110],[99,108,97,115,115],[116,114,97,105,116],[101,120,116,101,110,100,115],[117,115,101],[112,114,105,118,97,116,101],[115,116,97,116,105,99],[110,101,119],[116,114,117,101],[102,97,108,115,101],[110,117,108,108]]:List aD).length 9 (row cS ([[101,99,104,111],[105,102],[101,108,115,101],[119,104,105,108,101],[102,111,114,101,97,99,104],[97,115],[98,114,101,97,107],[99,111,110,116,105,110,117,101],[114,101,116,117,114,110],[103,108,111,98,97,108],[117,110,115,101,116],[116,104,114,111,119],[116,114,121],[99,97,116,99,104],[102,105,110,97,108,108,121],[121,105,101,108,100],[105,110,99,108,117,100,101],[102,117,110,99,116,105,111,110],[99,108,97,115,115],[116,114,97,105,116],[101,120,116,101,110,100,115],[117,115,101],[112,114,105,118,97,116,101],[115,116,97,116,105,99],[110,101,119],[116,114,117,101],[102,97,108,115,101],[110,117,108,108]]:List aD))]) ?_ 0 o1 h rfl) (tk [0] FE lC)
 intro F6 ih5 y4 Q1 h aa0
 subst aa0
 refine aK.round (.d (.d ⟨rfl,(sD h (λEC h=>?_) (λEC h=>?_))⟩))
 refine .d (.d (bk h λx8 hx9 h=>⟨rfl,bf hx9,_,aKc _,rfl,_,((aU hx9).trans rfl),(sE h (λlS h=>?_) (λlS h=>?_))⟩))
 refine .d ?_
 exact aLW
 exact lg (ih5 _ _ h rfl) (tk [0] FE lC)
 exact aMF
 exact aMm
def dH (a0:aD):Option (Bool):=
 qf a0>>=λv1=>
 (if v1=true then
 kH a0>>=λv4=>
 some (!v4)
 else
 some false)
theorem fp {a0:aD} {r:Bool} (h:dH a0=some r):sg3 147 a0 r:=by
 refine ep Tryz.func147 ?_
 unfold dH at h
 refine .d (.d (bk h λv1 tu h=>(b8 (LX tu) (sV h (λzA h=>?_) (λzA h=>?_)))))
 exact .t (bk h λv4 Ni h=>(b8 (BL Ni) (.t (.t (eB h)))))
 exact aMS
set_option maxRecDepth 100000
def m91 (a0:Int) (a1:Int):Option (Int):=
 (if a1>a0 then
 some a1
 else
 some a0)
theorem aHU {a0:Int} {a1:Int} {r:Int} (h:m91 a0 a1=some r):amN 71 a0 a1 r:=by
 refine ep Tryz.func71 ?_
 unfold m91 at h
 refine .d (.d (.d (sD h (λmJ h=>?_) (λmJ h=>?_))))
 exact aML
 exact aML
def tN (a0:Int) (a1:Int):Option (Int):=
 (if a1<a0 then
 some a1
 else
 some a0)
theorem aaD {a0:Int} {a1:Int} {r:Int} (h:tN a0 a1=some r):amN 184 a0 a1 r:=by
 refine ep Tryz.func184 ?_
 unfold tN at h
 refine .d (.d (.d (sD h (λmJ h=>?_) (λmJ h=>?_))))
 exact aML
 exact aML
def m93 (a0:Int) (a1:Int):Option (Int):=
 (if a1>a0 then
 some a1
 else
 some a0)
theorem aHV {a0:Int} {a1:Int} {r:Int} (h:m93 a0 a1=some r):amN 195 a0 a1 r:=by
 refine ep Tryz.func195 ?_
 unfold m93 at h
 refine .d (.d (.d (sD h (λmJ h=>?_) (λmJ h=>?_))))
 exact aML
 exact aML
def hZ (a0:aD) (a1:Int) (a2:aD):Option (Bool):=
 (if (a2.length:Int)<=(bm ((a0.length:Int) - a1)) then
 tI a0 a1 (bm (a1+(a2.length:Int)))>>=λs2=>
 some (s2==a2)
 else
 some false)
theorem k7 {a0:aD} {a1:Int} {a2:aD} {r:Bool} (h:hZ a0 a1 a2=some r):ACall Tryz.prog 100 [.str a0,pI a1,.str a2] [] (λres h=>res=.bool r/\h=[]):=by
 refine ep Tryz.func100 ?_
 unfold hZ at h
 refine .d (.d (sD h (λmJ h=>?_) (λmJ h=>?_)))
 exact .t (.t (.t (.t (.t (.t (bk h λs2 hx3 h=>⟨rk hx3,s2,rl hx3,(.t (.t (.t (eB h))))⟩))))))
 exact .f (.f (.f (.f (.f (.f (.f (.f (.f (eB h)))))))))
def kf (a0:aD) (y4:Int):Option ((Unit) ⊕ (aD×aD)):=
 (if (bm (y4+1))<(a0.length:Int) then
 tI a0 y4 (bm (y4+2))>>=λs8=>
 (if s8=([58,58]:aD) then
 sto a0 y4>>=λs11=>
 mU a0 (bm (y4+2))>>=λs13=>
 some (.inr (s11,s13))
 else
 kf a0 (bm (y4+1)))
 else
 some (.inl ()))
partial_fixpoint
def mV (a0:aD):Option (aD×aD):=
 ((
 kf a0 0
 :Option ((Unit) ⊕ (aD×aD)))>>=λo1=>match o1 with
 | .inr r=>some r
 | .inl _=>
 some ([],[])
 )
theorem FJ {a0:aD} {r:aD×aD} (h:mV a0=some r):ACall Tryz.prog 148 [.str a0] [] (λres h=>res=.fM [.str r.1,.str r.2]/\h=[]):=by
 refine ep Tryz.func148 ?_
 unfold mV at h
 refine .d ?_
 obtain ⟨o1,h,fD⟩:=bd h
 refine .cut (λσ η=>.inl ()=o1/\σ=[]/\η=[]) ?_ ?_
 refine .d ?_
 refine le (kf.partial_correctness a0 (motive:=λy4 Fe=>o1=Fe->aK _ _ [(0,.str a0),(4,pI y4)] []) ?_ 0 o1 h rfl) (tk [] BG ⟨⟩)
 intro F6 ih5 y4 Fe h aa9
 subst aa9
 refine aK.round (.d (.d (sD h (λEC h=>?_) (λEC h=>?_))))
 refine .d (.d (bk h λs8 hx9 h=>⟨rk hx9,s8,rl hx9,(sE h (λlS h=>?_) (λlS h=>?_))⟩))
 refine .d (bk h λs11 vX h=>⟨Im vX,s11,Ip vX,(bk h λs13 DG h=>⟨sQ DG,s13,sR DG,?_⟩)⟩)
 obtain rfl:=si h
 replace h:=fD
 obtain rfl:=si h
 exact en [] ⟨rfl,rfl⟩ (.nR ⟨.s,.s,⟨⟩⟩) ⟨⟩
 exact lg (ih5 _ _ h rfl) (tk [] BG ⟨⟩)
 exact aMF
 rintro _ _ ⟨rfl,rfl,rfl⟩
 replace h:=fD
 refine .d ?_
 obtain rfl:=si h
 exact en [] ⟨rfl,rfl⟩ (.nR ⟨.s,.s,⟨⟩⟩) ⟨⟩
def ly (a0:Int):Option (Int):=
 (if a0<=2 then
 some 9
 else
 (if a0<=5 then
 some 10
 else
 (if a0=6 then
 some 8
 else
 (if a0<=10 then
 some 6
 else
 some 7))))
theorem Fv {a0:Int} {r:Int} (h:ly a0=some r):ACall Tryz.prog 88 [pI a0] [] (λres h=>res=pI r/\h=[]):=by
 refine ep Tryz.func88 ?_
 unfold ly at h
 refine .d (.d (.d (sD h (λmJ h=>?_) (λmJ h=>?_))))
 exact aML
 refine .d (sD h (λAS h=>?_) (λAS h=>?_))
 exact aML
 refine .d (sE h (λzA h=>?_) (λzA h=>?_))
 exact aML
 refine .d (sD h (λuX h=>?_) (λuX h=>?_))
 exact aML
 exact aML
def iZ (a0:Int):Option (aD):=
 yn a0 1 15>>=λv1=>
 (if v1=true then
 idx ([[],[43],[45],[42],[47],[37],[46],[61,61],[33,61],[61,61,61],[33,61,61],[60],[60,61],[62],[62,61],[60,61,62]]:List aD) a0>>=λx4=>
 some x4
 else
 some [])
theorem FH {a0:Int} {r:aD} (h:iZ a0=some r):sg6 89 a0 r:=by
 refine ep Tryz.func89 ?_
 unfold iZ at h
 refine .d (.d (.d (bk h λv1 tu h=>(b8 (rJ tu) (fP h (λzA h=>?_) (λzA h=>?_))))))
 exact .d (eS h)
 exact .d ⟨row cS ([[],[43],[45],[42],[47],[37],[46],[61,61],[33,61],[61,61,61],[33,61,61],[60],[60,61],[62],[62,61],[60,61,62]]:List aD),eg cS ([[],[43],[45],[42],[47],[37],[46],[61,61],[33,61],[61,61,61],[33,61,61],[60],[60,61],[62],[62,61],[60,61,62]]:List aD) rfl (dC rfl),(.d (bk h λx4 hx5 h=>⟨rfl,bf hx5,_,aKc _,rfl,_,((aU hx5).trans rfl),(eS h)⟩))⟩
def ve (s6:aD) (y7:Int):Option (aD):=
 (if y7=0 then
 some s6
 else
 (if (y7.tmod 10)<0 then
 wQ ([UInt8.ofNat (IntKind.u8.wrap (bm (48+(bm (0 - (y7.tmod 10)))))).toNat]:List UInt8) s6>>=λs12=>
 ve s12 (bm (y7.tdiv 10))
 else
 wQ ([UInt8.ofNat (IntKind.u8.wrap (bm (48+(y7.tmod 10)))).toNat]:List UInt8) s6>>=λs14=>
 ve s14 (bm (y7.tdiv 10))))
partial_fixpoint
def m94 (a0:Int):Option (aD):=
 (if a0=0 then
 some [48]
 else
 (
 ve [] a0
 :Option (aD))>>=λs2=>
 (if a0<0 then
 wQ [45] s2>>=λs19=>
 some s19
 else
 some s2))
theorem aHH {a0:Int} {r:aD} (h:m94 a0=some r):sg6 85 a0 r:=by
 refine ep Tryz.func85 ?_
 unfold m94 at h
 refine .d (.d (.d (sE h (λmJ h=>?_) (λmJ h=>?_))))
 exact .d (eS h)
 refine .d ?_
 obtain ⟨o3,h,hk5⟩:=bd h
 refine .cut (λσ η=>∃s2,s2=o3/\σ=[(0,pI a0),(3,.str s2)]/\η=[]) ?_ ?_
 refine .d ?_
 refine le (ve.partial_correctness  (motive:=λs6 y7 Qf=>o3=Qf->aK _ _ [(0,pI a0),(3,.str s6),(4,pI y7)] []) ?_ [] a0 o3 h rfl) (tk [] ⟨.i,.s,.i,⟨⟩⟩ ⟨⟩)
 intro F9 ih8 s6 y7 Qf h aaV
 subst aaV
 refine aK.round (.d (.d (sN h (λlS h=>?_) (λlS h=>?_))))
 refine .d (.d ⟨by decide,(.d (.d (sD h (λqR h=>?_) (λqR h=>?_))))⟩)
 exact ⟨row cB ([UInt8.ofNat (IntKind.u8.wrap (bm (48+(bm (0 - (y7.tmod 10)))))).toNat]:List UInt8),eg cB ([UInt8.ofNat (IntKind.u8.wrap (bm (48+(bm (0 - (y7.tmod 10)))))).toNat]:List UInt8) rfl (vx (Ix _) ⟨.same _,trivial⟩ trivial),rfl,([UInt8.ofNat (IntKind.u8.wrap (bm (48+(bm (0 - (y7.tmod 10)))))).toNat]:List UInt8),rfl,oW bg rfl,(bk h λs12 LL h=>⟨pR LL,s12,pT LL,by decide,(lg (ih8 _ _ _ h rfl) (tk [] ⟨.i,.s,.i,⟨⟩⟩ ⟨⟩))⟩)⟩
 exact ⟨row cB ([UInt8.ofNat (IntKind.u8.wrap (bm (48+(y7.tmod 10)))).toNat]:List UInt8),eg cB ([UInt8.ofNat (IntKind.u8.wrap (bm (48+(y7.tmod 10)))).toNat]:List UInt8) rfl (vx (Ix _) ⟨.same _,trivial⟩ trivial),rfl,([UInt8.ofNat (IntKind.u8.wrap (bm (48+(y7.tmod 10)))).toNat]:List UInt8),rfl,oW bg rfl,(bk h λs14 yE h=>⟨pR yE,s14,pT yE,by decide,(lg (ih8 _ _ _ h rfl) (tk [] ⟨.i,.s,.i,⟨⟩⟩ ⟨⟩))⟩)⟩
 exact ct ⟨_,si h,rfl,rfl⟩ (tk [] ⟨.i,.s,⟨⟩⟩ ⟨⟩)
 rintro _ _ ⟨s2,rfl,rfl,rfl⟩
 replace h:=hk5
 refine .d (.d (sD h (λyF h=>?_) (λyF h=>?_)))
 exact .d (bk h λs19 Co h=>⟨pR Co,s19,pT Co,(eS h)⟩)
 exact .d (eS h)
def pN (a0:Int):Option (aD):=
 (if a0<1 then
 some []
 else
 (if a0>15 then
 some []
 else
 idx ([[43],[45],[42],[47],[37],[46],[61,61],[33,61],[61,61,61],[33,61,61],[60],[60,61],[62],[62,61],[60,61,62]]:List aD) (bm (a0 - 1))>>=λx3=>
 some x3))
theorem Fx {a0:Int} {r:aD} (h:pN a0=some r):sg6 155 a0 r:=by
 refine ep Tryz.func155 ?_
 unfold pN at h
 refine .d (.d ⟨row cS ([[43],[45],[42],[47],[37],[46],[61,61],[33,61],[61,61,61],[33,61,61],[60],[60,61],[62],[62,61],[60,61,62]]:List aD),eg cS ([[43],[45],[42],[47],[37],[46],[61,61],[33,61],[61,61,61],[33,61,61],[60],[60,61],[62],[62,61],[60,61,62]]:List aD) rfl (dC rfl),(.d (.d (sD h (λmJ h=>?_) (λmJ h=>?_))))⟩)
 exact .t (.t (.t (.d (eS h))))
 refine .f (.f (sD h (λAS h=>?_) (λAS h=>?_)))
 exact .d (eS h)
 exact .d (bk h λx3 hx4 h=>⟨rfl,bf hx4,_,aKc _,rfl,_,((aU hx4).trans rfl),(eS h)⟩)
def kJ (a0:Int):Option (Int):=
 (
 (if a0=7 then
 some (a0==7)
 else
 (if a0=8 then
 some (a0==8)
 else
 (if a0=9 then
 some (a0==9)
 else
 some (a0==10))))
 :Option (Bool))>>=λb1=>
 (if b1=true then
 some 6
 else
 (
 (if a0=11 then
 some (a0==11)
 else
 (if a0=12 then
 some (a0==12)
 else
 (if a0=13 then
 some (a0==13)
 else
 (if a0=14 then
 some (a0==14)
 else
 some (a0==15)))))
 :Option (Bool))>>=λb9=>
 (if b9=true then
 some 7
 else
 (if a0=6 then
 some 8
 else
 (if a0=1 then
 some 9
 else
 (if a0=2 then
 some 9
 else
 some 10)))))
theorem H4 {a0:Int} {r:Int} (h:kJ a0=some r):ACall Tryz.prog 151 [pI a0] [] (λres h=>res=pI r/\h=[]):=by
 refine ep Tryz.func151 ?_
 unfold kJ at h
 refine .d (.d (.d ?_))
 obtain ⟨o2,h,ID⟩:=bd h
 refine .cut (λσ η=>∃b1,b1=o2/\σ=[(3,pI a0),(4,.bool b1)]/\η=[]) ?_ ?_
 refine .d (sE h (λAK h=>?_) (λAK h=>?_))
 exact aMJ
 refine .d (sE h (λBR h=>?_) (λBR h=>?_))
 exact aMJ
 refine .d (sE h (λEC h=>?_) (λEC h=>?_))
 exact aMJ
 exact aMJ
 rintro _ _ ⟨b1,rfl,rfl,rfl⟩
 replace h:=ID
 refine sV h (λFT h=>?_) (λFT h=>?_)
 exact aML
 obtain ⟨T4,h,Hu⟩:=bd h
 refine .cut (λσ η=>∃b9,b9=T4/\σ=[(3,pI a0),(9,.bool b9)]/\η=[]) ?_ ?_
 refine .d (sE h (λsj h=>?_) (λsj h=>?_))
 exact aMJ
 refine .d (sE h (λsq h=>?_) (λsq h=>?_))
 exact aMJ
 refine .d (sE h (λsg h=>?_) (λsg h=>?_))
 exact aMJ
 refine .d (sE h (λnK h=>?_) (λnK h=>?_))
 exact aMJ
 exact aMJ
 rintro _ _ ⟨b9,rfl,rfl,rfl⟩
 replace h:=Hu
 refine sV h (λyz h=>?_) (λyz h=>?_)
 exact aML
 refine .d (sE h (λyF h=>?_) (λyF h=>?_))
 exact aML
 refine .d (.d (sE h (λzO h=>?_) (λzO h=>?_)))
 exact .kt zO (.d (eI h))
 refine sE h (λyB h=>?_) (λyB h=>?_)
 exact aML
 exact aML
def kg (y8:Int) (y9:Int) (Fw:aD) (Pk:List ae):Option ae7:=
 (if y8=7 then
 (if (Pk.length:Int)>0 then
 idx Pk 0>>=λNv=>
 kg Nv.ai Nv.aE Nv.aq Nv.af
 else
 some (y8,y9,Fw,Pk))
 else
 some (y8,y9,Fw,Pk))
partial_fixpoint
def fg (a0:ae):Option (Bool):=
 (
 kg a0.ai a0.aE a0.aq a0.af
 :Option ae7)>>=λ(y1,y2,s3,l4)=>
 (if y1=4 then
 some true
 else
 some (y1==8))
theorem lT {a0:ae} {r:Bool} (h:fg a0=some r):Hk 112 a0 r:=by
 refine ep Tryz.func112 ?_
 unfold fg at h
 refine .d ?_
 obtain ⟨o5,h,ym⟩:=bd h
 refine .cut (λσ η=>∃y1,∃y2,∃s3,∃l4,(y1,y2,s3,l4)=o5/\σ=[(1,.aA 0 0 0 0)]/\η=[.row 0 4 1 29 (λ_=>[pI y1,pI y2,.str s3,sl 4 ae.cells l4])]) ?_ ?_
 refine le (kg.partial_correctness  (motive:=λy8 y9 Fw Pk P9=>o5=P9->aK _ _ [(1,.aA 0 0 0 0)] [.row 0 4 1 29 (λ_=>[pI y8,pI y9,.str Fw,sl 4 ae.cells Pk])]) ?_ a0.ai a0.aE a0.aq a0.af o5 h rfl) (tk [0] vF gx)
 intro F13 WO y8 y9 Fw Pk P9 h amO
 subst amO
 refine aK.round (.d (.d ⟨rfl,rfl,_,rfl,(sE h (λsq h=>?_) (λsq h=>?_))⟩))
 refine ⟨rfl,(.t ⟨rfl,_,rfl,(.t (.t (.t (sD h (λsg h=>?_) (λsg h=>?_)))))⟩)⟩
 exact ⟨rfl,rfl,_,rfl,(bk h λNv Lr h=>⟨bf Lr,_,(aU Lr).trans (ae.aO Nv),rfl,_,_,rfl,aj,(lg (WO _ _ _ _ _ h rfl) (tk [0] vF gx))⟩)⟩
 exact ct ⟨_,_,_,_,si h,rfl,rfl⟩ (tk [0] vF gx)
 exact .f (.f (.f (.f (.f (ct ⟨_,_,_,_,si h,rfl,rfl⟩ (tk [0] vF gx))))))
 rintro _ _ ⟨y1,y2,s3,l4,rfl,rfl,rfl⟩
 replace h:=ym
 refine .d ⟨rfl,rfl,_,rfl,(sE h (λyB h=>?_) (λyB h=>?_))⟩
 exact .t (.t (.t (eB h)))
 exact ⟨rfl,(.f ⟨rfl,_,rfl,(.f (.f (eB h)))⟩)⟩
def hJ (a0:ae):Option (Bool):=
 (if a0.ai=4 then
 (if a0.aE=0 then
 bC a0.aq>>=λv3=>
 (if v3=true then
 some ((a0.af.length:Int)==0)
 else
 some false)
 else
 some false)
 else
 some false)
theorem nY {a0:ae} {r:Bool} (h:hJ a0=some r):Hk 138 a0 r:=by
 refine ep Tryz.func138 ?_
 unfold hJ at h
 refine .d (.d ⟨rfl,rfl,_,rfl,(sE h (λmJ h=>?_) (λmJ h=>?_))⟩)
 refine ⟨rfl,(.t ⟨rfl,_,rfl,(.t (.t (sE h (λAS h=>?_) (λAS h=>?_))))⟩)⟩
 refine ⟨rfl,(.t ⟨rfl,_,rfl,(.t (bk h λv3 RP h=>(b8 (cH RP) (.t (sV h (λAK h=>?_) (λAK h=>?_))))))⟩)⟩
 exact ⟨rfl,(.t ⟨rfl,_,rfl,(.t (.t (.t (eB h))))⟩)⟩
 exact .f (.f (.f (.f (eB h))))
 exact aMW
 exact .f (.f (.f (.f (.f (.f (.f (.f (.f (.f (.f (.f (eB h))))))))))))
def jA (y8:Int) (y9:Int) (Fw:aD) (Pk:List ae):Option ae7:=
 (if y8=7 then
 (if (Pk.length:Int)=2 then
 idx Pk 0>>=λNv=>
 jA Nv.ai Nv.aE Nv.aq Nv.af
 else
 some (y8,y9,Fw,Pk))
 else
 some (y8,y9,Fw,Pk))
partial_fixpoint
def ff (a0:ae):Option (Bool):=
 (
 jA a0.ai a0.aE a0.aq a0.af
 :Option ae7)>>=λ(y1,y2,s3,l4)=>
 (if y1=4 then
 some true
 else
 some (y1==8))
theorem kD {a0:ae} {r:Bool} (h:ff a0=some r):Hk 104 a0 r:=by
 refine ep Tryz.func104 ?_
 unfold ff at h
 refine .d ?_
 obtain ⟨o5,h,ym⟩:=bd h
 refine .cut (λσ η=>∃y1,∃y2,∃s3,∃l4,(y1,y2,s3,l4)=o5/\σ=[(1,.aA 0 0 0 0)]/\η=[.row 0 4 1 29 (λ_=>[pI y1,pI y2,.str s3,sl 4 ae.cells l4])]) ?_ ?_
 refine le (jA.partial_correctness  (motive:=λy8 y9 Fw Pk P9=>o5=P9->aK _ _ [(1,.aA 0 0 0 0)] [.row 0 4 1 29 (λ_=>[pI y8,pI y9,.str Fw,sl 4 ae.cells Pk])]) ?_ a0.ai a0.aE a0.aq a0.af o5 h rfl) (tk [0] vF gx)
 intro F13 WO y8 y9 Fw Pk P9 h amO
 subst amO
 refine aK.round (.d (.d ⟨rfl,rfl,_,rfl,(sE h (λsq h=>?_) (λsq h=>?_))⟩))
 refine ⟨rfl,(.t ⟨rfl,_,rfl,(.t (.t (.t (sE h (λsg h=>?_) (λsg h=>?_)))))⟩)⟩
 exact ⟨rfl,rfl,_,rfl,(bk h λNv Lr h=>⟨bf Lr,_,(aU Lr).trans (ae.aO Nv),rfl,_,_,rfl,aj,(lg (WO _ _ _ _ _ h rfl) (tk [0] vF gx))⟩)⟩
 exact ct ⟨_,_,_,_,si h,rfl,rfl⟩ (tk [0] vF gx)
 exact .f (.f (.f (.f (.f (ct ⟨_,_,_,_,si h,rfl,rfl⟩ (tk [0] vF gx))))))
 rintro _ _ ⟨y1,y2,s3,l4,rfl,rfl,rfl⟩
 replace h:=ym
 refine .d ⟨rfl,rfl,_,rfl,(sE h (λyB h=>?_) (λyB h=>?_))⟩
 exact .t (.t (.t (eB h)))
 exact ⟨rfl,(.f ⟨rfl,_,rfl,(.f (.f (eB h)))⟩)⟩
def fQ (a0:ae) (b69:Bool) (Tf:Int):Option (Bool×Bool):=
 (if Tf<(a0.aq.length:Int) then
 (if b69=true then
 hZ a0.aq Tf [60,63]>>=λv75=>
 fQ a0 (!v75) (bm (Tf+1))
 else
 fQ a0 false (bm (Tf+1)))
 else
 some ((a0.aE==0),b69))
partial_fixpoint
def eD (a0:ae):Option (Bool×Bool):=
 (
 (if a0.ai=1 then
 yn a0.aE 0 1000000000>>=λv7=>
 some (v7,(a0.aq==([]:aD)))
 else
 (if a0.ai=3 then
 yn a0.aE 0 2>>=λv10=>
 some (v10,(a0.aq==([]:aD)))
 else
 (if a0.ai=9 then
 yn a0.aE 1 2>>=λml=>
 some (ml,(a0.aq==([]:aD)))
 else
 (if a0.ai=10 then
 yn a0.aE 1 15>>=λqV=>
 some (qV,(a0.aq==([]:aD)))
 else
 (
 (if a0.ai=2 then
 some (a0.ai==2)
 else
 some (a0.ai==47))
 :Option (Bool))>>=λb18=>
 (if b18=true then
 some ((a0.aE==0),(decide ((a0.aq.length:Int)<=400)))
 else
 (
 (if a0.ai=4 then
 some (a0.ai==4)
 else
 (if a0.ai=8 then
 some (a0.ai==8)
 else
 (if a0.ai=17 then
 some (a0.ai==17)
 else
 (if a0.ai=18 then
 some (a0.ai==18)
 else
 (if a0.ai=20 then
 some (a0.ai==20)
 else
 (if a0.ai=40 then
 some (a0.ai==40)
 else
 (if a0.ai=44 then
 some (a0.ai==44)
 else
 (if a0.ai=49 then
 some (a0.ai==49)
 else
 (if a0.ai=50 then
 some (a0.ai==50)
 else
 (if a0.ai=51 then
 some (a0.ai==51)
 else
 (if a0.ai=52 then
 some (a0.ai==52)
 else
 some (a0.ai==53))))))))))))
 :Option (Bool))>>=λb24=>
 (if b24=true then
 dH a0.aq>>=λv40=>
 some ((a0.aE==0),v40)
 else
 (if a0.ai=22 then
 dH a0.aq>>=λMA=>
 (if MA=true then
 some ((a0.aE==0),true)
 else
 some ((a0.aE==0),(a0.aq==([115,116,97,116,105,99]:aD))))
 else
 (if a0.ai=54 then
 yn a0.aE 0 1>>=λvy=>
 dH a0.aq>>=λv49=>
 some (vy,v49)
 else
 (if a0.ai=55 then
 yn a0.aE 0 3>>=λtt=>
 dH a0.aq>>=λQN=>
 some (tt,QN)
 else
 (if a0.ai=21 then
 mV a0.aq>>=λ(zX,Fb)=>
 dH zX>>=λv60=>
 (if v60=true then
 dH Fb>>=λJl=>
 some ((a0.aE==0),Jl)
 else
 (if zX=([115,116,97,116,105,99]:aD) then
 dH Fb>>=λv66=>
 some ((a0.aE==0),v66)
 else
 some ((a0.aE==0),false)))
 else
 (if a0.ai=31 then
 fQ a0 (!(a0.aq==([]:aD))) 0
 else
 some ((a0.aE==0),(a0.aq==([]:aD))))))))))))))
 :Option (Bool×Bool))>>=λ(b1,b2)=>
 some (b1,b2)
theorem kC {a0:ae} {r:Bool×Bool} (h:eD a0=some r):ACall Tryz.prog 75 [.agg a0.lit] [] (λres h=>res=.fM [.bool r.1,.bool r.2]/\h=[]):=by
 refine ep Tryz.func75 ?_
 unfold eD at h
 refine .d (.d ⟨rfl,rfl,_,rfl,(.d ⟨rfl,rfl,_,rfl,?_⟩)⟩)
 obtain ⟨o3,h,hk5⟩:=bd h
 refine .cut (λσ η=>∃b1,∃b2,(b1,b2)=o3/\σ=[(4,.bool b1),(5,.bool b2)]/\η=[]) ?_ ?_
 refine .d ⟨rfl,rfl,_,rfl,(.d (sE h (λBR h=>?_) (λBR h=>?_)))⟩
 exact ⟨rfl,rfl,_,rfl,(bk h λv7 Uk h=>(b8 (rJ Uk) (ct ⟨_,_,si h,rfl,rfl⟩ (tk [] wN ⟨⟩))))⟩
 refine .d (sE h (λP8 h=>?_) (λP8 h=>?_))
 exact ⟨rfl,rfl,_,rfl,(bk h λv10 CU h=>(b8 (rJ CU) (ct ⟨_,_,si h,rfl,rfl⟩ (tk [] wN ⟨⟩))))⟩
 refine .d (sE h (λoI h=>?_) (λoI h=>?_))
 exact ⟨rfl,rfl,_,rfl,(bk h λml xu h=>(b8 (rJ xu) (ct ⟨_,_,si h,rfl,rfl⟩ (tk [] wN ⟨⟩))))⟩
 refine .d (sE h (λsg h=>?_) (λsg h=>?_))
 exact ⟨rfl,rfl,_,rfl,(bk h λqV Ci h=>(b8 (rJ Ci) (ct ⟨_,_,si h,rfl,rfl⟩ (tk [] wN ⟨⟩))))⟩
 obtain ⟨o19,h,aHW⟩:=bd h
 refine .cut (λσ η=>∃b18,b18=o19/\σ=[(1,.aA 0 0 0 0),(4,.bool (a0.aE==0)),(5,.bool (a0.aq==([]:aD))),(16,pI a0.ai),(37,.bool b18)]/\η=[.row 0 4 1 29 (λ_=>a0.lit)]) ?_ ?_
 refine .d (sE h (λyH h=>?_) (λyH h=>?_))
 exact aMH
 exact aMH
 rintro _ _ ⟨b18,rfl,rfl,rfl⟩
 replace h:=aHW
 refine sV h (λsr h=>?_) (λsr h=>?_)
 exact ⟨rfl,rfl,_,rfl,(ct ⟨_,_,si h,rfl,rfl⟩ (tk [] wN ⟨⟩))⟩
 obtain ⟨o25,h,TG⟩:=bd h
 refine .cut (λσ η=>∃b24,b24=o25/\σ=[(1,.aA 0 0 0 0),(4,.bool (a0.aE==0)),(5,.bool (a0.aq==([]:aD))),(16,pI a0.ai),(44,.bool b24)]/\η=[.row 0 4 1 29 (λ_=>a0.lit)]) ?_ ?_
 refine .d (sE h (λHA h=>?_) (λHA h=>?_))
 exact aMH
 refine .d (sE h (λzK h=>?_) (λzK h=>?_))
 exact aMH
 refine .d (sE h (λHr h=>?_) (λHr h=>?_))
 exact aMH
 refine .d (sE h (λzL h=>?_) (λzL h=>?_))
 exact aMH
 refine .d (sE h (λCe h=>?_) (λCe h=>?_))
 exact aMH
 refine .d (sE h (λHs h=>?_) (λHs h=>?_))
 exact aMH
 refine .d (sE h (λzH h=>?_) (λzH h=>?_))
 exact aMH
 refine .d (sE h (λCf h=>?_) (λCf h=>?_))
 exact aMH
 refine .d (sE h (λVT h=>?_) (λVT h=>?_))
 exact aMH
 refine .d (sE h (λzI h=>?_) (λzI h=>?_))
 exact aMH
 refine .d (sE h (λzJ h=>?_) (λzJ h=>?_))
 exact aMH
 exact aMH
 rintro _ _ ⟨b24,rfl,rfl,rfl⟩
 replace h:=TG
 refine sV h (λCb h=>?_) (λCb h=>?_)
 exact ⟨rfl,rfl,_,rfl,(bk h λv40 ah1 h=>(b8 (fp ah1) (ct ⟨_,_,si h,rfl,rfl⟩ (tk [] wN ⟨⟩))))⟩
 refine .d (sE h (λUK h=>?_) (λUK h=>?_))
 refine ⟨rfl,rfl,_,rfl,(bk h λMA ah2 h=>(b8 (fp ah2) (sV h (λah3 h=>?_) (λah3 h=>?_))))⟩
 exact .t (.t (.t (ct ⟨_,_,si h,rfl,rfl⟩ (tk [] wN ⟨⟩))))
 exact ⟨rfl,(.f ⟨rfl,_,rfl,(.f (.f (ct ⟨_,_,si h,rfl,rfl⟩ (tk [] wN ⟨⟩))))⟩)⟩
 refine .d (sE h (λOm h=>?_) (λOm h=>?_))
 exact .d ⟨rfl,rfl,_,rfl,(bk h λvy aa1 h=>(b8 (rJ aa1) ⟨rfl,rfl,_,rfl,(bk h λv49 NZ h=>(b8 (fp NZ) (ct ⟨_,_,si h,rfl,rfl⟩ (tk [] wN ⟨⟩))))⟩))⟩
 refine .d (sE h (λHl h=>?_) (λHl h=>?_))
 exact .d ⟨rfl,rfl,_,rfl,(bk h λtt H9 h=>(b8 (rJ H9) ⟨rfl,rfl,_,rfl,(bk h λQN Oi h=>(b8 (fp Oi) (ct ⟨_,_,si h,rfl,rfl⟩ (tk [] wN ⟨⟩))))⟩))⟩
 refine .d (sE h (λM6 h=>?_) (λM6 h=>?_))
 refine .d ⟨rfl,rfl,_,rfl,?_⟩
 obtain ⟨⟨zX,Fb⟩,Zt,h⟩:=bd h
 refine b8 (FJ Zt) (bk h λv60 aHX h=>(b8 (fp aHX) (sV h (λM8 h=>?_) (λM8 h=>?_))))
 exact .t (.t (.t (.t (bk h λJl ah5 h=>(b8 (fp ah5) (.t (ct ⟨_,_,si h,rfl,rfl⟩ (tk [] wN ⟨⟩))))))))
 refine .f (.f (sE h (λUM h=>?_) (λUM h=>?_)))
 exact .t (bk h λv66 aHY h=>(b8 (fp aHY) (.t (ct ⟨_,_,si h,rfl,rfl⟩ (tk [] wN ⟨⟩)))))
 exact .f (.f (ct ⟨_,_,si h,rfl,rfl⟩ (tk [] wN ⟨⟩)))
 refine .d (sE h (λaHZ h=>?_) (λaHZ h=>?_))
 refine .d ⟨rfl,rfl,_,rfl,(.d ?_)⟩
 refine le (fQ.partial_correctness a0 (motive:=λb69 Tf o77=>o3=o77->aK _ _ [(1,.aA 0 0 0 0),(4,.bool (a0.aE==0)),(5,.bool b69),(8,pI Tf)] [.row 0 4 1 29 (λ_=>a0.lit)]) ?_ (!(a0.aq==([]:aD))) 0 o3 h rfl) (tk [0] ⟨.p,.b,.b,.i,⟨⟩⟩ gx)
 intro F72 aCo b69 Tf o77 h aH0
 subst aH0
 refine aK.round (.d (.d ⟨rfl,rfl,_,rfl,(sD h (λUP h=>?_) (λUP h=>?_))⟩))
 refine .d (sV h (λah7 h=>?_) (λah7 h=>?_))
 exact ⟨rfl,(.t ⟨rfl,_,rfl,(.t (.t (bk h λv75 aaP h=>(b8 (k7 aaP) (.t (.t (lg (aCo _ _ _ h rfl) (tk [0] ⟨.p,.b,.b,.i,⟨⟩⟩ gx))))))))⟩)⟩
 exact .f (.f (.f (.f (.f (lg (aCo _ _ _ h rfl) (tk [0] ⟨.p,.b,.b,.i,⟨⟩⟩ gx))))))
 exact ct ⟨_,_,si h,rfl,rfl⟩ (tk [] wN ⟨⟩)
 exact ct ⟨_,_,si h,rfl,rfl⟩ (tk [] wN ⟨⟩)
 rintro _ _ ⟨b1,b2,rfl,rfl,rfl⟩
 replace h:=hk5
 refine .d ?_
 obtain rfl:=si h
 exact en [] ⟨rfl,rfl⟩ (.nR ⟨.b,.b,⟨⟩⟩) ⟨⟩
mutual
def jo (a0:ae):Option (Int):=
 (
 hP a0 0 0
 :Option (Int))>>=λy1=>
 some (bm (y1+1))
partial_fixpoint
def hP (a0:ae) (y5:Int) (y6:Int):Option (Int):=
 (if y6<(a0.af.length:Int) then
 idx a0.af y6>>=λDN=>
 jo DN>>=λml=>
 m91 y5 ml>>=λyq=>
 hP a0 yq (bm (y6+1))
 else
 some y5)
partial_fixpoint
end
def abw (a0:ae) (r:Int):Prop:=sg4 30 a0 r
inductive iy:ae->Int->Int->(Int)->Prop
 | mk (G30:ae->Option (Int)) (aJV:∀a0 r,G30 a0=some r->abw a0 r) (qB:ae->Int->Int->Option (Int)) (MK:∀a0 y5 y6 o,qB a0 y5 y6=some o->iy a0 y5 y6 o) (a0:ae) (y5:Int) (y6:Int) (o:Int) (h:(
 (if y6<(a0.af.length:Int) then
 idx a0.af y6>>=λDN=>
 G30 DN>>=λml=>
 m91 y5 ml>>=λyq=>
 qB a0 yq (bm (y6+1))
 else
 some y5)
 )=some o):iy a0 y5 y6 o
theorem Ao:(∀a0 r,jo a0=some r->abw a0 r)/\(∀a0 y5 y6 o,hP a0 y5 y6=some o->iy a0 y5 y6 o):=by
 refine jo.mutual_partial_correctness abw iy ?_ ?_
 intro _ amP a0 r h
 refine ep Tryz.func30 ?_
 refine .d (.d ?_)
 obtain ⟨o2,h,ID⟩:=bd h
 refine .cut (λσ η=>∃y1,y1=o2/\σ=[(3,pI y1)]/\η=[]) ?_ ?_
 refine .d ?_
 have amQ:=amP _ _ _ _ h
 refine le (iy.rec (motive:=λp19 y5 y6 JC _=>a0=p19->o2=JC->aK _ _ [(1,.aA 0 0 0 0),(3,pI y5),(4,pI y6)] [.row 0 4 1 29 (λ_=>a0.lit)]) ?_ amQ rfl rfl) (tk [0] EO gx)
 intro _ hG9 _ _ p19 y5 y6 JC h ih7  Pl amR
 subst Pl
 subst amR
 refine aK.round (.d (.d ⟨rfl,rfl,_,rfl,(sD h (λlS h=>?_) (λlS h=>?_))⟩))
 exact .d ⟨rfl,rfl,_,rfl,(bk h λDN vX h=>⟨bf vX,_,(aU vX).trans (ae.aO DN),(bk h λml xu h=>(b8 (hG9 _ _ xu) (bk h λyq Ir h=>(b8 (aHU Ir) (lg (ih7 _ _ _ _ h rfl rfl) (tk [0] EO gx))))))⟩)⟩
 exact aMM
 exact aMe
 exact aMv
theorem DO {a0:ae} {r:Int} (h:jo a0=some r):sg4 30 a0 r:=Ao.1 a0 r h
mutual
def jZ (a0:ae):Option (Int):=
 (
 iQ a0 1 0
 :Option (Int))>>=λy1=>
 some y1
partial_fixpoint
def iQ (a0:ae) (y5:Int) (y6:Int):Option (Int):=
 (if y6<(a0.af.length:Int) then
 idx a0.af y6>>=λDN=>
 jZ DN>>=λml=>
 iQ a0 (bm (y5+ml)) (bm (y6+1))
 else
 some y5)
partial_fixpoint
end
def Pm (a0:ae) (r:Int):Prop:=sg4 131 a0 r
inductive jj:ae->Int->Int->(Int)->Prop
 | mk (aCp:ae->Option (Int)) (aIU:∀a0 r,aCp a0=some r->Pm a0 r) (rv:ae->Int->Int->Option (Int)) (Pn:∀a0 y5 y6 o,rv a0 y5 y6=some o->jj a0 y5 y6 o) (a0:ae) (y5:Int) (y6:Int) (o:Int) (h:(
 (if y6<(a0.af.length:Int) then
 idx a0.af y6>>=λDN=>
 aCp DN>>=λml=>
 rv a0 (bm (y5+ml)) (bm (y6+1))
 else
 some y5)
 )=some o):jj a0 y5 y6 o
theorem BM:(∀a0 r,jZ a0=some r->Pm a0 r)/\(∀a0 y5 y6 o,iQ a0 y5 y6=some o->jj a0 y5 y6 o):=by
 refine jZ.mutual_partial_correctness Pm jj ?_ ?_
 intro _ aH1 a0 r h
 refine ep Tryz.func131 ?_
 refine .d (.d ?_)
 obtain ⟨o2,h,ID⟩:=bd h
 refine .cut (λσ η=>∃y1,y1=o2/\σ=[(3,pI y1)]/\η=[]) ?_ ?_
 refine .d ⟨rfl,rfl,_,rfl,?_⟩
 have aH2:=aH1 _ _ _ _ h
 refine le (jj.rec (motive:=λp17 y5 y6 Fe _=>a0=p17->o2=Fe->aK _ _ [(3,pI y5),(7,sl 4 ae.cells a0.af),(8,pI (a0.af.length:Int)),(9,pI y6)] []) ?_ aH2 rfl rfl) (tk [] ⟨.i,.l,.i,.i,⟨⟩⟩ ⟨⟩)
 intro _ hG9 _ _ p17 y5 y6 Fe h ih7  amS aa9
 subst amS
 subst aa9
 refine aK.round (.d (.d (sD h (λlS h=>?_) (λlS h=>?_))))
 exact .d (.d (bk h λDN vX h=>⟨bf vX,_,(aU vX).trans (ae.aO DN),rfl,_,_,rfl,aj,rfl,_,rfl,(bk h λml xu h=>(b8 (hG9 _ _ xu) (lg (ih7 _ _ _ _ h rfl rfl) (tk [] ⟨.i,.l,.i,.i,⟨⟩⟩ ⟨⟩))))⟩))
 exact aMM
 exact aMe
 exact aMv
theorem FK {a0:ae} {r:Int} (h:jZ a0=some r):sg4 131 a0 r:=BM.1 a0 r h
mutual
def jq (a0:ae):Option (Int):=
 (
 hU a0 0 0
 :Option (Int))>>=λy1=>
 some (bm (y1+1))
partial_fixpoint
def hU (a0:ae) (y5:Int) (y6:Int):Option (Int):=
 (if y6<(a0.af.length:Int) then
 idx a0.af y6>>=λDN=>
 jq DN>>=λml=>
 m93 y5 ml>>=λyq=>
 hU a0 yq (bm (y6+1))
 else
 some y5)
partial_fixpoint
end
def Po (a0:ae) (r:Int):Prop:=sg4 132 a0 r
inductive iz:ae->Int->Int->(Int)->Prop
 | mk (aCq:ae->Option (Int)) (aIV:∀a0 r,aCq a0=some r->Po a0 r) (qC:ae->Int->Int->Option (Int)) (ML:∀a0 y5 y6 o,qC a0 y5 y6=some o->iz a0 y5 y6 o) (a0:ae) (y5:Int) (y6:Int) (o:Int) (h:(
 (if y6<(a0.af.length:Int) then
 idx a0.af y6>>=λDN=>
 aCq DN>>=λml=>
 m93 y5 ml>>=λyq=>
 qC a0 yq (bm (y6+1))
 else
 some y5)
 )=some o):iz a0 y5 y6 o
theorem Ap:(∀a0 r,jq a0=some r->Po a0 r)/\(∀a0 y5 y6 o,hU a0 y5 y6=some o->iz a0 y5 y6 o):=by
 refine jq.mutual_partial_correctness Po iz ?_ ?_
 intro _ amP a0 r h
 refine ep Tryz.func132 ?_
 refine .d (.d ?_)
 obtain ⟨o2,h,ID⟩:=bd h
 refine .cut (λσ η=>∃y1,y1=o2/\σ=[(3,pI y1)]/\η=[]) ?_ ?_
 refine .d ⟨rfl,rfl,_,rfl,?_⟩
 have amQ:=amP _ _ _ _ h
 refine le (iz.rec (motive:=λp19 y5 y6 JC _=>a0=p19->o2=JC->aK _ _ [(3,pI y5),(7,sl 4 ae.cells a0.af),(8,pI (a0.af.length:Int)),(9,pI y6)] []) ?_ amQ rfl rfl) (tk [] ⟨.i,.l,.i,.i,⟨⟩⟩ ⟨⟩)
 intro _ hG9 _ _ p19 y5 y6 JC h ih7  Pl amR
 subst Pl
 subst amR
 refine aK.round (.d (.d (sD h (λlS h=>?_) (λlS h=>?_))))
 exact .d (.d (bk h λDN vX h=>⟨bf vX,_,(aU vX).trans (ae.aO DN),rfl,_,_,rfl,aj,rfl,_,rfl,(bk h λml xu h=>(b8 (hG9 _ _ xu) (bk h λyq Ir h=>(b8 (aHV Ir) (lg (ih7 _ _ _ _ h rfl rfl) (tk [] ⟨.i,.l,.i,.i,⟨⟩⟩ ⟨⟩))))))⟩))
 exact aMM
 exact aMe
 exact aMv
theorem DP {a0:ae} {r:Int} (h:jq a0=some r):sg4 132 a0 r:=Ap.1 a0 r h
mutual
def kL (a0:ae) (a1:Int):Option (Int):=
 (
 jz a0 (bm (a1 - 1)) 0
 :Option (Int))>>=λy1=>
 some y1
partial_fixpoint
def jz (a0:ae) (y5:Int) (y6:Int):Option (Int):=
 (if y6<(a0.af.length:Int) then
 (if y5>=0 then
 idx a0.af y6>>=λx12=>
 kL x12 y5>>=λwV=>
 jz a0 wV (bm (y6+1))
 else
 some y5)
 else
 some y5)
partial_fixpoint
end
def Pp (a0:ae) (a1:Int) (r:Int):Prop:=sg7 145 a0 a1 r
inductive jL:ae->Int->Int->(Int)->Prop
 | mk (aCr:ae->Int->Option (Int)) (aIW:∀a0 a1 r,aCr a0 a1=some r->Pp a0 a1 r) (tb:ae->Int->Int->Option (Int)) (Rm:∀a0 y5 y6 o,tb a0 y5 y6=some o->jL a0 y5 y6 o) (a0:ae) (y5:Int) (y6:Int) (o:Int) (h:(
 (if y6<(a0.af.length:Int) then
 (if y5>=0 then
 idx a0.af y6>>=λx12=>
 aCr x12 y5>>=λwV=>
 tb a0 wV (bm (y6+1))
 else
 some y5)
 else
 some y5)
 )=some o):jL a0 y5 y6 o
theorem DQ:(∀a0 a1 r,kL a0 a1=some r->Pp a0 a1 r)/\(∀a0 y5 y6 o,jz a0 y5 y6=some o->jL a0 y5 y6 o):=by
 refine kL.mutual_partial_correctness Pp jL ?_ ?_
 intro _ aH3 a0 a1 r h
 refine ep Tryz.func145 ?_
 refine .d (.d ?_)
 obtain ⟨o2,h,ID⟩:=bd h
 refine .cut (λσ η=>∃y1,y1=o2/\σ=[(1,pI y1)]/\η=[]) ?_ ?_
 refine .d ?_
 have aH4:=aH3 _ _ _ _ h
 refine le (jL.rec (motive:=λp18 y5 y6 Qf _=>a0=p18->o2=Qf->aK _ _ [(1,pI y5),(2,.aA 0 0 0 0),(5,pI y6)] [.row 0 4 1 29 (λ_=>a0.lit)]) ?_ aH4 rfl rfl) (tk [0] ⟨.i,.p,.i,⟨⟩⟩ gx)
 intro _ hG9 _ _ p18 y5 y6 Qf h ih7  amT aaV
 subst amT
 subst aaV
 refine aK.round (.d (.d ⟨rfl,rfl,_,rfl,(sD h (λlS h=>?_) (λlS h=>?_))⟩))
 refine .t (.t (sD h (λqR h=>?_) (λqR h=>?_)))
 exact .d ⟨rfl,rfl,_,rfl,(bk h λx12 LL h=>⟨bf LL,_,(aU LL).trans (ae.aO x12),(bk h λwV H6 h=>(b8 (hG9 _ _ _ H6) (lg (ih7 _ _ _ _ h rfl rfl) (tk [0] ⟨.i,.p,.i,⟨⟩⟩ gx))))⟩)⟩
 exact aMM
 exact .f (.f (.f (ct ⟨_,si h,rfl,rfl⟩ (tk [] Al ⟨⟩))))
 exact aMe
 exact aMv
theorem IE {a0:ae} {a1:Int} {r:Int} (h:kL a0 a1=some r):sg7 145 a0 a1 r:=DQ.1 a0 a1 r h
def lU (a0:ae):Option (Bool):=
 jZ a0>>=λv1=>
 (if v1<=600 then
 jq a0>>=λv4=>
 some (decide (v4<=30))
 else
 some false)
theorem Ch {a0:ae} {r:Bool} (h:lU a0=some r):Hk 66 a0 r:=by
 refine ep Tryz.func66 ?_
 unfold lU at h
 refine .d (.d ⟨rfl,_,rfl,(bk h λv1 tu h=>(b8 (FK tu) (sD h (λzA h=>?_) (λzA h=>?_))))⟩)
 exact ⟨rfl,_,rfl,(.t (bk h λv4 Ni h=>(b8 (DP Ni) (.t (.t (eB h))))))⟩
 exact aMS
def mS (a0:ae):Option (Bool):=
 kL a0 600>>=λv1=>
 (if v1>=0 then
 jo a0>>=λv4=>
 some (decide (v4<=30))
 else
 some false)
theorem ER {a0:ae} {r:Bool} (h:mS a0=some r):Hk 74 a0 r:=by
 refine ep Tryz.func74 ?_
 unfold mS at h
 refine .d (.d ⟨rfl,_,rfl,(bk h λv1 tu h=>(b8 (IE tu) (sD h (λzA h=>?_) (λzA h=>?_))))⟩)
 exact ⟨rfl,_,rfl,(.t (bk h λv4 Ni h=>(b8 (DO Ni) (.t (.t (eB h))))))⟩
 exact aMS
end Go.Am
