/- Texts of the proof, joined and shortened. -/
import Derived.Test.YtpokcbjeloeoiaaGreatDoorPk0
import Derived.WalkLawsBesides
set_option linter.unusedVariables false
set_option linter.unusedSimpArgs false
namespace Go.Am
open Go Go.RowKit
def FG:TypeDesc->Bool
 | .struct _=>true
 | .array _ _=>true
 | _=>false
def kN (P:Program):Nat->List Field->List PV->Bool
 | _,[],[]=>true
 | n,f::r,.int k _::z=>f.name != "_" &&Nat.beq f.offset n&&(match P.underlying f.type with | some (.int a)=>tR k a | _=>false)&&kN P (n+1) r z
 | n,f::r,.bool _::z=>f.name != "_" &&Nat.beq f.offset n&&(match P.underlying f.type with | some .bool=>true | _=>false)&&kN P (n+1) r z
 | n,f::r,.str _::z=>f.name != "_" &&Nat.beq f.offset n&&(match P.underlying f.type with | some .string=>true | _=>false)&&kN P (n+1) r z
 | _,_,_=>false
def Lf (P:Program) (t:Nat) (z:List PV):Bool:=match P.underlying t with
 | some (.struct fs)=>!(P.stoodInHeld t)&&!(P.eqGuardType P.depth t)&&kN P 0 fs.toList z
 | _=>false
structure e9 (P:Program) (T:sf):Prop where
 flat:∀t sz fl z,T.get t=.struct sz fl z->C4 z=true->Lf P t z=true
 int:∀t k,T.get t=.int k->P.underlying t=some (.int k)
 bool:∀t,T.get t=.bool->P.underlying t=some .bool
 str:∀t,T.get t=.str->P.underlying t=some .string
 ptr:∀t e,T.get t=.ptr e->P.underlying t=some (.pointer e)
 slice:∀t e sz by' z,T.get t=.slice e sz by' z->P.underlying t=some (.slice e)/\0<sz/\∃i zv,P.info? e=some i/\i.size=sz/\i.bytes=by'/\i.zero=some zv/\zv.cells.size=sz/\z.length=sz/\
  ∀(j:Nat) (u:Value),zv.cells[j]? =some u->∃pv:PV,z[j]? =some pv/\u.oneCell'=true/\∀S w,ba S w pv u
 map:∀t k e z,T.get t=.map k e z->P.underlying t=some (.map k e)/\∃i zv,P.info? e=some i/\i.zero=some zv/\tT z zv/\lG z=true/\storable z=true
 bytes:∀t e sz by' z,T.get t=.slice e sz by' z->0<by'
 one:∀t,mR (T.get t)=1->(∀sz fl z,T.get t≠.struct sz fl z)->∃i,P.info? t=some i/\i.size=1
 zero:∀t z,FH (T.get t)=some z->∃i zv,P.info? t=some i/\i.zero=some zv/\zv.cells.size=mR (T.get t)/\z.length=mR (T.get t)/\
  ∀(j:Nat) (u:Value),zv.cells[j]? =some u->∃pv:PV,z[j]? =some pv/\u.oneCell'=true/\∀S w,ba S w pv u
 struct:∀t sz fl z,T.get t=.struct sz fl z->∃fs i,P.underlying t=some (.struct fs)/\P.info? t=some i/\i.size=sz/\fl.length=fs.size/\
  (∃zv,i.zero=some zv/\zv.cells.size=sz/\z.length=sz/\∀(j:Nat) (u:Value),zv.cells[j]? =some u->∃pv:PV,z[j]? =some pv/\u.oneCell'=true/\∀S w,ba S w pv u)/\
  ∀(k:Nat) (off size:Nat) (ag:Bool),fl[k]? =some (off,size,ag)->∃f j d,fs[k]? =some f/\f.offset=off/\P.info? f.type=some j/\j.size=size/\0<size/\
   P.underlying f.type=some d/\ag=FG d
section
variable {P:Program}{T:sf}{μ:Mu}{h:List aq}{S:Nat->Prop}{w:World}
theorem cj.mJ {k:IntKind} {n:Int} {v:Value} (hv:cj μ h S w (.int k n) v):v=.int k n:=by
 have hv:ba S w (.int k n) v:=hv;cases hv;rfl
theorem cj.oW {b:Bool} {v:Value} (hv:cj μ h S w (.bool b) v):v=.bool b:=by
 have hv:ba S w (.bool b) v:=hv;cases hv;rfl
theorem cj.oX {s:List UInt8} {v:Value} (hv:cj μ h S w (.str s) v):v=.string ⟨⟨s⟩⟩:=by
 have hv:ba S w (.str s) v:=hv;cases hv;rfl
theorem cj.sg {v:Value} (hv:cj μ h S w .ck v):v=.slice none 0 0:=by
 have hv:ba S w .ck v:=hv;cases hv;rfl
theorem cj.ac0 {f:Nat} {v:Value} (hv:cj μ h S w (.fn f) v):v=.func (.func f) #[] #[]:=by
 have hv:ba S w (.fn f) v:=hv;cases hv;rfl
theorem cj.yj {sz n:Nat} {f:Nat->List PV} {v:Value} (hv:cj μ h S w (.iT sz n f) v):
  (∃a c,v=.slice a n c/\n=0)\/∃(b off c:Nat) (d:Nat->Nat->Value),v=.slice (some ⟨b,off,none⟩) n c/\S b/\(∀i,i<n->(f i).length=sz)/\n<=c/\
   (∀(i j:Nat) (pv:PV),i<n->(f i)[j]? =some pv->w.cell? ⟨b,off+i*sz+j,none⟩=some (d i j))/\(∀(i j:Nat) (pv:PV),i<n->(f i)[j]? =some pv->ba S w pv (d i j)):=by
 have hv:ba S w (.iT sz n f) v:=hv;cases hv with
 | uE _ _ a c=>exact .inl ⟨a,c,rfl,rfl⟩
 | iT _ _ _ b off c d h1 h2 e h4 g=>exact .inr ⟨b,off,c,d,rfl,h1,h2,e,h4,g⟩
theorem cj.Bd {cs:List PV} {v:Value} (hv:cj μ h S w (.ia cs) v):
  ∃(b off:Nat) (a:Nat->Value),v=.pointer (some ⟨b,off,none⟩)/\S b/\(∀(j:Nat) (pv:PV),cs[j]? =some pv->w.cell? ⟨b,off+j,none⟩=some (a j))/\(∀(j:Nat) (pv:PV),cs[j]? =some pv->ba S w pv (a j)):=by
 have hv:ba S w (.ia cs) v:=hv;cases hv with
 | ia _ b off a h1 h4 c=>exact⟨b,off,a,rfl,h1,h4,c⟩
theorem ac1 {v:Value} {p:PV} (h:ao0 v=some p):ba S w p v:=by
 cases v with
 | int k n=>cases h;exact ba.int k n
 | bool b=>cases h;exact ba.bool b
 | string s=>
  obtain⟨⟨l⟩⟩:=s;cases h;exact ba.str l
 | slice a n c=>
  cases a with
  | none=>
   cases n with
   | zero=>
    cases c with
    | zero=>cases h;exact ba.ck
    | succ c=>cases h
   | succ n=>cases h
  | some a=>cases h
 | pointer a=>
  cases a with
  | none=>cases h;exact ba.jS
  | some a=>cases h
 | _=>cases h
theorem Od:∀{vs:List Value} {l:List PV},Wu vs=some l->vs.length=l.length/\∀(j:Nat) (pv:PV),l[j]? =some pv->∃u,vs[j]? =some u/\ba S w pv u
 | [],l,h=>by
  cases h;exact⟨rfl,λj pv hj=>by simp at hj⟩
 | v::r,l,h=>by
  unfold Wu at h;cases h1:ao0 v with
  | none=>rw[h1]at h;cases h
  | some p=>
   cases h2:Wu r with
   | none=>rw[h1,h2]at h;cases h
   | some q=>
    rw[h1,h2]at h;cases h;obtain⟨q1,q2⟩:=Od h2;refine⟨by simp [q1],λj pv hj=>?_⟩;cases j with
    | zero=>simp at hj;subst hj;exact⟨v,rfl,ac1 h1⟩
    | succ j=>obtain⟨u,r1,a⟩:=q2 j pv aRZ;exact⟨u,by simpa using r1,a⟩
theorem Oe (v:Value):cj μ h S w (ofValue v) v:=by
 cases v with
 | int k n=>exact ba.int k n
 | bool b=>exact ba.bool b
 | string s=>
  obtain⟨⟨l⟩⟩:=s;exact ba.str l
 | slice a n c=>
  cases a with
  | none=>
   cases n with
   | zero=>
    cases c with
    | zero=>exact ba.ck
    | succ c=>trivial
   | succ n=>trivial
  | some a=>trivial
 | pointer a=>
  cases a with
  | none=>exact ba.jS
  | some a=>trivial
 | agg vs=>
  simp only[ofValue];cases d:Wu vs.toList with
  | none=>trivial
  | some l=>
   obtain⟨q1,q2⟩:=Od (S:=S) (w:=w) d;exact⟨vs,rfl,by simpa using q1,λj pv hj=>by obtain⟨u,r1,e⟩:=q2 j pv hj;exact⟨u,by simpa using r1,cV.mK e⟩⟩
 | _=>trivial
theorem dk {env:Env} {a:Act} (b:∀t,cj μ h S w (env t) (a.tmps.getD t undef)) (x:Operand):cj μ h S w (ev env x) (a.eval x):=by
 cases x with
 | tmp t=>exact b t
 | const v=>exact Oe v
 | global g=>trivial
 | func f=>exact ba.fn f
def fx (P:Program) (o:Oper) (a:Act) (μ:Mu) (h:List aq) (S:Nat->Prop) (w:World) (K:PV->Prop):Prop:=
 ∃v val,K v/\cj μ h S w v val/\∀w',dt w w'->(execOp a.eval o).run P w'=.ok (.value val) w'
theorem fx.mk {o:Oper} {a:Act} {K:PV->Prop} {v:PV} {val:Value} (b:K v) (hv:cj μ h S w v val) (c:∀w',dt w w'->(execOp a.eval o).run P w'=.ok (.value val) w'):fx P o a μ h S w K:=⟨v,val,b,hv,c⟩
variable {a:Act}{env:Env}{K:PV->Prop}{dst:Option Tmp}{ty:TypeId}{pos:String}{after:Array Edge}{guard:Option (Nat×Bool)}
theorem C5 {s:Sem Value} {w' a:World} {val:Value} (hs:s.run P w'=.ok val a):(do pure (Next.value (<-s)):Sem Next).run P w'=.ok (.value val) a:=by
 simp [hs]
theorem toList_mk (l:List UInt8):(ByteArray.mk ⟨l⟩).toList=l:=by
 have h:(ByteArray.mk ⟨l⟩).toList=(ByteArray.mk ⟨l⟩).data.toList:=by simp
 rw[h]
theorem Ul {a:BinOp} {t:TypeId} {x y:Operand} {u b val:Value} {w':World} (hg:eqGuard a t x y u b=pure ()) (c:(binOp a t u b).run P w'=.ok val w'):
  (do eqGuard a t x y u b;binOp a t u b:Sem Value).run P w'=.ok val w':=by
 rw[hg];simp [c]
theorem vy {P:Program} {t:TypeId} {d:TypeDesc} (hu:P.underlying t=some d) (hd:FG d=false) (cs:Array Value) (off:Nat) (v:Value) (hc:cs[off]? =some v) (w:World):(part t cs off).run P w=.ok v w:=by
 have:(isAgg t).run P w=.ok false w:=by
  unfold isAgg;simp only[Sem.run_bind,run_underlying hu,Result.andThen];cases d<;>first | rfl | cases hd
 simp [part,this,hc]
theorem dA {g q:Bool} {o:Option Bool} {b:Bool} (h:Og g q o=some b):g=true/\∃c,o=some c/\b=(q&&c):=by
 cases o with
 | none=>cases h
 | some c=>cases g with
  | true=>exact⟨rfl,c,rfl,(aOY h).symm⟩
  | false=>cases h
theorem tU {P:Program} {μ:Mu} {h:List aq} {S:Nat->Prop} {w w':World} {xs p:Array Value} (d:Nat):∀(fs:List Field) (z e m:List PV) (n:Nat) (b:Bool),kN P n fs z=true->
  (∀(j:Nat) (pv:PV),e[j]? =some pv->∃u,xs[n+j]? =some u/\cV μ h S w pv u)->(∀(j:Nat) (pv:PV),m[j]? =some pv->∃u,p[n+j]? =some u/\cV μ h S w pv u)->
  Je z e m=some b->(Op.eqFields (d+1) xs p fs).run P w'=.ok b w'
 | [],z,e,m,n,b,hf,_,_,hk=>by
  cases z with
  | nil=>
   cases e with
   | nil=>cases m with
    | nil=>cases hk;rfl
    | cons _ _=>cases hk
   | cons _ _=>cases hk
  | cons _ _=>simp [kN]at hf
 | f::fs,z,e,m,n,b,hf,hx,hy,hk=>by
  have go:∀(c1 c2:PV) (s t:Value) (q c:Bool) (dd:TypeDesc) (z r i:List PV),e=c1::r->m=c2::i->(∀u,cV μ h S w c1 u->u=s)->(∀u,cV μ h S w c2 u->u=t)->f.name≠ "_" ->f.offset=n->P.underlying f.type=some dd->FG dd=false->
    (Op.equalIn (d+1) f.type s t).run P w'=.ok q w'->kN P (n+1) fs z=true->Je z r i=some c->(Op.eqFields (d+1) xs p (f::fs)).run P w'=.ok (q&&c) w':=by
   intro c1 c2 s t q c dd z r i E e2 F v G o hu hd H x I;subst E e2;obtain⟨B,J,y⟩:=hx 0 c1 rfl;obtain⟨C,K,A⟩:=hy 0 c2 rfl;obtain rfl:=F B y;obtain rfl:=v C A
   have L:=tU (w':=w') d fs z r i (n+1) c x (λj pv hj=>by
     obtain⟨u,q1,q2⟩:=hx (j+1) pv aRZ;exact⟨u,by rw[<-q1];congr 1;omega,q2⟩) (λj pv hj=>by
     obtain⟨u,q1,q2⟩:=hy (j+1) pv aRZ;exact⟨u,by rw[<-q1];congr 1;omega,q2⟩) I
   have M:=vy hu hd xs f.offset B (by rw[o];exact J) w';have N:=vy hu hd p f.offset C (by rw[o];exact K) w';unfold Op.eqFields;rw[An G];simp only[Sem.run_bind,M,N,H,Result.andThen_ok];cases q with
   | true=>simpa using L
   | false=>simp
  unfold Je at hk;split at hk
  ·simp [kN]at hf
  ·rename_i k D z k1 a r O g i;simp only[kN,As,aQj]at hf;obtain⟨⟨⟨h1,h2⟩,l⟩,h4⟩:=hf;have h2:=abL h2;obtain⟨hg,c,hc,rfl⟩:=dA hk;simp only[As]at hg;obtain rfl:=gy hg.1;obtain rfl:=gy hg.2;split at l
   ·rename_i Q hu;exact go _ _ (.int k a) (.int k g) (a==g) c _ z r i rfl rfl (λu hu=>by have hu:ba S w (.int k a) u:=hu;cases hu;rfl) (λu hu=>by have hu:ba S w (.int k g) u:=hu;cases hu;rfl) h1 h2 hu rfl (run_equalIn_int w' d _ _ _ _ _ hu) h4 hc
   ·cases l
  ·rename_i D z a r g i;simp only[kN,As,aQj]at hf;obtain⟨⟨⟨h1,h2⟩,l⟩,h4⟩:=hf;have h2:=abL h2;obtain⟨hg,c,hc,rfl⟩:=dA hk;split at l
   ·rename_i hu;exact go _ _ (.bool a) (.bool g) (a==g) c _ z r i rfl rfl (λu hu=>by have hu:ba S w (.bool a) u:=hu;cases hu;rfl) (λu hu=>by have hu:ba S w (.bool g) u:=hu;cases hu;rfl) h1 h2 hu rfl (run_equalIn_bool w' d _ _ _ hu) h4 hc
   ·cases l
  ·rename_i D z a r g i;simp only[kN,As,aQj]at hf;obtain⟨⟨⟨h1,h2⟩,l⟩,h4⟩:=hf;have h2:=abL h2;obtain⟨hg,c,hc,rfl⟩:=dA hk;split at l
   ·rename_i hu
    exact go _ _ (.string ⟨⟨a⟩⟩) (.string ⟨⟨g⟩⟩) (a==g) c _ z r i rfl rfl (λu hu=>by have hu:ba S w (.str a) u:=hu;cases hu;rfl) (λu hu=>by have hu:ba S w (.str g) u:=hu;cases hu;rfl) h1 h2 hu rfl (by
     rw[run_equalIn_string w' d _ _ _ hu,toList_mk,toList_mk]) h4 hc
   ·cases l
  ·cases hk
theorem Ww (o:e9 P T) (d:BinOp) (t p:TypeId) (x y:Operand) (A B:PV) (hx:cj μ h S w A (a.eval x)) (hy:cj μ h S w B (a.eval y)) (hp:Wx (T.get t) d A B K):
  fx P ⟨dst,.binOp d t x y p,ty,pos,after,guard⟩ a μ h S w K:=by
 have key:∀(v:PV) (val:Value),K v->cj μ h S w v val->eqGuard d t x y (a.eval x) (a.eval y)=pure ()->(∀w',(binOp d t (a.eval x) (a.eval y)).run P w'=.ok val w')->
   fx P ⟨dst,.binOp d t x y p,ty,pos,after,guard⟩ a μ h S w K:=λv val e hv hg q=>.mk e hv λw' _=>C5 (Ul hg (q w'))
 unfold Wx at hp;split at hp
 ·rename_i k n M C;have ex:=hx.mJ;have c:=hy.mJ;have hg:eqGuard d t x y (a.eval x) (a.eval y)=pure ():=by rw[ex];apply eqGuard_at_int
  cases d<;>simp only at hp
  case shl=>
   have h0:¬C<0:=by omega
   exact key _ _ hp.2 (ba.int _ _) hg λw'=>by rw[ex,c,binOp_shl];simp only[Op.shift,mg h0];rfl
  case shr=>
   have h0:¬C<0:=by omega
   exact key _ _ hp.2 (ba.int _ _) hg λw'=>by rw[ex,c,binOp_shr];simp only[Op.shift,mg h0];rfl
  all_goals
   replace hp:=bW hp;obtain⟨hk,hp⟩:=hp;obtain rfl:=gy hk
  case and=>exact key _ _ hp (ba.int _ _) hg λw'=>by rw[ex,c,binOp_and,intBits_and];rfl
  case or=>exact key _ _ hp (ba.int _ _) hg λw'=>by rw[ex,c,binOp_or,intBits_or];rfl
  case xor=>exact key _ _ hp (ba.int _ _) hg λw'=>by rw[ex,c,binOp_xor,intBits_xor];rfl
  case andNot=>exact key _ _ hp (ba.int _ _) hg λw'=>by rw[ex,c,binOp_andNot,intBits_andNot];rfl
  case add=>exact key _ _ hp (ba.int _ _) hg λw'=>by rw[ex,c,binOp_add];rfl
  case sub=>exact key _ _ hp (ba.int _ _) hg λw'=>by rw[ex,c,binOp_sub];rfl
  case mul=>exact key _ _ hp (ba.int _ _) hg λw'=>by rw[ex,c,binOp_mul];rfl
  case quo=>exact key _ _ hp.2 (ba.int _ _) hg λw'=>by rw[ex,c,binOp_quo];simp [Op.intDiv,hp.1]
  case rem=>exact key _ _ hp.2 (ba.int _ _) hg λw'=>by rw[ex,c,binOp_rem];simp [Op.intDiv,hp.1]
  case eql=>exact key _ _ hp (ba.bool _) hg λw'=>by rw[ex,c,binOp_eql];rfl
  case neq=>exact key _ _ hp (ba.bool _) hg λw'=>by rw[ex,c,binOp_neq];rfl
  case lss=>exact key _ _ hp (ba.bool _) hg λw'=>by rw[ex,c,binOp_lss];rfl
  case leq=>exact key _ _ hp (ba.bool _) hg λw'=>by rw[ex,c,binOp_leq];rfl
  case gtr=>exact key _ _ hp (ba.bool _) hg λw'=>by rw[ex,c,binOp_gtr];rfl
  case geq=>exact key _ _ hp (ba.bool _) hg λw'=>by rw[ex,c,binOp_geq];rfl
 ·rename_i b N;have ex:=hx.oW;have c:=hy.oW;have hg:eqGuard d t x y (a.eval x) (a.eval y)=pure ():=by rw[ex];apply eqGuard_at_bool
  split at hp
  ·rename_i f;exact key _ _ hp (ba.bool _) hg λw'=>by rw[ex,c];exact run_eql_bool w' t _ _ (o.bool _ f)
  ·rename_i f;exact key _ _ hp (ba.bool _) hg λw'=>by rw[ex,c];exact run_neq_bool w' t _ _ (o.bool _ f)
  ·exact aRg
 ·rename_i s s';have ex:=hx.oX;have c:=hy.oX;have hg:eqGuard d t x y (a.eval x) (a.eval y)=pure ():=by rw[ex];apply eqGuard_at_string
  cases d<;>simp only at hp
  case add=>
   obtain⟨IG,_,rfl,H⟩:=hp;refine key _ _ H (ba.str _) hg λw'=>?_;rw[ex,c,binOp_string_add]
   have h1:¬(((ByteArray.mk ⟨s⟩).size+(ByteArray.mk ⟨s'⟩).size:Nat):Int)>IntKind.i64.max:=by
    have I:(ByteArray.mk ⟨s⟩).size=s.length:=rfl;have e2:(ByteArray.mk ⟨s'⟩).size=s'.length:=rfl;rw[I,e2,IntKind.max_i64];omega
   simp only[Op.stringOp,mg h1]
   have h2:ByteArray.mk ⟨s⟩++ByteArray.mk ⟨s'⟩=ByteArray.mk ⟨s++s'⟩:=by
    apply ByteArray.ext;simp [ByteArray.data_append]
   rw[h2];rfl
  case eql=>exact key _ _ hp (ba.bool _) hg λw'=>by rw[ex,c,binOp_string_eql,toList_mk,toList_mk];rfl
  case neq=>exact key _ _ hp (ba.bool _) hg λw'=>by rw[ex,c,binOp_string_neq,toList_mk,toList_mk];rfl
  case lss=>exact key _ _ hp (ba.bool _) hg λw'=>by rw[ex,c,binOp_string_lss,toList_mk,toList_mk];rfl
  case leq=>exact key _ _ hp (ba.bool _) hg λw'=>by rw[ex,c,binOp_string_leq,toList_mk,toList_mk];rfl
  case gtr=>exact key _ _ hp (ba.bool _) hg λw'=>by rw[ex,c,binOp_string_gtr,toList_mk,toList_mk];rfl
  case geq=>exact key _ _ hp (ba.bool _) hg λw'=>by rw[ex,c,binOp_string_geq,toList_mk,toList_mk];rfl
  all_goals exact hp.elim
 ·rename_i g D;split at hp
  ·rename_i sz fl z f;replace hp:=bW hp;obtain⟨J,hp⟩:=hp;have i:=o.flat _ _ _ _ f J;unfold Lf at i;split at i
   ·rename_i fs hu;simp only[As,aPe]at i;obtain⟨⟨h1,h2⟩,L⟩:=i;obtain⟨xs,ex,_,r⟩:=hx;obtain⟨m,c,_,u⟩:=hy;have E:P.fieldsOf t=fs:=by simp [Program.fieldsOf,hu]
    have F:∀b,Je z g D=some b->∀w',(Op.equalIn 10000 t (.agg xs) (.agg m)).run P w'=.ok b w':=λb hk w'=>by
     rw[run_equalIn_struct w' 9999 t xs m (by rw[E];exact hu) h1,E];exact tU (μ:=μ) (h:=h) (S:=S) (w:=w) 9998 fs.toList z g D 0 b L (λj pv hj=>by rw[are];exact r j pv hj) (λj pv hj=>by rw[are];exact u j pv hj) hk
    have l:∀(b:Bool),K (.bool b)->(∀w',(binOp d t (.agg xs) (.agg m)).run P w'=.ok (.bool b) w')->fx P ⟨dst,.binOp d t x y p,ty,pos,after,guard⟩ a μ h S w K:=λb e q=>.mk e (ba.bool b) λw' _=>C5 (by
     rw[ex,c];simp [run_eqGuard_agg w' d t x y xs m h2,q w'])
    split at hp
    ·rename_i b G;split at hp
     ·obtain⟨_,rfl,e⟩:=hp;exact l _ e λw'=>by rw[run_eql_struct,F b G w'];rfl
     ·obtain⟨_,rfl,e⟩:=hp;exact l _ e λw'=>by rw[run_neq_struct,F b G w'];rfl
     ·exact aRg
    ·exact aRg
   ·cases i
  ·exact aRg
 ·exact aRg
theorem Be {t:TypeId} {d:TypeDesc} (hu:P.underlying t=some d) (w':World):(isAgg t).run P w'=.ok (FG d) w':=by
 unfold isAgg;simp only[Sem.run_bind,run_underlying hu,Result.andThen];cases d<;>rfl
def ahS (μ:Mu) (h:List aq) (S:Nat->Prop) (w:World) (cells:List PV) (b off:Nat):Prop:=
 ∀(j:Nat) (pv:PV),cells[j]? =some pv->∃u,w.cell? ⟨b,off+j,none⟩=some u/\cV μ h S w pv u
theorem FI (m:e9 P T) (t:Nat) (x:Operand) (cells:List PV) (b off:Nat) (hx:a.eval x=.pointer (some ⟨b,off,none⟩)) (hc:ahS μ h S w cells b off) (hp:Cv T t cells K)
  (p:∀pv u,pv∈cells->cV μ h S w pv u->cj μ h S w pv u):
  fx P ⟨dst,.load t x,ty,pos,after,guard⟩ a μ h S w K:=by
 have key:∀(v:PV) (val:Value),K v->cj μ h S w v val->(∀w',dt w w'->(loadVar t ⟨b,off,none⟩).run P w'=.ok val w')->
   fx P ⟨dst,.load t x,ty,pos,after,guard⟩ a μ h S w K:=λv val n hv q=>.mk n hv λw' o=>by
  refine C5 ?_;rw[hx];simp [Instr.loadAt,Instr.sureAddr,q w' o]
 have one:∀d,P.underlying t=some d->FG d=false->(∃c r,cells=c::r/\K c)->
   fx P ⟨dst,.load t x,ty,pos,after,guard⟩ a μ h S w K:=λd hu hd ⟨c,r,g,n⟩=>by
  obtain⟨u,s,y⟩:=hc 0 c (by rw[g];rfl);refine key c u n (p c u (by rw[g];simp) y) λw' o=>?_;have h0:=o.cell s;rw[aPv]at h0;unfold loadVar;simp only[Sem.run_bind,Be hu,hd,Result.andThen];simp [run_load,h0]
 unfold Cv at hp;split at hp
 ·rename_i sz fl A l;obtain⟨fs,i,hu,hi,B,_⟩:=m.struct _ _ _ _ l;replace hp:=sh _ _ _ hp;obtain⟨hle,n⟩:=hp;simp only[aQq,aOB]at n
  have hf:∃f:Nat->Value,∀(j:Nat) (pv:PV),cells[j]? =some pv->w.cell? ⟨b,off+j,none⟩=some (f j)/\cV μ h S w pv (f j):=by
   refine⟨λj=>(w.cell? ⟨b,off+j,none⟩).getD undef,λj pv hj=>?_⟩;obtain⟨u,h1,h2⟩:=hc j pv hj;simp only[h1,aQr];exact⟨trivial,h2⟩
  obtain⟨f,hf⟩:=hf;refine key _ (.agg ((List.range sz).map f).toArray) n ⟨_,rfl,by simp [Nat.min_eq_left hle],λj pv hj=>?_⟩ λw' o=>?_
  ·rw[aPV]at hj;split at hj
   ·rename_i C;obtain⟨h1,h2⟩:=hf j pv hj;exact⟨f j,by simp [C],h2⟩
   ·cases hj
  ·unfold loadVar;have hd:FG (.struct fs)=true:=rfl;simp only[Sem.run_bind,Be hu,hd,Result.andThen]
   have D:=run_loadCells (P:=P) w' ⟨b,off,none⟩ sz f (λj hj=>by
    rw[Addr.add_lit];have E:j<cells.length:=aOE hj hle;exact o.cell (hf j _ (abF E)).1)
   simp [sizeOf,typeInfo,hi,B,D]
 ·exact aRg
 ·rename_i h1 h2
  have g:∃c r,cells=c::r/\K c:=by
   cases cells with
   | nil=>exact hp.elim
   | cons c r=>exact⟨c,r,rfl,df hp⟩
  cases l:T.get t with
  | int k=>exact one _ (m.int _ _ l) rfl g
  | bool=>exact one _ (m.bool _ l) rfl g
  | str=>exact one _ (m.str _ l) rfl g
  | slice e sz F z=>exact one _ (m.slice _ _ _ _ _ l).1 rfl g
  | struct sz fl A=>exact(h1 _ _ _ l).elim
  | map k e z=>exact one _ (m.map _ _ _ _ l).1 rfl g
  | ptr e=>exact one _ (m.ptr _ _ l) rfl g
  | other=>exact(h2 l).elim
theorem fO {id:Nat} {g sz n:Nat} {e:TypeId} {f:Nat->List PV} (hh:eJ h id=.row g sz n e f):h[id]? =some (aq.row g sz n e f):=by
 unfold eJ at hh;rw[aOp]at hh;cases a:h[id]? with
 | none=>rw[a]at hh;cases hh
 | some o=>rw[a]at hh;simp at hh;rw[hh]
theorem cj.ru {id gen off len:Nat} {v:Value} (hv:cj μ h S w (.own id gen off len) v):bK μ h w id gen off len v:=hv
theorem cj.xw {id gen i off:Nat} {v:Value} (hv:cj μ h S w (.aA id gen i off) v):db μ h w id gen i off v:=hv
theorem cj.Lg {id:Nat} {v:Value} (hv:cj μ h S w (.qc id) v):ik μ h w id v:=hv
theorem FJ (p:dB μ h S w) {id g sz n:Nat} {e:TypeId} {f:Nat->List PV} {v:Value} (hh:h[id]? =some (aq.row g sz n e f)) (a:ik μ h w id v):
  ∃b base es c,μ id=some (b,base)/\v=.map (some b)/\w.heap[b]? =some (.map es c)/\es.size=n/\
   ∀i,i<n->∃(d j:PV) (en:MapEntry),f i=[d,j]/\lG d=true/\lG j=true/\es[i]? =some en/\tT d en.key/\tT j en.val:=by
 unfold ik at a;rw[hh]at a;obtain⟨_,b,base,k,⟨es,c,l⟩,rfl⟩:=a;obtain⟨_,m⟩:=p id g sz n e f hh;rw[k]at m;obtain⟨o,h1,h2⟩:=m;obtain rfl:=aOY (l.symm.trans h1);exact⟨b,base,es,c,k,rfl,l,h2.1,h2.2⟩
theorem Bf:∀(z xs a:List PV) (b:Bool),Je z xs a=some b->∀(j:Nat) (pv:PV),a[j]? =some pv->∀u,wq pv u->cV μ h S w pv u
 | z,xs,a,b,hk,j,pv,hj,u,hu=>by
  unfold Je at hk;split at hk
  ·simp at hj
  ·obtain⟨_,c,hc,_⟩:=dA hk;cases j with
   | zero=>simp at hj;subst hj;have hu:u=_:=hu;subst hu;exact ba.int _ _
   | succ j=>exact Bf _ _ _ c hc j pv aRZ u hu
  ·obtain⟨_,c,hc,_⟩:=dA hk;cases j with
   | zero=>simp at hj;subst hj;have hu:u=_:=hu;subst hu;exact ba.bool _
   | succ j=>exact Bf _ _ _ c hc j pv aRZ u hu
  ·obtain⟨_,c,hc,_⟩:=dA hk;cases j with
   | zero=>simp at hj;subst hj;have hu:u=_:=hu;subst hu;exact ba.str _
   | succ j=>exact Bf _ _ _ c hc j pv aRZ u hu
  ·cases hk
theorem Eb:∀(z xs a:List PV) (b:Bool),Je z xs a=some b->xs.length=z.length
 | z,xs,a,b,hk=>by
  unfold Je at hk;split at hk
  ·rfl
  ·obtain⟨_,c,hc,_⟩:=dA hk;simp [Eb _ _ _ c hc]
  ·obtain⟨_,c,hc,_⟩:=dA hk;simp [Eb _ _ _ c hc]
  ·obtain⟨_,c,hc,_⟩:=dA hk;simp [Eb _ _ _ c hc]
  ·cases hk
theorem Sh {kt:TypeId} {fs:Array Field} {z xs:List PV} {a:Array Value} (hu:P.underlying kt=some (.struct fs)) (hf:kN P 0 fs.toList z=true)
  (hx:∀(j:Nat) (pv:PV),xs[j]? =some pv->∃u,a[j]? =some u/\cV μ h S w pv u) (l:xs.length=z.length) (em:Bool) (w':World):(Instr.checkKey em 10000 kt (.agg a)).run P w'=.ok () w':=by
 rw[show 10000=9999+1 from rfl,Instr.checkKey];simp only[Sem.run_bind,run_underlying hu,Result.andThen_ok];rw[<-Array.forIn_toList];replace hx:∀(j:Nat) (pv:PV),xs[j]? =some pv->∃u,a[0+j]? =some u/\cV μ h S w pv u:=λj pv hj=>by rw[are];exact hx j pv hj
 generalize(0:Nat)=n at hf hx;generalize fs.toList=L at hf;clear hu;induction L generalizing n z xs with
 | nil=>simp
 | cons f L m=>
  cases z with
  | nil=>simp [kN]at hf
  | cons c z=>
   cases xs with
   | nil=>simp at l
   | cons p xs=>
    have g:kN P (n+1) L z=true->(∀(j:Nat) (pv:PV),xs[j]? =some pv->∃u,a[n+1+j]? =some u/\cV μ h S w pv u):=λ_ j pv hj=>by
     obtain⟨u,q1,q2⟩:=hx (j+1) pv aRZ;exact⟨u,by rw[<-q1];congr 1;omega,q2⟩
    obtain⟨u,o,_⟩:=hx 0 p rfl
    have key:∃d,P.underlying f.type=some d/\FG d=false/\f.name≠ "_" /\f.offset=n/\kN P (n+1) L z=true/\∀u,(Instr.checkKey em 9999 f.type u).run P w'=.ok () w':=by
     cases c with
     | int k v=>
      simp only[kN,As,aQj]at hf;obtain⟨⟨⟨h1,h2⟩,b⟩,h4⟩:=hf;split at b
      ·rename_i x hu;exact aRl
      ·cases b
     | bool y=>
      simp only[kN,As,aQj]at hf;obtain⟨⟨⟨h1,h2⟩,b⟩,h4⟩:=hf;split at b
      ·rename_i hu;exact aRl
      ·cases b
     | str A=>
      simp only[kN,As,aQj]at hf;obtain⟨⟨⟨h1,h2⟩,b⟩,h4⟩:=hf;split at b
      ·rename_i hu;exact aRl
      ·cases b
     | _=>simp [kN]at hf
    obtain⟨d,hu,hd,q,r,e,i⟩:=key;have s:=vy hu hd a f.offset u (by rw[r];exact o) w';have t:=i u;simp only[List.forIn_cons,Sem.run_bind,q,ne_eq,not_false_eq_true,aOw,Result.andThen_ok,s,t,Sem.run_pure];exact m (by simpa using l) (n+1) (g e) e
def xx (P:Program) (kt:TypeId) (d:TypeDesc) (s:Bool) (key a:Value) (q:Bool):Prop:=
 match s with
 | false=>Instr.sameNow d key a=some q
 | true=>Instr.sameNow d key a=none/\∀w',(Op.equal kt key a).run P w'=.ok q w'
theorem Uo (t:e9 P T) {kt:Nat} {b:PV} {key:Value} {A:Bool} (g:cj μ h S w b key) (h0:mj (T.get kt) b b=some A):
  ∃d s,P.underlying kt=some d/\(∀(em:Bool) (w':World),(Instr.checkKey em 10000 kt key).run P w'=.ok () w')/\∀(e:PV) (f:Value) (q:Bool),tT e f->mj (T.get kt) b e=some q->xx P kt d s key f q:=by
 cases i:T.get kt with
 | int k=>
  rw[i]at h0;cases b<;>simp only[mj]at h0<;>try cases h0
  rename_i k1 x;have hu:=t.int _ _ i;obtain⟨l,_⟩:=dA h0;simp only[As]at l;obtain rfl:=gy l.1;obtain rfl:=g.mJ;refine⟨_,false,hu,λem w'=>by rw[show 10000=9999+1 from rfl,Instr.checkKey];simp [run_underlying hu],λe f q hs a=>?_⟩;cases e<;>simp only[mj]at a<;>try cases a
  rename_i F v;obtain⟨hg,c,hc,rfl⟩:=dA a;injection hc with hc;subst hc;simp only[As]at hg;obtain rfl:=gy hg.2;obtain rfl:f=_:=hs;simp [xx,Instr.sameNow]
 | str=>
  rw[i]at h0;cases b<;>simp only[mj]at h0<;>try cases h0
  rename_i x;have hu:=t.str _ i;obtain rfl:=g.oX;refine⟨_,false,hu,λem w'=>by rw[show 10000=9999+1 from rfl,Instr.checkKey];simp [run_underlying hu],λe f q hs a=>?_⟩;cases e<;>simp only[mj]at a<;>try cases a
  obtain rfl:f=_:=hs;rename_i v;simp only[xx,Instr.sameNow];congr 1;show((Array.mk x)==(Array.mk v))=(x==v);rw[aPG,aOm,aOm,Array.mk.injEq]
 | struct sz fl z=>
  rw[i]at h0;cases b<;>simp only[mj]at h0<;>try cases h0
  rename_i xs;split at h0
  ·rename_i B;have m:=t.flat _ _ _ _ i B;unfold Lf at m;split at m
   ·rename_i fs hu;simp only[As,aPe]at m;obtain⟨⟨h1,h2⟩,C⟩:=m;obtain⟨n,ex,_,o⟩:=(show ky μ h S w (.agg xs) key from g);subst ex;have D:P.fieldsOf kt=fs:=by simp [Program.fieldsOf,hu]
    refine⟨_,true,hu,λem w'=>Sh hu C o (Eb z xs xs A h0) em w',λe f q hs a=>?_⟩;cases e<;>simp only[mj,B]at a<;>try cases a
    rename_i r;obtain⟨p,rfl,_,y⟩:=(show ∃vs:Array Value,f=.agg vs/\vs.size=r.length/\∀(j:Nat) (pv:PV),r[j]? =some pv->∃u:Value,vs[j]? =some u/\wq pv u from hs);refine⟨rfl,λw'=>?_⟩;show(Op.equalIn 10000 kt (.agg n) (.agg p)).run P w'=_;rw[run_equalIn_struct w' 9999 kt n p (by rw[D];exact hu) h1,D]
    exact tU (μ:=μ) (h:=h) (S:=S) (w:=w) 9998 fs.toList z xs r 0 q C (λj pv hj=>by rw[are];exact o j pv hj) (λj pv hj=>by
     rw[are];obtain⟨u,hu,E⟩:=y j pv hj;exact⟨u,hu,Bf z xs r q a j pv hj u E⟩) a
   ·cases m
  ·cases h0
 | _=>
  rw[i]at h0;cases b<;>simp [mj]at h0
theorem FK {d:TypeDesc} {key:Value}:∀(l:List MapEntry) (i s:Nat) (en:MapEntry),(∀j,j<i->∀x:MapEntry,l[j]? =some x->Instr.sameNow d key x.key=some false)->l[i]? =some en->Instr.sameNow d key en.key=some true->
  Instr.findNow d key l s=some (some (s+i,en.val))
 | [],i,s,en,_,h,_=>by simp at h
 | x::l,0,s,en,_,h,a=>by
  simp at h;subst h;simp [Instr.findNow,a]
 | x::l,i+1,s,en,hf,h,a=>by
  have h0:=hf 0 aRK x rfl;have:=FK l i (s+1) en (λj hj y hy=>hf (j+1) aRK y aSx) aSi a;simp only[Instr.findNow,h0,this];congr 3;omega
theorem Bg {d:TypeDesc} {key:Value}:∀(l:List MapEntry) (s:Nat),(∀(j:Nat) (x:MapEntry),l[j]? =some x->Instr.sameNow d key x.key=some false)->Instr.findNow d key l s=some none
 | [],s,_=>rfl
 | x::l,s,hf=>by
  have h0:=hf 0 x rfl;simp only[Instr.findNow,h0];exact Bg l (s+1) (λj y hy=>hf (j+1) y aSx)
theorem FL {kt:TypeId} {key:Value} {w':World}:∀(l:List MapEntry) (i s:Nat) (en:MapEntry),(∀j,j<i->∀x:MapEntry,l[j]? =some x->(Op.equal kt key x.key).run P w'=.ok false w')->l[i]? =some en->(Op.equal kt key en.key).run P w'=.ok true w'->
  (Instr.findAsking kt key l s).run P w'=.ok (some (s+i,en.val)) w'
 | [],i,s,en,_,h,_=>by simp at h
 | x::l,0,s,en,_,h,a=>by
  simp at h;subst h;simp [Instr.findAsking,a]
 | x::l,i+1,s,en,hf,h,a=>by
  have h0:=hf 0 aRK x rfl;have:=FL l i (s+1) en (λj hj y hy=>hf (j+1) aRK y aSx) aSi a;simp only[Instr.findAsking,Sem.run_bind,h0,Result.andThen_ok,aOi,aOn,this];congr 3;omega
theorem Bh {kt:TypeId} {key:Value} {w':World}:∀(l:List MapEntry) (s:Nat),(∀(j:Nat) (x:MapEntry),l[j]? =some x->(Op.equal kt key x.key).run P w'=.ok false w')->(Instr.findAsking kt key l s).run P w'=.ok none w'
 | [],s,_=>rfl
 | x::l,s,hf=>by
  have h0:=hf 0 x rfl;simp only[Instr.findAsking,Sem.run_bind,h0,Result.andThen_ok,aOi,aOn];exact Bh l (s+1) (λj y hy=>hf (j+1) y aSx)
theorem FM {kt:TypeId} {d:TypeDesc} {s:Bool} {key:Value} {w':World} (hu:P.underlying kt=some d) (l:List MapEntry) (i:Nat) (en:MapEntry) (hf:∀j,j<i->∀x:MapEntry,l[j]? =some x->xx P kt d s key x.key false)
  (hi:l[i]? =some en) (a:xx P kt d s key en.key true):(Instr.findKey kt key l).run P w'=.ok (some (i,en.val)) w':=by
 unfold Instr.findKey;cases s with
 | false=>
  have:=FK l i 0 en hf hi a;rw[are]at this;simp [run_underlying hu,this]
 | true=>
  have h1:=FL (P:=P) (w':=w') l i 0 en (λj hj x hx=>(hf j hj x hx).2 w') hi (a.2 w');rw[are]at h1
  have h2:Instr.findNow d key l 0=none:=by
   cases l with
   | nil=>simp at hi
   | cons x l=>
    have b:Instr.sameNow d key x.key=none:=by
     cases i with
     | zero=>simp at hi;subst hi;exact a.1
     | succ i=>exact(hf 0 aRK x rfl).1
    simp [Instr.findNow,b]
  simp [run_underlying hu,h2,h1]
theorem Bi {kt:TypeId} {d:TypeDesc} {s:Bool} {key:Value} {w':World} (hu:P.underlying kt=some d) (l:List MapEntry) (hf:∀(j:Nat) (x:MapEntry),l[j]? =some x->xx P kt d s key x.key false):
  (Instr.findKey kt key l).run P w'=.ok none w':=by
 unfold Instr.findKey;cases s with
 | false=>simp [run_underlying hu,Bg l 0 hf]
 | true=>
  have h1:=Bh (P:=P) (w':=w') (kt:=kt) (key:=key) l 0 (λj x hx=>(hf j x hx).2 w');cases l with
  | nil=>simp [run_underlying hu,Instr.findNow]
  | cons x l=>
   have a:Instr.sameNow d key x.key=none:=(hf 0 x rfl).1;simp [run_underlying hu,Instr.findNow,a,h1]
theorem cV.v {pv:PV} {u:Value} (hc:cV μ h S w pv u):cj μ h S w pv u:=by
 cases pv<;>first | exact(show False from hc).elim | trivial | exact hc
theorem FN (l:e9 P T) (o:dB μ h S w) (t:Nat) (x:Operand) (m:PV) (hx:cj μ h S w m (a.eval x)) (hp:Bj T t m h K):
  fx P ⟨dst,.load t x,ty,pos,after,guard⟩ a μ h S w K:=by
 unfold Bj at hp;split at hp
 ·rename_i cells;obtain⟨b,off,p,q,_,h2,r⟩:=hx.Bd;exact FI l t x cells b off q (λj pv hj=>⟨p j,h2 j pv hj,cV.mK (r j pv hj)⟩) hp λpv u _ hc=>hc.v
 ·rename_i id gen i off;split at hp
  ·rename_i g sz n e f hg;obtain⟨rfl,_,rfl,hp⟩:=hp;have hh:=fO hg;have d:=hx.xw;unfold db at d;rw[hh]at d;obtain⟨_,_,d⟩:=d;obtain⟨k,b,base,s,y,hv⟩:=d rfl;obtain⟨B,hc⟩:=o id g sz n e f hh;rw[s]at hc;obtain⟨cur,z,C,A⟩:=dB.cells y.1 hc;refine FI l t x _ b (base+i*sz+off) hv (λj pv hj=>?_) hp λpv u _ hc=>hc.v;rw[aPy]at hj;obtain⟨v,h1,h2⟩:=A i (off+j) pv k hj;refine⟨v,?_,h2.c⟩;rw[cell_of_row w b (base+i*sz+off+j) cur e (0,0) z,<-h1];congr 1;omega
  ·exact aRg
 ·exact aRg
theorem nH {e:TypeId} {i:TypeInfo} (hi:P.info? e=some i) (w':World):(sizeOf e).run P w'=.ok i.size w':=by
 simp [sizeOf,typeInfo,hi]
theorem C6 {t e:TypeId} {i:TypeInfo} (hu:P.underlying t=some (.slice e)) (hi:P.info? e=some i) (a:Addr) (n c:Nat) (k:IntKind) (x:Int) (h0:0<=x) (h1:x<n) (w':World):
  (Instr.indexAt t (.slice (some a) n c) (.int k x)).run P w'=.ok (.pointer (some (a.add (x.toNat*i.size)))) w':=by
 have he:P.elem t=e:=by simp [Program.elem,hu]
 rw[run_indexAt_slice w' t a n c k x aSt,An ⟨h0,h1⟩,he,nH hi];rfl
theorem Oh (F:e9 P T) (H:dB μ h S w) (G:∀t,cj μ h S w (env t) (a.tmps.getD t undef)) (t:Nat) (x i:Operand) (hp:dF T (.indexAddr t x i) env h K):
  fx P ⟨dst,.indexAddr t x i,ty,pos,after,guard⟩ a μ h S w K:=by
 have hx:=dk G x;have hi:=dk G i;unfold dF at hp;simp only at hp;split at hp
 ·rename_i e sz I z J n f k d u hex m;rw[hex]at hx;rw[m]at hi;replace hp:=bW hp;obtain⟨o,⟨h0,h1⟩,_,rfl,y⟩:=hp;obtain rfl:=abL o;have A:=hi.mJ;obtain⟨hu,_,inf,L,B,C,_⟩:=F.slice _ _ _ _ _ u;rcases hx.yj with⟨_,_,_,rfl⟩ | ⟨b,off,c,M,ex,N,X,hc,O,Q⟩
  ·omega
  ·have q:d.toNat<n:=by omega
   refine .mk y (ba.ia (f d.toNat) b (off+d.toNat*sz) (M d.toNat) N (λj pv hj=>O _ j pv q hj) (λj pv hj=>Q _ j pv q hj)) λw' _=>C5 ?_;rw[ex,A,C6 hu B _ _ _ _ _ h0 h1,C,Addr.add_lit]
 ·rename_i e sz I z id gen off len k d u hex m;rw[hex]at hx;rw[m]at hi;have A:=hi.mJ;obtain⟨hu,_,inf,L,B,C,_⟩:=F.slice _ _ _ _ _ u;split at hp
  ·rename_i g J n e' f R;obtain⟨rfl,hp⟩:=hp;replace hp:=bW hp;obtain⟨o,⟨h0,h1⟩,_,rfl,y⟩:=hp;obtain⟨o,r⟩:=Bool.and_eq_true_iff.1 o;obtain rfl:=abL o;have hh:=fO R;have l:=hx.ru;unfold bK at l;rw[hh]at l;obtain⟨_,_,l⟩:=l;obtain⟨hle,l⟩:=l rfl;cases s:μ id with
   | none=>
    rw[s]at l;obtain⟨_,D⟩:=H id _ _ _ _ _ hh;rw[s]at D;have D:n=0:=D;omega
   | some p=>
    obtain⟨b,base⟩:=p;rw[s]at l;obtain⟨Y,cap,ex,U,E,V⟩:=l;have E:=E aRK;subst E;refine .mk y (v:=.aA id g (off+d.toNat) 0) (val:=.pointer (some ⟨b,base+(off+d.toNat)*sz+0,none⟩)) ?_ λw' _=>C5 ?_
    ·show db μ h w id g (off+d.toNat) 0 _;unfold db;rw[hh];exact⟨⟨_,rfl⟩,Of _,λ_=>⟨by omega,b,base,s,⟨V.least,λW=>by rw[W]at r;cases r⟩,rfl⟩⟩
    ·rw[ex,A,C6 hu B _ _ _ _ _ h0 h1,C,Addr.add_lit];have:base+off*sz+d.toNat*sz=base+(off+d.toNat)*sz+0:=by rw[aOA];omega
     rw[this]
  ·exact aRg
 ·exact aRg
theorem FO (f:e9 P T) (d:∀t,cj μ h S w (env t) (a.tmps.getD t undef)) (t:Nat) (x i:Operand) (hp:dF T (.index t x i) env h K):
  fx P ⟨dst,.index t x i,ty,pos,after,guard⟩ a μ h S w K:=by
 have hx:=dk d x;have hi:=dk d i;unfold dF at hp;simp only at hp;split at hp
 ·rename_i s k b g hex c;rw[hex]at hx;rw[c]at hi;obtain⟨⟨h0,h1⟩,_,rfl,j⟩:=hp;have l:=hi.mJ;have ex:=hx.oX;have hu:=f.str _ g;refine .mk j (ba.int _ _) λw' _=>C5 ?_;rw[ex,l]
  have m:(ByteArray.mk ⟨s⟩)[b.toNat]? =some (s.getD b.toNat 0):=by
   have e:b.toNat<s.length:=by omega
   rw[aOp,abF e];rw[getElem?_pos (ByteArray.mk ⟨s⟩) b.toNat e];rfl
  simp only[Instr.index,asIntOf,Sem.run_bind,Sem.run_pure,Result.andThen,run_underlying hu,An h0,m]
 ·exact aRg
theorem Wy (j:e9 P T) (u:dB μ h S w) (A:∀t,cj μ h S w (env t) (a.tmps.getD t undef)) (args:Array Operand) (ts:Array TypeId) (hp:dF T (.call ⟨.builtin .len,args,ts⟩) env h K):
  fx P ⟨dst,.call ⟨.builtin .len,args,ts⟩,ty,pos,after,guard⟩ a μ h S w K:=by
 obtain⟨args⟩:=args;obtain⟨ts⟩:=ts;unfold dF at hp;simp only at hp;split at hp
 ·rename_i x t;have hx:=dk A x
  have fin:∀(n:Int) (val:Value),a.eval x=val->K (.int .i64 n)->(∀w',(Builtin.len_ #[t] ty #[val]).run P w'=.ok (goInt n) w')->
    fx P ⟨dst,.call ⟨.builtin .len,#[x],#[t]⟩,ty,pos,after,guard⟩ a μ h S w K:=λn val l m d=>.mk m (ba.int _ _) λw' _=>by
   simp only[execOp,resolve,invoke,builtin,Sem.run_bind,Sem.run_pure,Result.andThen_ok,aQs,aOC,aPb,l,d];rfl
  split at hp
  ·rename_i e sz v z B n f i hex;rw[hex]at hx;obtain⟨hu,_⟩:=j.slice _ _ _ _ _ i;have he:P.elem t=e:=by simp [Program.elem,hu]
   rcases hx.yj with⟨o,c,ex,rfl⟩ | ⟨b,off,c,G,ex,_⟩
   ·exact fin _ _ ex hp λw'=>run_len_slice w' t ty _ _ _ aSt
   ·exact fin _ _ ex hp λw'=>run_len_slice w' t ty _ _ _ aSt
  ·rename_i e sz v z i hex;rw[hex]at hx;obtain⟨hu,_⟩:=j.slice _ _ _ _ _ i;have he:P.elem t=e:=by simp [Program.elem,hu]
   exact fin _ _ hx.sg hp λw'=>run_len_slice w' t ty _ _ _ aSt
  ·rename_i e sz v z id gen off n i hex;rw[hex]at hx;obtain⟨hu,_⟩:=j.slice _ _ _ _ _ i;have he:P.elem t=e:=by simp [Program.elem,hu]
   split at hp
   ·rename_i g B C e' f q;obtain⟨rfl,m⟩:=hp;have hh:=fO q;have d:=hx.ru;unfold bK at d;rw[hh]at d;obtain⟨_,_,d⟩:=d;obtain⟨hle,d⟩:=d rfl
    have l:∃o c,a.eval x=.slice o n c:=by
     cases k:μ id with
     | none=>
      rw[k]at d;obtain⟨_,r⟩:=u id _ _ _ _ _ hh;rw[k]at r;have r:C=0:=r;have:n=0:=by omega
      subst this;exact⟨_,_,d⟩
     | some p=>
      rw[k]at d;obtain⟨H,cap,ex,_⟩:=d;exact⟨_,_,ex⟩
    obtain⟨o,c,ex⟩:=l;exact fin _ _ ex m λw'=>run_len_slice w' t ty _ _ _ aSt
   ·exact aRg
  ·rename_i s i hex;rw[hex]at hx;have hu:=j.str _ i;refine fin _ _ hx.oX hp λw'=>?_;simp [Builtin.len_,run_underlying hu];rfl
  ·rename_i I e0 J id i hex;rw[hex]at hx;obtain⟨hu,_⟩:=j.map _ _ _ _ i;split at hp
   ·rename_i g sz n e f q;obtain⟨b,base,es,c,k,ex,y,D,_⟩:=FJ u (fO q) hx.Lg;refine .mk hp (ba.int _ _) λw' E=>?_;have F:w'.heap[b]? =some (.map es c):=(E.blocks b (amb.1 y).1).trans y;simp only[execOp,resolve,invoke,builtin,Sem.run_bind,Sem.run_pure,Result.andThen_ok,aQs,aOC,aPb,ex];rw[show(Builtin.len_ #[t] ty #[.map (some b)]).run P w'=.ok (goInt es.size) w' by simp [Builtin.len_,run_underlying hu,run_getObj_map w' b es c F]];rw[D];rfl
   ·exact aRg
  ·exact aRg
 ·exact aRg
theorem C7 (s:List UInt8) (l m:Nat):(ByteArray.mk ⟨s⟩).extract l m=ByteArray.mk ⟨(s.take m).drop l⟩:=by
 apply ByteArray.ext;rw[ByteArray.data_extract];apply Array.ext';rw[aQk];simp [Array.toList_extract,List.extract]
theorem Wz (B:e9 P T) (y:dB μ h S w) (id g off len sz n:Nat) (e:TypeId) (f:Nat->List PV) (hh:h[id]? =some (aq.row g sz n e f)) (v:Value) (hv:cj μ h S w (.own id g off len) v) (l m:Nat) (C:l<=m) (hm:m<=len):
  ∃k c,v=.slice k len c/\len<=c/\∀(d:Nat),m<=d->d<=c->cj μ h S w (.own id g (off+l) (m - l)) (.slice (if d=l then k else k.map (·.add (l*sz))) (m - l) (d - l)):=by
 have a:=hv.ru;unfold bK at a;rw[hh]at a;obtain⟨_,_,a⟩:=a;obtain⟨hle,a⟩:=a rfl;cases j:μ id with
 | none=>
  rw[j]at a;obtain⟨_,o⟩:=y id _ _ _ _ _ hh;rw[j]at o;have o:n=0:=o;have h0:len=0:=by omega
  subst h0;have a:v=.slice none 0 0:=a;refine⟨none,0,a,Of _,λd h1 h2=>?_⟩;have q:m=0:=by omega
  have A:l=0:=by omega
  have r:d=0:=by omega
  subst q;subst A;subst r;show bK μ h w id g (off+0) (0 - 0) _;unfold bK;rw[hh];refine⟨⟨_,_,_,rfl⟩,Of _,λ_=>⟨by omega,?_⟩⟩;rw[j];rfl
 | some p=>
  obtain⟨b,base⟩:=p;rw[j]at a;obtain⟨u,cap,ex,s,t,x⟩:=a;refine⟨some u,cap,ex,s,λd h1 h2=>?_⟩;show bK μ h w id g (off+l) (m - l) _;unfold bK;rw[hh];refine⟨⟨_,_,_,rfl⟩,Of _,λ_=>⟨by omega,?_⟩⟩;rw[j];by_cases i:d=l
  ·refine⟨u,0,by rw[An i];subst i;simp,by omega,λh=>absurd h aRK,?_⟩;obtain⟨cur,e',z,q1,q2⟩:=x;refine⟨cur,e',z,q1,aPr ?_ q2⟩;have:(off+l+0)*sz<=(off+cap)*sz:=aOF _ aRK;omega
  ·have t:=t aRK;subst t;refine⟨⟨b,base+(off+l)*sz,none⟩,d - l,?_,by omega,λ_=>rfl,?_⟩
   ·rw[mg i,Option.map_some,Addr.add_lit,aOA,aQn]
   ·obtain⟨cur,e',z,q1,q2⟩:=x;refine⟨cur,e',z,q1,aPr ?_ q2⟩;have:(off+l+(d - l))*sz<=(off+cap)*sz:=aOF _ aRK;omega
theorem WA (sz n:Nat) (f:Nat->List PV) (v:Value) (hv:cj μ h S w (.iT sz n f) v) (l m:Nat) (s:l<=m) (hm:m<=n):
  ∃d c,v=.slice d n c/\((n<=c\/n=0)/\∀(a:Nat),m<=a->(a<=c\/m=0)->cj μ h S w (.iT sz (m - l) (λi=>f (l+i))) (.slice (if a=l then d else d.map (·.add (l*sz))) (m - l) (a - l))):=by
 rcases hv.yj with⟨d,c,ex,rfl⟩ | ⟨b,off,c,k,ex,o,hlen,hc,p,q⟩
 ·have e:m=0:=by omega
  subst e;have r:l=0:=by omega
  subst r;exact⟨d,c,ex,.inr rfl,λa _ _=>ba.uE _ _ _ _⟩
 ·refine⟨_,c,ex,.inl hc,λa h1 h2=>?_⟩;by_cases g:m=l
  ·subst g;rw[aPz];exact ba.uE _ _ _ _
  ·rw[mg aRK,Option.map_some,Addr.add_lit];refine ba.iT sz (m - l) _ b (off+l*sz) (a - l) (λi j=>k (l+i) j) o (λi hi=>hlen _ aRK) aRK (λi j pv hi hj=>?_) (λi j pv hi hj=>q _ j pv aRK hj);have:=p (l+i) j pv aRK hj;rw[aOA]at this;rw[<-this];congr 2;omega
theorem er {o:Oper} {s:Sem Value} {val:Value} {w' b:World} (he:execOp a.eval o=(do pure (Next.value (<-s)):Sem Next)) (hs:s.run P w'=.ok val b):(execOp a.eval o).run P w'=.ok (.value val) b:=by
 rw[he];exact C5 hs
theorem zM (hx:∀x,cj μ h S w (ev env x) (a.eval x)) {lo:Option Operand}:(lo.map (ev env)=none->lo.map a.eval=none)/\∀k n,lo.map (ev env)=some (.int k n)->lo.map a.eval=some (.int k n):=by
 cases lo with
 | none=>exact⟨λ_=>rfl,λk n h=>aSg⟩
 | some x=>
  refine⟨λh=>aSg,λk n hh=>?_⟩;have hh:ev env x=.int k n:=by injection hh
  have:=hx x;rw[hh]at this;show some (a.eval x)=_;rw[this.mJ]
theorem Sj {t e:TypeId} {i:TypeInfo} (hu:P.underlying t=some (.slice e)) (hi:P.info? e=some i) (a:Option Addr) (n c:Nat) (hc:n<=c) (w':World):
  ((Instr.sliceAt t (.slice a n c) none none none).run P w'=.ok (sliced a 0 n c i.size) w')/\
  (∀(k:IntKind) (l:Int),0<=l->l<=n->(Instr.sliceAt t (.slice a n c) (some (.int k l)) none none).run P w'=.ok (sliced a l.toNat n c i.size) w')/\
  (∀(k:IntKind) (m:Int),0<=m->m<=n->(Instr.sliceAt t (.slice a n c) none (some (.int k m)) none).run P w'=.ok (sliced a 0 m.toNat c i.size) w')/\
  (∀(k:IntKind) (l:Int) (d:IntKind) (m:Int),0<=l->l<=m->m<=n->(Instr.sliceAt t (.slice a n c) (some (.int k l)) (some (.int d m)) none).run P w'=.ok (sliced a l.toNat m.toNat c i.size) w')/\
  (∀(k:IntKind) (m:Int) (d:IntKind) (q:Int),0<=m->m<=q->q<=n->(Instr.sliceAt t (.slice a n c) none (some (.int k m)) (some (.int d q))).run P w'=.ok (sliced a 0 m.toNat q.toNat i.size) w')/\
  (∀(k:IntKind) (l:Int) (d:IntKind) (m:Int) (f:IntKind) (q:Int),0<=l->l<=m->m<=q->q<=n->(Instr.sliceAt t (.slice a n c) (some (.int k l)) (some (.int d m)) (some (.int f q))).run P w'=.ok (sliced a l.toNat m.toNat q.toNat i.size) w'):=by
 have he:P.elem t=e:=by simp [Program.elem,hu]
 have b:P.underlying t=some (.slice (P.elem t)):=by rw[he];exact hu
 have g:(n:Int)<=c:=by omega
 refine⟨?_,λk l h0 h1=>?_,λk m h0 h1=>?_,λk l d m h0 h1 h2=>?_,λk m d q h0 h1 h2=>?_,λk l d m f q h0 h1 h2 h=>?_⟩<;>rw[run_sliceAt_slice w' _ _ _ _ _ b]
 ·rw[run_slice_all w' t a n c b,he,nH hi];rfl
 ·rw[run_slice_l w' t a n c b k l h0 h1,he,nH hi];rfl
 ·rw[run_slice_h w' t a n c b k m h0 aRK,he,nH hi];rfl
 ·rw[run_slice_lh w' t a n c b k d l m h0 h1 aRK,he,nH hi];rfl
 ·rw[run_slice_hm w' t a n c b k d m q h0 h1 aRK,he,nH hi];rfl
 ·rw[run_slice_lhm w' t a n c b k d f l m q h0 h1 h2 aRK,he,nH hi];rfl
theorem fx.choose {o:Oper} (hs:fx P o a μ h S w (Oi K)):fx P o a μ h S w K:=by
 obtain⟨v,val,d,hv,e⟩:=hs;cases v with
 | iT sz n f=>
  obtain⟨k,l,rfl,hf,d⟩:=d;refine⟨_,val,d,?_,e⟩;rcases hv.yj with⟨a,c,rfl,rfl⟩ | ⟨b,off,c,m,rfl,h1,h2,p,h4,q⟩
  ·exact ba.uE _ _ _ _
  ·exact ba.iT sz k l b off c m h1 (λi hi=>by rw[hf i hi];exact h2 i hi) p (λi j pv hi hj=>h4 i j pv hi aSn) (λi j pv hi hj=>q i j pv hi aSn)
 | str s=>
  obtain⟨_,rfl,d⟩:=d;exact⟨_,val,d,hv,e⟩
 | own id g off n=>
  obtain⟨_,_,rfl,rfl,d⟩:=d;exact⟨_,val,d,hv,e⟩
 | _=>exact⟨_,val,d,hv,e⟩
theorem Oj (J:e9 P T) (Y:dB μ h S w) (L:∀t,cj μ h S w (env t) (a.tmps.getD t undef)) (t:Nat) (x:Operand) (lo hi p:Option Operand) (hp:dF T (.slice t x lo hi p) env h K):
  fx P ⟨dst,.slice t x lo hi p,ty,pos,after,guard⟩ a μ h S w K:=by
 have hx:=dk L x;have d:=zM (λx=>dk L x) (lo:=lo);have j:=zM (λx=>dk L x) (lo:=hi);have B:=zM (λx=>dk L x) (lo:=p);unfold dF at hp;simp only at hp
 have key:∀(K:PV->Prop) (e:TypeId) (i:TypeInfo) (sz n:Nat) (r:Option Addr) (c:Nat) (R:Nat->Nat->PV),P.underlying t=some (.slice e)->P.info? e=some i->i.size=sz->a.eval x=.slice r n c->n<=c->
   (∀l m p,l<=m->m<=n->m<=p->p<=c->cj μ h S w (R l m) (.slice (if p=l then r else r.map (·.add (l*sz))) (m - l) (p - l)))->ahU n (hi.map (ev env)) (p.map (ev env))->
   (match lo.map (ev env),hi.map (ev env)with
    | none,none=>K (R 0 n)
    | some (.int _ l),none=>(0<=l/\l<=n)/\K (R l.toNat n)
    | none,some (.int _ m)=>(0<=m/\m<=n)/\K (R 0 m.toNat)
    | some (.int _ l),some (.int _ m)=>(0<=l/\l<=m/\m<=n)/\K (R l.toNat m.toNat)
    | _,_=>False)->fx P ⟨dst,.slice t x lo hi p,ty,pos,after,guard⟩ a μ h S w K:=by
  intro K e i sz n r c R hu C D ex hc E hm hp;subst D;have A:=λw'=>Sj (P:=P) hu C r n c hc w'
  have fin:∀(l m q:Nat),l<=m->m<=n->m<=q->q<=c->K (R l m)->(∀w',(Instr.sliceAt t (.slice r n c) (lo.map a.eval) (hi.map a.eval) (p.map a.eval)).run P w'=.ok (sliced r l m q i.size) w')->
    fx P ⟨dst,.slice t x lo hi p,ty,pos,after,guard⟩ a μ h S w K:=λl m q h1 h2 F h4 M N=>.mk M (E l m q h1 h2 F h4) λw' _=>er rfl (by rw[ex];exact N w')
  unfold ahU at hm;split at hm
  ·rename_i o;have o:=B.1 o;split at hp
   ·rename_i b e2;exact fin 0 n c aRK aRK hc aRK hp λw'=>by rw[d.1 b,j.1 e2,o];exact(A w').1
   ·rename_i k l b e2;obtain⟨⟨h0,h1⟩,hp⟩:=hp;exact fin l.toNat n c aRK aRK hc aRK hp λw'=>by rw[d.2 _ _ b,j.1 e2,o];exact(A w').2.1 _ _ h0 h1
   ·rename_i k m b e2;obtain⟨⟨h0,h1⟩,hp⟩:=hp;exact fin 0 m.toNat c aRK aRK aRK aRK hp λw'=>by rw[d.1 b,j.2 _ _ e2,o];exact(A w').2.2.1 _ _ h0 h1
   ·rename_i k l O m b e2;obtain⟨⟨h0,h1,h2⟩,hp⟩:=hp;exact fin l.toNat m.toNat c aRK aRK aRK aRK hp λw'=>by rw[d.2 _ _ b,j.2 _ _ e2,o];exact(A w').2.2.2.1 _ _ _ _ h0 h1 h2
   ·exact aRg
  ·rename_i Z q o;have o:=B.2 _ _ o;split at hm
   ·rename_i k3 m y;obtain⟨G,H⟩:=hm;rw[y]at hp;split at hp
    ·rename_i b e2;cases e2
    ·rename_i b e2;cases e2
    ·rename_i k m' b e2;injection e2 with e2;injection e2 with Q U;subst Q;subst U;obtain⟨⟨h0,h1⟩,hp⟩:=hp;exact fin 0 m.toNat q.toNat aRK aRK aRK aRK hp λw'=>by rw[d.1 b,j.2 _ _ y,o];exact(A w').2.2.2.2.1 _ _ _ _ h0 G H
    ·rename_i k l O m' b e2;injection e2 with e2;injection e2 with Q U;subst Q;subst U;obtain⟨⟨h0,h1,h2⟩,hp⟩:=hp;exact fin l.toNat m.toNat q.toNat aRK aRK aRK aRK hp λw'=>by rw[d.2 _ _ b,j.2 _ _ y,o];exact(A w').2.2.2.2.2 _ _ _ _ _ _ h0 h1 G H
    ·exact aRg
   ·exact hm.elim
  ·exact hm.elim
 split at hp
 ·rename_i e sz bt z cW n f I hex;rw[hex]at hx;replace hp:=bW hp;obtain⟨V,hm,hp⟩:=hp;obtain rfl:=abL V;obtain⟨hu,_,inf,zv,C,D,_⟩:=J.slice _ _ _ _ _ I;have e0:(λi=>f (0+i))=f:=by funext i;rw[are]
  have u:=λl m (h1:l<=m) (h2:m<=n)=>WA sz n f _ hx l m h1 h2;obtain⟨r,c,ex,hc,_⟩:=u 0 0 (Of _) (aPF _);have hc:n<=c:=by rcases hc with hc | hc<;>omega
  refine fx.choose ?_;refine key (Oi K) e inf sz n r c (λl m=>.iT sz (m - l) (λi=>f (l+i))) hu C D ex hc (λl m q h1 h2 F h4=>?_) hm ?_
  ·obtain⟨W,c',v,_,E⟩:=u l m h1 h2;rw[ex]at v;injection v with b e2 o;subst b;subst o;exact E q F (.inl h4)
  ·simp only[e0,Nat.sub_zero];exact hp
 ·rename_i e sz bt z id gen off len I hex;rw[hex]at hx;obtain⟨hu,_,inf,zv,C,D,_⟩:=J.slice _ _ _ _ _ I;split at hp
  ·rename_i g cW n' e' f Jf;obtain⟨rfl,hp⟩:=hp;replace hp:=bW hp;obtain⟨V,hm,hp⟩:=hp;obtain rfl:=abL V;have hh:=fO Jf;have u:=λl m (h1:l<=m) (h2:m<=len)=>Wz J Y id g off len sz n' e' f hh _ hx l m h1 h2;obtain⟨r,c,ex,hc,_⟩:=u 0 0 (Of _) (aPF _);refine fx.choose ?_;refine key (Oi K) e inf sz len r c (λl m=>.own id g (off+l) (m - l)) hu C D ex hc (λl m q h1 h2 F h4=>?_) hm ?_
   ·obtain⟨W,c',v,_,E⟩:=u l m h1 h2;rw[ex]at v;injection v with b e2 o;subst b;subst o;exact E q F h4
   ·exact hp
  ·exact aRg
 ·rename_i s I hex;rw[hex]at hx;replace hp:=bW hp;obtain⟨X,hp⟩:=hp;obtain rfl:p=none:=by simpa using X
  refine fx.choose ?_;generalize Oi K=K at*;have ex:=hx.oX;have hu:=J.str _ I;have j5:(ByteArray.mk ⟨s⟩).size=s.length:=rfl
  have fin:∀(l m:Nat) (s':List UInt8),s'=(s.take m).drop l->K (.str s')->(∀w',(Instr.sliceAt t (.string ⟨⟨s⟩⟩) (lo.map a.eval) (hi.map a.eval) none).run P w'=.ok (.string ((ByteArray.mk ⟨s⟩).extract l m)) w')->
    fx P ⟨dst,.slice t x lo hi none,ty,pos,after,guard⟩ a μ h S w K:=λl m s' hs M N=>.mk M (ba.str _) λw' _=>er rfl (by rw[ex,hs,<-C7];exact N w')
  simp only[FP]at hp;split at hp
  ·rename_i b e2;exact fin 0 s.length s aRN hp λw'=>by rw[d.1 b,j.1 e2,run_sliceAt_string w' _ _ _ _ _ hu,run_slice_string_all w' t ⟨⟨s⟩⟩ hu];rfl
  ·rename_i k l b e2;obtain⟨⟨h0,h1⟩,hp⟩:=hp;exact fin l.toNat s.length _ aRN hp λw'=>by rw[d.2 _ _ b,j.1 e2,run_sliceAt_string w' _ _ _ _ _ hu,run_slice_string_l w' t ⟨⟨s⟩⟩ hu k l h0 h1];rfl
  ·rename_i k m b e2;obtain⟨⟨h0,h1⟩,hp⟩:=hp;exact fin 0 m.toNat _ aRN hp λw'=>by rw[d.1 b,j.2 _ _ e2,run_sliceAt_string w' _ _ _ _ _ hu,run_slice_string_h w' t ⟨⟨s⟩⟩ hu k m h0 h1]
  ·rename_i k l O m b e2;obtain⟨⟨h0,h1,h2⟩,hp⟩:=hp;exact fin l.toNat m.toNat _ rfl hp λw'=>by rw[d.2 _ _ b,j.2 _ _ e2,run_sliceAt_string w' _ _ _ _ _ hu,run_slice_string w' t ⟨⟨s⟩⟩ k O l m hu h0 h1 h2]
  ·exact aRg
 ·exact aRg
theorem tn:∀(cs l:List PV) (off j:Nat),off+cs.length<=l.length->(ie l off cs)[j]? =if off<=j/\j<off+cs.length then cs[j - off]? else l[j]?
 | [],l,off,j,_=>by
  simp only[ie,No,aPv];rw[mg aRK]
 | c::r,l,off,j,a=>by
  simp only[ie,At]at a ⊢;rw[tn r (l.set off c) (off+1) j aRT];by_cases h1:j=off
  ·subst h1;rw[mg aRK,An aRK,aPz,aPi aRK];rfl
  ·rw[aOI aRK];by_cases h2:off+1<=j/\j<off+1+r.length
   ·rw[An h2,An aRK];have:j - off=(j - (off+1))+1:=by omega
    rw[this,aOU]
   ·rw[mg h2,mg aRK]
theorem oY:∀(cs l:List PV) (off:Nat),(ie l off cs).length=l.length
 | [],_,_=>rfl
 | c::r,l,off=>by simp only[ie];rw[oY r];simp
theorem ba.no {pv:PV} {v:Value} (h:ba S w pv v):eV pv=false:=by cases h<;>rfl
theorem Up {c:PV} (h:oh c=true):eV c=false:=by cases c<;>first | rfl | cases h
theorem Sk {v:PV} (h:storable v=true) {j:Nat} {pv:PV} (hj:(cellsOf v)[j]? =some pv):eV pv=false:=by
 have hm:=aOy hj;cases v with
 | agg cs=>exact Up (aOl.1 h pv hm)
 | _=>exact Up (by rw[aPW.1 hm];exact h)
theorem oZ {pv:PV} {v:Value} (hs:storable pv=true) (hv:cj μ h S w pv v):
  v.cells.toList.length=(cellsOf pv).length/\∀(j:Nat) (p:PV),(cellsOf pv)[j]? =some p->∃u,v.cells.toList[j]? =some u/\cV μ h S w p u:=by
 have one:∀(hc:cV μ h S w pv v),cellsOf pv=[pv]->v.cells.toList.length=(cellsOf pv).length/\∀(j:Nat) (p:PV),(cellsOf pv)[j]? =some p->∃u,v.cells.toList[j]? =some u/\cV μ h S w p u:=by
  intro hc he;have h1:=hc.one;have h2:v.cells=#[v]:=by cases v<;>first | rfl | cases h1
  rw[h2,he];refine⟨rfl,λj p hj=>?_⟩;cases j with
  | zero=>
   simp at hj;subst hj;exact⟨v,rfl,hc⟩
  | succ j=>simp at hj
 cases pv with
 | agg cs=>
  obtain⟨vs,rfl,h2,a⟩:=hv;refine⟨by simpa[Value.cells,cellsOf]using h2,λj p hj=>?_⟩;obtain⟨u,hu,c⟩:=a j p hj;exact⟨u,by simpa[Value.cells]using hu,c⟩
 | fV vs=>cases hs
 | eg sz n e f F=>cases hs
 | j3=>cases hs
 | qc id=>exact one hv rfl
 | ud f dG=>exact one hv rfl
 | int k n=>exact one hv rfl
 | bool b=>exact one hv rfl
 | str s=>exact one hv rfl
 | ck=>exact one hv rfl
 | jS=>exact one hv rfl
 | iT sz n f=>exact one hv rfl
 | ia cs=>exact one hv rfl
 | own id gen off len=>exact one hv rfl
 | aA id gen i off=>exact one hv rfl
 | fn f=>exact one hv rfl
theorem Jg:∀(l:List Value) (s off:Nat) (cs:Array Value),off+s+l.length<=cs.size->
  ((l.zipIdx s).foldl (λ(cs:Array Value) (p:Value×Nat)=>cs.setIfInBounds (off+p.2) p.1) cs).size=cs.size/\
  ∀q,((l.zipIdx s).foldl (λ(cs:Array Value) (p:Value×Nat)=>cs.setIfInBounds (off+p.2) p.1) cs)[q]? =if off+s<=q/\q<off+s+l.length then l[q - (off+s)]? else cs[q]?
 | [],s,off,cs,_=>by
  refine⟨rfl,λq=>?_⟩;simp only[List.zipIdx_nil,List.foldl_nil,No,aPv];rw[mg aRK]
 | v::r,s,off,cs,b=>by
  simp only[At]at b;obtain⟨h1,h2⟩:=Jg r (s+1) off (cs.setIfInBounds (off+s) v) aRT;simp only[List.zipIdx_cons,List.foldl_cons,At];refine⟨by rw[h1];simp,λq=>?_⟩;rw[h2 q];by_cases c:q=off+s
  ·subst c;rw[mg aRK,An aRK,aPz];simp [Array.getElem?_setIfInBounds,show off+s<cs.size from by omega]
  ·by_cases a:off+(s+1)<=q/\q<off+(s+1)+r.length
   ·rw[An a,An aRK];have:q - (off+s)=(q - (off+(s+1)))+1:=by omega
    rw[this,aOU]
   ·rw[mg a,mg aRK,aQg aRK]
theorem wu (v:Value) (off:Nat) (cs:Array Value) (a:off+v.cells.size<=cs.size):
  (v.cells.zipIdx.foldl (λ(cs:Array Value) (p:Value×Nat)=>cs.setIfInBounds (off+p.2) p.1) cs).size=cs.size/\
  ∀q,(v.cells.zipIdx.foldl (λ(cs:Array Value) (p:Value×Nat)=>cs.setIfInBounds (off+p.2) p.1) cs)[q]? =if off<=q/\q<off+v.cells.size then v.cells[q - off]? else cs[q]?:=by
 have h:=Jg v.cells.toList 0 off cs (by simpa using a);rw[<-Array.foldl_toList];simp only[Array.toList_zipIdx,aPv,aPp,aOL]at h ⊢;exact h
theorem Sl {l:List PV} (a:isByte l=true):∃v,l=[.int .u8 v]:=by
 unfold isByte at a;split at a
 ·exact aRm
 ·cases a
theorem FQ {g:Nat->List PV} {s:List UInt8} {n:Nat} (a:s.length=n) (hf:∀i,i<n->g i=[.int .u8 (s.getD i 0).toNat]):(∀i,i<n->isByte (g i)=true)/\(List.range n).map (λi=>byteOf (g i))=s:=by
 refine⟨λi hi=>by rw[hf i hi];rfl,?_⟩;apply List.ext_getElem (by simp [a]);intro i h1 h2;simp only[aPU,List.length_range]at h1;rw[List.getElem_map,List.getElem_range,hf i h1];simp [byteOf,aOp,abF h2]
theorem Il (A:e9 P T) (J:dB μ h S w) (L:∀t,cj μ h S w (env t) (a.tmps.getD t undef)) (s d:Nat) (x:Operand) (hp:dF T (.convert s d x) env h K):
  fx P ⟨dst,.convert s d x,ty,pos,after,guard⟩ a μ h S w K:=by
 have hx:=dk L x;unfold dF at hp;simp only at hp;split at hp
 ·rename_i k0 k k1 n hs hd hex;rw[hex]at hx
  exact .mk hp (ba.int _ _) λw' _=>er rfl (by
   rw[hx.mJ];simp [convert,run_underlying (A.int _ _ hs),run_underlying (A.int _ _ hd),Conv.intToInt])
 ·rename_i e sz bt z hs hd;split at hp
  ·rename_i E;have hu:=(A.slice _ _ _ _ _ hs).1;have l:=A.int _ _ E;have m:=A.str _ hd
   have key:∀(b off c n:Nat) (g:Nat->List PV),a.eval x=.slice (some ⟨b,off,none⟩) n c->(∀i,i<n->isByte (g i)=true)->K (.str ((List.range n).map λi=>byteOf (g i)))->
     (∀i v,i<n->g i=[.int .u8 v]->w.cell? ⟨b,off+i,none⟩=some (.int .u8 v))->fx P ⟨dst,.convert s d x,ty,pos,after,guard⟩ a μ h S w K:=by
    intro b off c n g ex B j C;have num:∀i,i<n->∃v,g i=[.int .u8 v]:=λi hi=>Sl (B i hi)
    let val:Nat->Int:=λi=>match g i with | [.int _ v]=>v | _=>0
    have I:∀i,i<n->g i=[.int .u8 (val i)]:=λi hi=>by
     obtain⟨v,hv⟩:=num i hi;simp only[val,hv]
    refine .mk j (ba.str _) λw' M=>er rfl ?_;rw[ex,run_convert_bytes_arg w' s e hu l b off n c ((List.range n).map val) aRN (λi hi=>?_) d m]
    ·congr 2;simp only[strOfNums]
     have:((List.range n).map val).map (λq=>UInt8.ofNat q.toNat)=(List.range n).map λi=>byteOf (g i):=by
      rw[List.map_map];apply List.map_congr_left;intro i hi;rw[I i (aQl.1 hi)];rfl
     rw[this]
    ·rw[M.cell (C i _ hi (I i hi))];simp [aOp,hi]
   unfold zN at hp;split at hp
   ·rename_i hex;rw[hex]at hx;refine .mk hp (ba.str _) λw' _=>er rfl ?_;rw[hx.sg,run_convert_bytes_nil w' s e hu l 0 0 d m];rfl
   ·rename_i N n f hex;rw[hex]at hx;replace hp:=bW hp;obtain⟨h1,F,D,o,j⟩:=hp;obtain⟨B,r⟩:=FQ D o;replace j:K (.str F):=j;rw[<-r]at j;clear D o r;obtain rfl:=abL h1;rcases hx.yj with⟨O,c,ex,rfl⟩ | ⟨b,off,c,Q,ex,hS,R,hc,C,U⟩
    ·cases O with
     | none=>
      refine .mk j (ba.str _) λw' _=>er rfl ?_;rw[ex,run_convert_bytes_nil w' s e hu l 0 c d m];rfl
     | some G=>
      refine .mk j (ba.str _) λw' _=>er rfl ?_;rw[ex,run_convert_bytes_string w' s d e _ 0 c hu l m,run_bytesToString w' G 0 c [] (by simp [loadCells,loadCellsFrom])];rfl
    ·refine key b off c n f ex B j λi v hi hv=>?_;have q1:=C i 0 (.int .u8 v) hi (by rw[hv];rfl);have q2:=U i 0 (.int .u8 v) hi (by rw[hv];rfl);rw[Nat.mul_one,aPv]at q1;rw[q1];generalize Q i 0=u at q2;cases q2;rfl
   ·rename_i id gen off n hex;rw[hex]at hx;split at hp
    ·rename_i g N V e' f W;obtain⟨rfl,hp⟩:=hp;replace hp:=bW hp;obtain⟨h1,F,D,o,j⟩:=hp;obtain⟨B,r⟩:=FQ (g:=λi=>f (off+i)) D o;replace j:K (.str F):=j;rw[<-r]at j;clear D o r;obtain rfl:=abL h1;have hh:=fO W;have y:=hx.ru;unfold bK at y;rw[hh]at y;obtain⟨⟨a0,l0,c0,e0⟩,_,y⟩:=y;obtain⟨X,y⟩:=y rfl;obtain⟨R,hc⟩:=J id g 1 V e' f hh;cases hm:μ id with
     | none=>
      rw[hm]at y hc;have H:n=0:=by omega
      subst H;refine .mk j (ba.str _) λw' _=>er rfl ?_;rw[show a.eval x=.slice none 0 0 from y,run_convert_bytes_nil w' s e hu l 0 0 d m];rfl
     | some p=>
      obtain⟨b,base⟩:=p;rw[hm]at y hc;obtain⟨G,cap,ex,il,Y,Z⟩:=y;obtain⟨cur,pq,yM,C⟩:=dB.cells Z hc;rcases aPA n with h0 | h0
      ·subst h0;refine .mk j (ba.str _) λw' _=>er rfl ?_;rw[ex,run_convert_bytes_string w' s d e _ 0 cap hu l m,run_bytesToString w' G 0 cap [] (by simp [loadCells,loadCellsFrom])];rfl
      ·rw[Y aRK,Nat.mul_one]at ex;refine key b (base+off) cap n (λi=>f (off+i)) ex B j λi v hi hv=>?_;obtain⟨u,q1,q2⟩:=C (off+i) 0 (.int .u8 v) aRK (by rw[hv];rfl);have q2:ba S w (.int .u8 v) u:=q2;cases q2;rw[cell_of_row w b (base+off+i) cur e' (0,0) pq,<-q1];congr 1;omega
    ·exact aRg
   ·exact aRg
  ·exact aRg
 ·exact aRg
theorem FR (d:∀t,cj μ h S w (env t) (a.tmps.getD t undef)) (x:Operand) (hp:dF T (.nilCheck x) env h K):
  fx P ⟨dst,.nilCheck x,ty,pos,after,guard⟩ a μ h S w K:=by
 have hx:=dk d x;unfold dF at hp;simp only at hp;split at hp
 ·rename_i cs hex;rw[hex]at hx;obtain⟨b,off,l,ex,_⟩:=hx.Bd;exact .mk hp hx λw' _=>by simp [execOp,ex]
 ·rename_i id gen i off hex;rw[hex]at hx;split at hp
  ·rename_i g sz n e f j;obtain⟨rfl,hp⟩:=hp;have hh:=fO j;have c:=hx.xw;unfold db at c;rw[hh]at c;obtain⟨_,_,c⟩:=c;obtain⟨k,b,base,m,o,hv⟩:=c rfl;exact .mk hp hx λw' _=>by simp [execOp,hv]
  ·exact aRg
 ·exact aRg
theorem C8 (c:e9 P T) {s sz k o size:Nat} {fl:List (Nat×Nat×Bool)} {z:List PV} {a:Bool} (e:T.get s=.struct sz fl z) (hk:fl[k]? =some (o,size,a)) (b off:Nat) (w':World):
  (Instr.fieldAt s (.pointer (some ⟨b,off,none⟩)) k).run P w'=.ok (.pointer (some ⟨b,off+o,none⟩)) w':=by
 obtain⟨fs,i,hu,hi,h,l,_,hf⟩:=c.struct _ _ _ _ e;obtain⟨f,j,d,h1,h2,g,h4,m,n,p⟩:=hf k o size a hk;have h0:¬j.size=0:=by omega
 simp [Instr.fieldAt,run_underlying hu,h1,Instr.sureAddr,fieldPlace,nH g,h0,Addr.add_lit,h2]
theorem DN (l:e9 P T) (p:∀t,cj μ h S w (env t) (a.tmps.getD t undef)) (s:Nat) (x:Operand) (k:Nat) (hp:dF T (.fieldAddr s x k) env h K):
  fx P ⟨dst,.fieldAddr s x k,ty,pos,after,guard⟩ a μ h S w K:=by
 have hx:=dk p x;unfold dF at hp;simp only at hp;split at hp
 ·rename_i sz fl z m;split at hp
  ·rename_i o size C hk;split at hp
   ·rename_i cs hex;rw[hex]at hx;obtain⟨b,off,q,ex,r,u,v⟩:=hx.Bd;refine .mk hp (ba.ia (cs.drop o) b (off+o) (λj=>q (o+j)) r (λj pv hj=>?_) (λj pv hj=>?_)) λw' _=>er rfl (by rw[ex];exact C8 l m hk b off w')
    ·rw[aPy]at hj;rw[aQn];exact u _ _ hj
    ·rw[aPy]at hj;exact v _ _ hj
   ·rename_i id gen i off hex;rw[hex]at hx;split at hp
    ·rename_i g D n e f y;obtain⟨rfl,hp⟩:=hp;have hh:=fO y;have c:=hx.xw;unfold db at c;rw[hh]at c;obtain⟨_,_,c⟩:=c;obtain⟨d,b,base,A,B,hv⟩:=c rfl;refine .mk hp ?_ λw' _=>er rfl (by rw[hv];exact C8 l m hk b _ w');show db _ _ _ _ _ _ _ _;unfold db;rw[hh];exact⟨⟨_,rfl⟩,Of _,λ_=>⟨d,b,base,A,B,by simp only[aQn]⟩⟩
    ·exact aRg
   ·exact aRg
  ·exact aRg
 ·exact aRg
theorem Bl (m:∀t,cj μ h S w (env t) (a.tmps.getD t undef)) (sz:Nat) (fl:List (Nat×Nat×Bool)) (place:Nat->Option (Nat×Nat)) (b:∀(k o size:Nat) (e:Bool),fl[k]? =some (o,size,e)->place k=some (o,size)) {K:List PV->Prop}:
  ∀(l:List (Nat×Operand)) (acc:List PV) (cells:Array Value),sj env sz fl K l acc->cells.size=sz->acc.length=sz->(∀(j:Nat) (pv:PV),acc[j]? =some pv->∃u,cells[j]? =some u/\cV μ h S w pv u)->
  ∃c d,K c/\Instr.fill place cells (l.map λp=>(p.1,a.eval p.2))=some d/\d.size=sz/\c.length=sz/\∀(j:Nat) (pv:PV),c[j]? =some pv->∃u,d[j]? =some u/\cV μ h S w pv u
 | [],acc,cells,hp,hs,f,g=>⟨acc,cells,hp,rfl,hs,f,g⟩
 | (k,x)::r,acc,cells,hp,hs,f,g=>by
  unfold sj at hp;split at hp
  ·rename_i o size e hk;replace hp:=bW (df hp);obtain⟨n,hp⟩:=hp;simp only[As]at n;obtain⟨⟨v,hlen⟩,q⟩:=n;have hlen:=abL hlen;have q:=aOM q;obtain⟨s,h4⟩:=oZ v (dk m x);simp only[aPp,aOL]at s h4;have i:(a.eval x).cells.size=size:=s.trans hlen;obtain⟨y,g2⟩:=wu (a.eval x) o cells aRK
   obtain⟨c,d,q1,q2,q3⟩:=Bl m sz fl place b r (ie acc o (cellsOf (ev env x))) ((a.eval x).cells.zipIdx.foldl (λ(cs:Array Value) (p:Value×Nat)=>cs.setIfInBounds (o+p.2) p.1) cells) hp (y.trans hs) (by rw[oY];exact f)
    (λj pv hj=>by
     rw[tn _ _ _ _ aRK]at hj;rw[g2 j];by_cases hc:o<=j/\j<o+size
     ·rw[An aRK]at hj;rw[An aRK];exact h4 _ _ hj
     ·rw[mg aRK]at hj;rw[mg aRK];exact g j pv hj)
   refine⟨c,d,q1,?_,q3⟩;simp only[aOC,Instr.fill,b k o size e hk];rw[mg (by simp only[i,ne_eq,aQp,false_or];simp only[aOZ,aPm,not_or];simp;omega)];exact q2
  ·exact aRg
theorem Jh:∀(fs:List Field) (n:Nat) (fl:List (Nat×Nat×Bool)),fl.length=fs.length->
  (∀(k o size:Nat) (a:Bool),fl[k]? =some (o,size,a)->∃f j,fs[k]? =some f/\f.offset=o/\P.info? f.type=some j/\j.size=size)->
  fs.mapM (λf=>(P.info? f.type).map λi=>(f.offset,i.size))=some (fl.map λq=>(q.1,q.2.1))
 | [],n,[],_,_=>rfl
 | f::fs,n,(o,size,a)::fl,b,hf=>by
  obtain⟨e,j,h1,h2,c,h4⟩:=hf 0 o size a rfl;simp at h1;subst h1
  have d:=Jh fs n fl (by simpa using b) (λk o size a hk=>by
   obtain⟨f,j,q⟩:=hf (k+1) o size a (by simpa using hk);exact⟨f,j,by simpa using q⟩)
  simp only[List.mapM_cons,aOC,c,Option.map_some,Option.bind_eq_bind,aQt,d,h2,h4];rfl
theorem Ol (u:e9 P T) (v:∀t,cj μ h S w (env t) (a.tmps.getD t undef)) (t:Nat) (parts:Array (Nat×Operand)) (hp:dF T (.build t parts) env h K):
  fx P ⟨dst,.build t parts,ty,pos,after,guard⟩ a μ h S w K:=by
 unfold dF at hp;simp only at hp;split at hp
 ·rename_i sz fl z x;obtain⟨fs,i,hu,hi,E,y,⟨c,A,e,g,l⟩,hf⟩:=u.struct _ _ _ _ x
  have m:=Jh (P:=P) fs.toList 0 fl (by simpa using y) (λk o size n hk=>by
   obtain⟨f,j,d,h1,h2,B,h4,_⟩:=hf k o size n hk;exact⟨f,j,by simpa using h1,h2,B,h4⟩)
  obtain⟨F,r,q1,q2,q3,q4,C⟩:=Bl (a:=a) (μ:=μ) (h:=h) (S:=S) (w:=w) v sz fl ((fl.map λq=>(q.1,q.2.1)).toArray[·]?) (λk o size n hk=>by simp [hk]) parts.toList z c.cells hp e g (λj pv hj=>by
   have s:j<c.cells.size:=by
    have:=(N2.1 hj).1;omega
   obtain⟨G,b,_,D⟩:=l j c.cells[j] (aOJ s);rw[hj]at b;injection b with b;subst b;exact⟨_,aOJ s,cV.mK (D S w)⟩)
  refine .mk q1 ⟨r,rfl,by omega,C⟩ λw' _=>er rfl (run_build w' t _ r ?_);unfold Program.built;simp only[hi,hu,A,m];have:(parts.map λp=>(p.1,a.eval p.2)).toList=parts.toList.map λp=>(p.1,a.eval p.2):=by simp
  rw[this];exact q2
 ·exact aRg
theorem Om {P:Program} {t:TypeId} {d:TypeDesc} {j:TypeInfo} (hu:P.underlying t=some d) (hi:P.info? t=some j) (cs:Array Value) (off:Nat) (w:World):
  (part t cs off).run P w=if FG d then .ok (.agg (cs.extract off (off+j.size))) w else match cs[off]? with | some v=>.ok v w | none=>(part t cs off).run P w:=by
 cases hd:FG d with
 | true=>simp [part,Be hu,hd,nH hi]
 | false=>
  simp only[aOi,aOn];cases hc:cs[off]? with
  | none=>rfl
  | some v=>simp [part,Be hu,hd,hc]
theorem On (A:e9 P T) (B:∀t,cj μ h S w (env t) (a.tmps.getD t undef)) (s:Nat) (x:Operand) (k:Nat) (hp:dF T (.field s x k) env h K):
  fx P ⟨dst,.field s x k,ty,pos,after,guard⟩ a μ h S w K:=by
 have hx:=dk B x;unfold dF at hp;simp only at hp;split at hp
 ·rename_i sz fl z C;split at hp
  ·rename_i o size D hk;split at hp
   ·rename_i cs hex;rw[hex]at hx;obtain⟨vs,ex,F,hv⟩:=hx;obtain⟨fs,i,hu,hi,G,H,_,hf⟩:=A.struct _ _ _ _ C;obtain⟨f,j,d,h1,h2,l,h4,I,m,n⟩:=hf k o size D hk
    have p:∀w' v,(part f.type vs f.offset).run P w'=.ok v w'->(execOp a.eval ⟨dst,.field s x k,ty,pos,after,guard⟩).run P w'=.ok (.value v) w':=λw' v E=>er rfl (by
     rw[ex];simp [Instr.field,run_underlying hu,h1,E,asAgg])
    split at hp
    ·obtain⟨hle,y⟩:=sh _ _ _ hp;simp only[aQq,aOB,aPk]at y hle;refine .mk y (val:=.agg (vs.extract o (o+size))) ⟨_,rfl,by simp;omega,λq pv b=>?_⟩ λw' _=>p w' _ (by rw[Om m l,<-n,An rfl,h2,h4]);rw[aPV]at b;split at b
     ·rename_i J;rw[aPy]at b;obtain⟨u,e,g⟩:=hv _ _ b;refine⟨u,?_,g⟩;rw[Array.getElem?_extract];have:o+q<vs.size:=(amb.1 e).1;rw[An aRK];exact e
     ·cases b
    ·split at hp
     ·rename_i c r hd
      have h0:cs[o]? =some c:=by
       have:=congrArg (·[0]?) hd;simpa using this
      obtain⟨u,e,g⟩:=hv _ _ h0;exact .mk (df hp) g.v λw' _=>p w' _ (by rw[Om m l,<-n,h2];simp [e])
     ·exact aRg
   ·exact aRg
  ·exact aRg
 ·exact aRg
theorem tT.WC {pv:PV} {v:Value} (hs:lG pv=true) (a:tT pv v):cj μ h S w pv v:=by
 have one:∀(pv:PV) (v:Value),xy pv=true->wq pv v->cV μ h S w pv v:=λpv v hs a=>by
  cases pv<;>first | (cases hs;done) | (have a:v=_:=a;subst a;first | exact ba.int _ _ | exact ba.bool _ | exact ba.str _) | exact a
 cases pv with
 | agg cs=>
  obtain⟨vs,h1,h2,c⟩:=a;exact⟨vs,h1,h2,λj pv hj=>let⟨u,hu,hc⟩:=c j pv hj;⟨u,hu,one pv u (aOl.1 hs _ (aOy hj)) hc⟩⟩
 | j3=>trivial
 | int k n=>exact one (.int k n) v rfl a
 | bool b=>exact one (.bool b) v rfl a
 | str s=>exact one (.str s) v rfl a
 | _=>cases hs
theorem tT.aBs {pv:PV} {v:Value} (hs:lG pv=true) (a:tT pv v):ky μ h S w pv v:=by
 have:=tT.WC (μ:=μ) (h:=h) (S:=S) (w:=w) hs a;cases pv with
 | fV _=>cases hs
 | _=>exact this
theorem Lh (L:e9 P T) (U:dB μ h S w) (M:∀t,cj μ h S w (env t) (a.tmps.getD t undef)) (t:Nat) (x i:Operand) (ok:Bool) (hp:dF T (.lookup t x i ok) env h K):
  fx P ⟨dst,.lookup t x i ok,ty,pos,after,guard⟩ a μ h S w K:=by
 have hx:=dk M x;have hi:=dk M i;simp only[dF]at hp;split at hp
 ·rename_i kt et zv id V hex;rw[hex]at hx;split at hp
  ·rename_i g sz n e f W;replace hp:=bW (df hp);obtain⟨hk,r,b,hm,N⟩:=hp;obtain⟨hu,inf,z,X,Y,Z,B,Bm⟩:=L.map _ _ _ _ V;obtain⟨bl,base,es,c,jq,ex,A,hn,O⟩:=FJ U (fO W) hx.Lg;obtain⟨q0,h0⟩:=Option.isSome_iff_exists.1 hk;obtain⟨d,s,hd,l,o⟩:=Uo L hi h0
   have Q:∀m,m<=n->Ji (T.get kt) f m (ev env i)->∀j,j<m->∀y:MapEntry,es.toList[j]? =some y->xx P kt d s (a.eval i) y.key false:=λm aa p j hj y hy=>by
    obtain⟨C,vp,h1,h2⟩:=p j hj;obtain⟨D,E,en,q,_,_,h4,F,_⟩:=O j aRK;rw[h1]at q;injection q with G e2;subst G;have:y=en:=by rw[aOL]at hy;exact aOY (hy.symm.trans h4)
    subst this;exact o C y.key false F h2
   have run:∃val,tT r val/\lG r=true/\∀w',dt w w'->(Instr.lookup t (.map (some bl)) (a.eval i) ok).run P w'=.ok (if ok then .tuple #[val,.bool b]else val) w':=by
    rcases hm with⟨rfl,i0,H,p,C,hf,hq⟩ | ⟨rfl,rfl,p⟩
    ·obtain⟨D,E,en,q,_,h6,h4,F,h7⟩:=O i0 H;rw[hf]at q;injection q with G e2;injection e2 with e2 _;subst G e2;refine⟨en.val,h7,h6,λw' k=>?_⟩;have I:w'.heap[bl]? =some (.map es c):=(k.blocks bl (amb.1 A).1).trans A;have J:=FM (P:=P) (w':=w') hd es.toList i0 en (Q i0 aRK p) (by rw[aOL];exact h4) (o C en.key true F hq);simp [Instr.lookup,run_underlying hu,run_getObj_map w' bl es c I,l,J]
    ·refine⟨z,Z,B,λw' k=>?_⟩;have I:w'.heap[bl]? =some (.map es c):=(k.blocks bl (amb.1 A).1).trans A
     have J:=Bi (P:=P) (w':=w') hd es.toList (λj y hy=>Q n (Of _) p j (by
      have:=(N2.1 hy).1;rw[<-hn];simpa using this) y hy)
     simp [Instr.lookup,run_underlying hu,run_getObj_map w' bl es c I,l,J,zeroValue,typeInfo,X,Y]
   obtain⟨val,u,v,R⟩:=run;cases ok with
   | true=>
    refine .mk N ?_ λw' k=>er rfl (by rw[ex];exact R w' k)
    exact⟨_,rfl,rfl,λj pv hj=>by
     rcases j with _ | _ | j
     ·cases hj;exact⟨_,rfl,u.aBs v⟩
     ·cases hj;exact⟨_,rfl,ba.bool _⟩
     ·simp at hj⟩
   | false=>exact .mk (df N) (u.WC v) λw' k=>er rfl (by rw[ex];exact R w' k)
  ·exact aRg
 ·exact aRg
theorem pT (f:e9 P T) (g:dB μ h S w) (e:∀t,cj μ h S w (env t) (a.tmps.getD t undef)) {op:Op} (hp:dF T op env h K):
  fx P ⟨dst,op,ty,pos,after,guard⟩ a μ h S w K:=by
 cases op with
 | lookup t x i ok=>exact Lh f g e t x i ok hp
 | makeFunc fn first captured=>exact(show False from hp).elim
 | move x=>exact .mk (df hp) (dk e x) λ_ _=>rfl
 | assign x=>exact .mk (df hp) (dk e x) λ_ _=>rfl
 | pick c x y=>
  have hc:=dk e c;simp only[dF]at hp;split at hp
  ·rename_i b hex;rw[hex]at hc;have m:=hc.oW;obtain⟨h1,h2⟩:=ml hp;cases b with
   | true=>exact .mk (df (h1 rfl)) (dk e x) λw' _=>by simp [execOp,m,asBool]
   | false=>exact .mk (df (h2 rfl)) (dk e y) λw' _=>by simp [execOp,m,asBool]
  ·exact aRg
 | binOp p t x y q=>exact Ww f p t q x y _ _ (dk e x) (dk e y) hp
 | unOp u t x=>
  have hx:=dk e x;simp only[dF]at hp;split at hp
  ·rename_i b hex;rw[hex]at hx;exact .mk hp (ba.bool _) λw' _=>er rfl (by rw[hx.oW,unary_not];rfl)
  ·rename_i k n hex;rw[hex]at hx;exact .mk hp (ba.int _ _) λw' _=>er rfl (by rw[hx.mJ,unary_neg];rfl)
  ·exact aRg
 | load t x=>exact FN f g t x _ (dk e x) hp
 | convert s d x=>exact Il f g e s d x hp
 | nilCheck x=>exact FR e x hp
 | fieldAddr s x k=>exact DN f e s x k hp
 | build t parts=>exact Ol f e t parts hp
 | field s x k=>exact On f e s x k hp
 | indexAddr t x i=>exact Oh f g e t x i hp
 | index t x i=>exact FO f e t x i hp
 | extract x i=>
  have hx:=dk e x;simp only[dF]at hp;split at hp
  ·rename_i vs hex;rw[hex]at hx;split at hp
   ·rename_i v hv;obtain⟨us,r,e2,z⟩:=hx;obtain⟨u,hu,o⟩:=z i v hv
    have j:cj μ h S w v u:=by
     cases v with
     | fV B=>exact(show False from o).elim
     | _=>exact o
    exact .mk (df hp) j λw' _=>er rfl (by rw[r];simp [Instr.extract,hu])
   ·exact aRg
  ·exact aRg
 | slice t x lo hi A=>exact Oj f g e t x lo hi A hp
 | call c=>
  obtain⟨l,args,ts⟩:=c;cases l with
  | builtin b=>cases b with
   | len=>exact Wy f g e args ts hp
   | _=>exact(show False from hp).elim
  | _=>exact(show False from hp).elim
 | _=>exact(show False from hp).elim
end
section
variable {P:Program}{T:sf}{μ:Mu}{h:List aq}{S:Nat->Prop}{w w1:World}
def pF (μ:Mu) (id:Nat) (p:Option (Nat×Nat)):Mu:=λj=>if j=id then p else μ j
theorem bF (μ:Mu) (id:Nat) (p:Option (Nat×Nat)):pF μ id p id=p:=by simp [pF]
theorem dN (μ:Mu) {id j:Nat} (p:Option (Nat×Nat)) (hj:j≠id):pF μ id p j=μ j:=by simp [pF,hj]
structure Core (μ:Mu) (h:List aq) (S:Nat->Prop) (w:World):Prop where
 heap:dB μ h S w
 ok:vz μ h S w
theorem FU (hc:Core μ h S w) (id g D sz n m:Nat) (e:TypeId) (f s:Nat->List PV) (hh:h[id]? =some (aq.row g sz n e f)) (d H:Nat) (I:Array Value)
  (hg:g<=D) (aa:D=g->μ id=some (d,H)/\m=n)
  (l:w.heap.size<=d\/∃base cur,μ id=some (d,base)/\w.heap[d]? =some (.cells cur e (0,0))/\cur.size=I.size)
  (hw:w1.heap[d]? =some (.cells I e (0,0))) (yM:H+m*sz<=I.size)
  (G:∀b,b<w.heap.size->b≠d->w1.heap[b]? =w.heap[b]?) (Y:w.heap.size<=w1.heap.size) (ad:w1.os=w.os) (Oo:w1.tape=w.tape) (Sn:w1.output=w.output)
  (hl:∀i,i<m->(s i).length=sz) (Wv:∀b base,μ id=some (b,base)->¬tV w b)
  (bD:∀(i j:Nat) (pv:PV),i<m->(s i)[j]? =some pv->∃v:Value,I[H+i*sz+j]? =some v/\qT μ h S w pv v) (Z:Nat)
  (xz:∀(i j L M:Nat) (e':TypeId) (N:Nat->List PV) (O:Nat->Prop),i<m->(s i)[j]? =some (.eg L M e' N O)->Z+i<n/\(f (Z+i))[j]? =some (.eg L M e' N O)):
  Fr μ h S w (pF μ id (some (d,H))) (h.set id (.row D sz m e s)) S w1/\Core (pF μ id (some (d,H))) (h.set id (.row D sz m e s)) S w1:=by
 have hid:id<h.length:=(N2.1 hh).1;have iv:(h.set id (aq.row D sz m e s))[id]? =some (aq.row D sz m e s):=by simp [hid]
 have r:∀j,j≠id->(h.set id (aq.row D sz m e s))[j]? =h[j]?:=λj hj=>by rw[aOI (aPB hj)]
 have ag:d<w1.heap.size:=(amb.1 hw).1
 have xA:d<w.heap.size->dE μ h d:=λE=>by
  rcases l with l | ⟨base,cur,hm,_,_⟩
  ·omega
  ·exact .inl ⟨id,g,sz,n,e,f,base,hh,hm⟩
 have J:∀j x y b,eK (h.set id (aq.row D sz m e s)) j x y b->eK h j (if j=id then Z+x else x) y b:=λj x y b ⟨t,u,A,B,C,L,M,e',N,O,q1,q2,q3,q4⟩=>by
  by_cases a:j=id
  ·subst a;rw[iv]at q1;injection q1 with q1;injection q1 with P e2 Q R T;subst P e2 Q R T;obtain⟨r1,U⟩:=xz x y _ _ _ _ _ q2 q3;rw[An rfl];exact⟨_,_,_,_,_,_,_,_,_,_,hh,r1,U,q4⟩
  ·rw[r j a]at q1;rw[mg a];exact aRA
 have uG:∀j x y b,eK h j x y b->b<w.heap.size/\b≠d:=λj x y b hx=>by
  have E:=hc.ok.lt b (.inr ⟨j,x,y,hx⟩);refine⟨E,?_⟩;rintro rfl;rcases l with l | ⟨base,cur,hm,_,_⟩
  ·omega
  ·exact hc.ok.hv b ⟨id,g,sz,n,e,f,base,hh,hm⟩ j x y hx
 have V:Fr μ h S w (pF μ id (some (d,H))) (h.set id (.row D sz m e s)) S w1:=by
  refine⟨by simp,λb E Bb=>?_,λ_ l=>l,λ_ l=>.inl l,λb W=>?_,Y,ad,Oo,Sn,λj t u A B C hj=>?_,λj hj=>?_,λb k BR il=>?_,λj t u A B C b base hj hm X=>?_,λb j x y hx X=>?_⟩;rotate_right
  ·obtain⟨q1,q2⟩:=uG j x y b hx;obtain⟨es,c,q⟩:=X;exact⟨es,c,(G b q1 q2).trans q⟩
  ·by_cases F:b=d
   ·subst F;exact(Bb (xA E)).elim
   ·exact G b E F
  ·rcases W with⟨j,t,u,A,B,C,pG,hj,hm⟩ | ⟨j,x,y,hx⟩;rotate_left
   ·exact .inl (.inr ⟨_,_,_,J j x y b hx⟩)
   by_cases a:j=id
   ·subst a;rw[bF]at hm;injection hm with hm;injection hm with h1 h2;subst h1;rcases aPf d w.heap.size with E | Uq
    ·exact .inl (xA E)
    ·exact .inr Uq
   ·rw[r j a]at hj;rw[dN μ _ a]at hm;exact .inl (.inl ⟨j,t,u,A,B,C,pG,hj,hm⟩)
  ·by_cases a:j=id
   ·subst a;rw[hh]at hj;injection hj with hj;injection hj with P e2 Q R T;subst P e2 Q R T;rw[iv];refine⟨hg,λhe=>?_⟩;obtain⟨h1,h2⟩:=aa he;exact⟨by rw[bF,h1],rfl,h2,rfl⟩
   ·rw[r j a,hj];exact⟨Of _,λ_=>⟨dN μ _ a,rfl,rfl,rfl⟩⟩
  ·have a:j≠id:=by rintro rfl;rw[hh]at hj;cases hj
   rw[r j a];exact hj
  ·by_cases F:b=d
   ·subst F;obtain⟨cur,e',z,q1,q2⟩:=il;rcases l with l | ⟨base,DO,hm,o9,j5⟩
    ·have:=(amb.1 q1).1;omega
    ·rw[o9]at q1;injection q1 with q1;injection q1 with q1 _ _;subst q1;exact⟨I,e,_,hw,by omega⟩
   ·exact lH.of_same (G b il.lt F) il
  ·have a:j≠id:=by rintro rfl;exact Wv b base hm X
   have F:b≠d:=by
    rintro rfl;obtain⟨es,c,q⟩:=X;rcases l with l | ⟨ri,DO,K,o9,_⟩
    ·have:=(amb.1 q).1;omega
    ·rw[o9]at q;cases q
   obtain⟨es,c,q⟩:=X;exact⟨⟨es,c,(G b (amb.1 q).1 F).trans q⟩,.inr ⟨⟨_,_,_,_,_,(r j a).trans hj⟩,by rw[dN μ _ a];exact hm⟩⟩
 refine⟨V,⟨λj t u A B C hj=>?_,?_⟩⟩
 ·by_cases a:j=id
  ·subst a;rw[iv]at hj;injection hj with hj;injection hj with P e2 Q R T;subst P e2 Q R T;rw[bF];refine⟨hl,dB.FV ⟨I,hw,yM,λi k pv hi hk=>?_⟩⟩;obtain⟨v,h1,h2⟩:=bD i k pv hi hk;refine⟨v,h1,h2.fr V hc.ok (λL M e' N O he b W=>?_)⟩;rw[he]at hk;obtain⟨r1,U⟩:=xz i k _ _ _ _ _ hi hk;obtain⟨q1,q2⟩:=uG j (Z+i) k b ⟨_,_,_,_,_,_,_,_,_,_,hh,r1,U,W⟩;exact G b q1 q2
  ·rw[r j a]at hj;obtain⟨h1,h2⟩:=hc.heap j t u A B C hj;refine⟨h1,?_⟩;rw[dN μ _ a];cases hm:μ j with
   | none=>rw[hm]at h2;exact h2
   | some p=>
    obtain⟨b,base⟩:=p;rw[hm]at h2;obtain⟨o,q1,q2⟩:=h2;have E:b<w.heap.size:=(amb.1 q1).1
    have F:b≠d:=by
     rintro rfl;rcases l with l | ⟨ri,DO,K,_⟩
     ·omega
     ·exact a (hc.ok.inj j id _ _ _ _ _ _ _ _ _ _ _ _ _ hj hh hm K)
    exact⟨o,(G b E F).trans q1,q2.mono (λi y pv v hi hy hr=>hr.fr V hc.ok (λL M e' N O he b' W=>by
     obtain⟨q1,q2⟩:=uG j i y b' ⟨_,_,_,_,_,_,_,_,_,_,hj,hi,by rw[hy,he],W⟩;exact G b' q1 q2))⟩
 ·refine⟨λb BR Ur=>?_,λb BR=>?_,λb Ur=>aOE (hc.ok.slt b Ur) Y,?_,hc.ok.Cw V,λb a2 j x y hx=>?_,λb j x y j' x' y' hx tr=>?_⟩;rotate_right 2
  ·obtain⟨q1,q2⟩:=uG _ _ _ b (J j x y b hx);obtain⟨k,gk,a3,nk,ek,fk,Ot,hk,hm⟩:=a2;by_cases zO:k=id
   ·subst zO;rw[bF]at hm;injection hm with hm;injection hm with h1 h2;exact q2 h1.symm
   ·rw[r k zO]at hk;rw[dN μ _ zO]at hm;exact hc.ok.hv b ⟨k,gk,a3,nk,ek,fk,Ot,hk,hm⟩ _ _ _ (J j x y b hx)
  ·obtain⟨r1,U,r3⟩:=hc.ok.hh b _ _ _ _ _ _ (J j x y b hx) (J j' x' y' b tr);subst r1;refine⟨rfl,?_,r3⟩;split at U<;>omega
  ·rcases V.own b BR with h1 | h1
   ·exact hc.ok.apart b h1 Ur
   ·have:=hc.ok.slt b Ur;omega
  ·rcases BR with⟨j,t,u,A,B,C,pG,hj,hm⟩ | ⟨j,x,y,hx⟩;rotate_left
   ·exact aOE (hc.ok.lt b (.inr ⟨_,_,_,J j x y b hx⟩)) Y
   by_cases a:j=id
   ·subst a;rw[bF]at hm;injection hm with hm;injection hm with h1 h2;subst h1;exact ag
   ·rw[r j a]at hj;rw[dN μ _ a]at hm;exact aOE (hc.ok.lt b (.inl ⟨j,t,u,A,B,C,pG,hj,hm⟩)) Y
  ·intro i j gi WD ni ei fi t u A B C b o o' hi hj pz oA;by_cases Mb:i=id
   ·by_cases a:j=id
    ·rw[Mb,a]
    ·subst Mb;rw[bF]at pz;injection pz with pz;injection pz with h1 h2;subst h1;rw[r j a]at hj;rw[dN μ _ a]at oA;rcases l with l | ⟨ri,DO,K,_⟩
     ·have:=hc.ok.lt _ (.inl ⟨j,t,u,A,B,C,o',hj,oA⟩);omega
     ·exact hc.ok.inj i j _ _ _ _ _ _ _ _ _ _ _ _ _ hh hj K oA
   ·rw[r i Mb]at hi;rw[dN μ _ Mb]at pz;by_cases a:j=id
    ·subst a;rw[bF]at oA;injection oA with oA;injection oA with h1 h2;subst h1;rcases l with l | ⟨ri,DO,K,_⟩
     ·have:=hc.ok.lt _ (.inl ⟨i,gi,WD,ni,ei,fi,o,hi,pz⟩);omega
     ·exact hc.ok.inj i j _ _ _ _ _ _ _ _ _ _ _ _ _ hi hh pz K
    ·rw[r j a]at hj;rw[dN μ _ a]at oA;exact aRq
theorem Jj (hc:Core μ h S w) (sz n:Nat) (e:TypeId) (f:Nat->List PV) (p:Option (Nat×Nat))
  (hp:match p with
   | none=>n=0
   | some (b,base)=>w.heap.size<=b/\∃o:Obj,w1.heap[b]? =some o/\zP (cV μ h S w) base sz n e f o)
  (a:dt w w1) (W:∀i,i<n->(f i).length=sz) (R:∀(i j:Nat) (pv:PV),i<n->(f i)[j]? =some pv->eV pv=false):
  Fr μ h S w (pF μ h.length p) (h++[.row 0 sz n e f]) S w1/\Core (pF μ h.length p) (h++[.row 0 sz n e f]) S w1:=by
 have D:∀j o,h[j]? =some o->(h++[aq.row 0 sz n e f])[j]? =some o:=λj o hj=>by
  rw[aON (N2.1 hj).1];exact hj
 have X:(h++[aq.row 0 sz n e f])[h.length]? =some (aq.row 0 sz n e f):=by simp
 have s:∀j o,(h++[aq.row 0 sz n e f])[j]? =some o->(h[j]? =some o/\j≠h.length)\/(j=h.length/\o=aq.row 0 sz n e f):=λj o hj=>by
  rcases Nat.lt_trichotomy j h.length with u | heq | Jf
  ·rw[aON u]at hj;exact .inl ⟨hj,by omega⟩
  ·subst heq;rw[X]at hj;injection hj with hj;exact .inr ⟨rfl,hj.symm⟩
  ·rw[aPc aRT]at hj;cases hj
 have T:∀j o,h[j]? =some o->pF μ h.length p j=μ j:=λj o hj=>dN μ _ (by have:=(N2.1 hj).1;omega)
 have z:∀j x y b,eK (h++[aq.row 0 sz n e f]) j x y b->eK h j x y b:=λj x y b ⟨d,g,l,m,r,Y,Z,e',f',F',q1,q2,q3,q4⟩=>by
  rcases s j _ q1 with⟨h1,h2⟩ | ⟨h1,h2⟩
  ·exact⟨_,_,_,_,_,_,_,_,_,_,h1,q2,q3,q4⟩
  ·injection h2 with E e2 F G H;subst E e2 F G H;have:=R x y _ q2 q3;cases this
 have A:Fr μ h S w (pF μ h.length p) (h++[.row 0 sz n e f]) S w1:=by
  refine⟨by simp,λb u _=>a.blocks b u,λ_ I=>I,λ_ I=>.inl I,λb J=>?_,a.size,a.os,a.tape,a.output,λj d g l m r hj=>?_,λj hj=>D j _ hj,λb k B U=>lH.of_same (a.blocks b U.lt) U,λj d g l m r b base hj hm K=>⟨let⟨es,c,q⟩:=K;⟨es,c,(a.blocks b (amb.1 q).1).trans q⟩,.inr ⟨⟨_,_,_,_,_,D j _ hj⟩,by rw[T j _ hj];exact hm⟩⟩,λb j x y hx K=>let⟨es,c,q⟩:=K;⟨es,c,(a.blocks b (amb.1 q).1).trans q⟩⟩
  ·rcases J with⟨j,d,g,l,m,r,L,hj,hm⟩ | ⟨j,x,y,hx⟩;rotate_left
   ·exact .inl (.inr ⟨_,_,_,z j x y b hx⟩)
   rcases s j _ hj with⟨h1,h2⟩ | ⟨h1,h2⟩
   ·rw[dN μ _ h2]at hm;exact .inl (.inl ⟨j,d,g,l,m,r,L,h1,hm⟩)
   ·subst h1;rw[bF]at hm;subst hm;exact .inr hp.1
  ·rw[D j _ hj];exact⟨Of _,λ_=>⟨T j _ hj,rfl,rfl,rfl⟩⟩
 refine⟨A,⟨λj d g l m r hj=>?_,?_⟩⟩
 ·rcases s j _ hj with⟨h1,h2⟩ | ⟨h1,h2⟩
  ·obtain⟨q1,q2⟩:=hc.heap j d g l m r h1;refine⟨q1,?_⟩;rw[dN μ _ h2];cases hm:μ j with
   | none=>rw[hm]at q2;exact q2
   | some M=>
    obtain⟨b,base⟩:=M;rw[hm]at q2;obtain⟨o,r1,N⟩:=q2;have u:b<w.heap.size:=(amb.1 r1).1;exact⟨o,(a.blocks b u).trans r1,N.mono (λi y pv v hi hy O=>O.fr A hc.ok (λY Z e' f' F' he V J=>a.blocks V (hc.ok.lt V (.inr ⟨j,i,y,_,_,_,_,_,_,_,_,_,_,h1,hi,he▸hy,J⟩))))⟩
  ·subst h1;injection h2 with E e2 F G H;subst E e2 F G H;rw[bF];refine⟨W,?_⟩;cases p with
   | none=>exact hp
   | some M=>
    obtain⟨b,base⟩:=M;obtain⟨_,o,r1,N⟩:=hp;exact⟨o,r1,N.mono (λi y pv v hi hy O=>(O.fr A hc.ok).k (R i y pv hi hy))⟩
 ·refine⟨λb B C=>?_,λb B=>?_,λb C=>aOE (hc.ok.slt b C) a.size,?_,hc.ok.Cw A,λb P j x y hx=>?_,λb j x y j' x' y' hx tr=>hc.ok.hh b _ _ _ _ _ _ (z j x y b hx) (z j' x' y' b tr)⟩;rotate_right
  ·have hx:=z j x y b hx;obtain⟨k,gk,Q,nk,ek,fk,Ot,hk,hm⟩:=P;rcases s k _ hk with⟨h1,h2⟩ | ⟨h1,h2⟩
   ·rw[dN μ _ h2]at hm;exact hc.ok.hv b ⟨k,gk,Q,nk,ek,fk,Ot,h1,hm⟩ _ _ _ hx
   ·subst h1;rw[bF]at hm;subst hm;have:=hc.ok.lt b (.inr ⟨_,_,_,hx⟩);have:=hp.1;omega
  ·rcases A.own b B with h1 | h1
   ·exact hc.ok.apart b h1 C
   ·have:=hc.ok.slt b C;omega
  ·rcases B with⟨j,d,g,l,m,r,L,hj,hm⟩ | ⟨j,x,y,hx⟩;rotate_left
   ·exact aOE (hc.ok.lt b (.inr ⟨_,_,_,z j x y b hx⟩)) a.size
   rcases s j _ hj with⟨h1,h2⟩ | ⟨h1,h2⟩
   ·rw[dN μ _ h2]at hm;exact aOE (hc.ok.lt b (.inl ⟨j,d,g,l,m,r,L,h1,hm⟩)) a.size
   ·subst h1;rw[bF]at hm;subst hm;obtain⟨_,o,r1,_⟩:=hp;exact(amb.1 r1).1
  ·intro i j gi WD ni ei fi d g l m r b o o' hi hj pz oA;rcases s i _ hi with⟨h1,h2⟩ | ⟨h1,h2⟩
   ·rw[dN μ _ h2]at pz;rcases s j _ hj with⟨t,h4⟩ | ⟨t,h4⟩
    ·rw[dN μ _ h4]at oA;exact hc.ok.inj i j _ _ _ _ _ _ _ _ _ _ _ _ _ h1 t pz oA
    ·subst t;rw[bF]at oA;subst oA;have:=hc.ok.lt _ (.inl ⟨i,gi,WD,ni,ei,fi,o,h1,pz⟩);have:=hp.1;omega
   ·subst h1;rw[bF]at pz;rcases s j _ hj with⟨t,h4⟩ | ⟨t,h4⟩
    ·rw[dN μ _ h4]at oA;subst pz;have:=hc.ok.lt _ (.inl ⟨j,d,g,l,m,r,o',t,oA⟩);have:=hp.1;omega
    ·exact t.symm
theorem qp (hc:Core μ h S w) (sz n:Nat) (e:TypeId) (f:Nat->List PV) (p:Option (Nat×Nat))
  (hp:match p with
   | none=>n=0
   | some (b,base)=>w.heap.size<=b/\∃cur:Array Value,w1.heap[b]? =some (.cells cur e (0,0))/\base+n*sz<=cur.size/\
    ∀(i j:Nat) (pv:PV),i<n->(f i)[j]? =some pv->∃v:Value,cur[base+i*sz+j]? =some v/\cV μ h S w pv v)
  (a:dt w w1) (c:∀i,i<n->(f i).length=sz) (d:∀(i j:Nat) (pv:PV),i<n->(f i)[j]? =some pv->eV pv=false):
  Fr μ h S w (pF μ h.length p) (h++[.row 0 sz n e f]) S w1/\Core (pF μ h.length p) (h++[.row 0 sz n e f]) S w1:=by
 refine Jj hc sz n e f p ?_ a c d;cases p with
 | none=>exact hp
 | some q=>exact⟨hp.1,dB.FV hp.2⟩
theorem lH.Li {b k:Nat} (h:lH w b k):¬tV w b:=by
 rintro⟨es,c,q⟩;obtain⟨cur,e,z,h1,_⟩:=h;rw[h1]at q;cases q
end
theorem pB.refl:∀(l:List PV),pB l l
 | []=>trivial
 | a::l=>⟨.same a,pB.refl l⟩
theorem pB.len:∀{l r:List PV},pB l r->r.length=l.length
 | [],[],_=>rfl
 | a::l,b::r,h=>by simp [pB.len h.2]
 | [],_::_,h=>h.elim
 | _::_,[],h=>h.elim
theorem pB.get:∀{l r:List PV},pB l r->∀{j:Nat} {b:PV},r[j]? =some b->∃a,l[j]? =some a/\XA a b
 | [],[],_,j,b,hj=>by simp at hj
 | a::l,c::r,h,0,b,hj=>by simp at hj;subst hj;exact⟨a,rfl,h.1⟩
 | a::l,c::r,h,j+1,b,hj=>by
  obtain⟨x,q1,q2⟩:=pB.get h.2 (j:=j) aRZ;exact⟨x,by simpa using q1,q2⟩
 | [],_::_,h,_,_,_=>h.elim
 | _::_,[],h,_,_,_=>h.elim
theorem pB.aBt:∀{l r:List PV},pB l r->∀{j:Nat} {a:PV},l[j]? =some a->∃b,r[j]? =some b/\XA a b
 | [],[],_,j,b,hj=>by simp at hj
 | a::l,c::r,h,0,b,hj=>by simp at hj;subst hj;exact⟨c,rfl,h.1⟩
 | a::l,c::r,h,j+1,b,hj=>by
  obtain⟨x,q1,q2⟩:=pB.aBt h.2 (j:=j) aRZ;exact⟨x,by simpa using q1,q2⟩
 | [],_::_,h,_,_,_=>h.elim
 | _::_,[],h,_,_,_=>h.elim
theorem XA.ao1 {a b:PV} (h:XA a b) {μ:Mu} {l:List aq} {S:Nat->Prop} {w:World} {v:Value} (c:cV μ l S w a v):cV μ l S w b v:=by
 cases h with
 | same=>exact c
 | nil sz f=>
  have c:ba S w .ck v:=c;cases c;exact ba.uE _ _ _ _
 | Dw sz e f=>exact cV.one c
def OEq:aq->aq->Prop
 | .row g sz n e f,.row a b c e' d=>g=a/\sz=b/\n=c/\e=e'/\∀i,i<n->pB (f i) (d i)
 | .dead,.dead=>True
 | _,_=>False
def fQ:List aq->List aq->Prop
 | [],[]=>True
 | o::l,a::b=>OEq o a/\fQ l b
 | _,_=>False
theorem fQ.len:∀{l a:List aq},fQ l a->l.length=a.length
 | [],[],_=>rfl
 | o::l,b::a,h=>by simp [fQ.len h.2]
 | [],_::_,h=>h.elim
 | _::_,[],h=>h.elim
theorem fQ.get:∀{l b:List aq},fQ l b->∀{j:Nat} {g sz n:Nat} {e:TypeId} {f:Nat->List PV},l[j]? =some (aq.row g sz n e f)->∃a,b[j]? =some (aq.row g sz n e a)/\∀i,i<n->pB (f i) (a i)
 | o::l,c::b,h,0,g,sz,n,e,f,hj=>by
  simp at hj;subst hj;cases c with
  | dead=>exact h.1.elim
  | row d k m e' a=>
   obtain⟨rfl,rfl,rfl,rfl,hf⟩:=h.1;exact⟨a,rfl,hf⟩
 | o::l,c::b,h,j+1,g,sz,n,e,f,hj=>by
  simp at hj;obtain⟨a,h1,h2⟩:=fQ.get h.2 hj;exact⟨a,by simpa using h1,h2⟩
 | [],[],_,_,_,_,_,_,_,hj=>by simp at hj
 | [],_::_,h,_,_,_,_,_,_,_=>h.elim
 | _::_,[],h,_,_,_,_,_,_,_=>h.elim
theorem fQ.WE:∀{l a:List aq},fQ l a->∀{j:Nat} {g sz n:Nat} {e:TypeId} {b:Nat->List PV},a[j]? =some (aq.row g sz n e b)->∃f,l[j]? =some (aq.row g sz n e f)/\∀i,i<n->pB (f i) (b i)
 | o::l,c::a,h,0,g,sz,n,e,b,hj=>by
  simp at hj;subst hj;cases o with
  | dead=>exact h.1.elim
  | row d k m e' f=>
   obtain⟨rfl,rfl,rfl,rfl,hf⟩:=h.1;exact⟨f,rfl,hf⟩
 | o::l,c::a,h,j+1,g,sz,n,e,b,hj=>by
  simp at hj;obtain⟨f,h1,h2⟩:=fQ.WE h.2 hj;exact⟨f,by simpa using h1,h2⟩
 | [],[],_,_,_,_,_,_,_,hj=>by simp at hj
 | [],_::_,h,_,_,_,_,_,_,_=>h.elim
 | _::_,[],h,_,_,_,_,_,_,_=>h.elim
theorem fQ.getD:∀{l a:List aq},fQ l a->∀{j:Nat},l[j]? =some aq.dead->a[j]? =some aq.dead
 | o::l,b::a,h,0,hj=>by
  simp at hj;subst hj;cases b with
  | dead=>rfl
  | row c d e e' f=>exact h.1.elim
 | o::l,b::a,h,j+1,hj=>by
  simp at hj;simpa using fQ.getD h.2 hj
 | [],[],_,_,hj=>by simp at hj
 | [],_::_,h,_,_=>h.elim
 | _::_,[],h,_,_=>h.elim
theorem fQ.ahV {l c:List aq} (h:fQ l c) {id i j b:Nat} (d:eK c id i j b):eK l id i j b:=by
 obtain⟨g,sz,n,e,o,p,q,e',f2,r,q1,q2,q3,q4⟩:=d;obtain⟨f,r1,k⟩:=h.WE q1;obtain⟨a,m,hle⟩:=(k i q2).get q3;cases hle with
 | same=>exact⟨_,_,_,_,_,_,_,_,_,_,r1,q2,m,q4⟩
 | Dw=>exact q4.elim
theorem fQ.aBu {l a:List aq} (h:fQ l a) {μ:Mu} {b:Nat} (c:FW μ a b):FW μ l b:=by
 obtain⟨id,g,sz,n,e,f,base,h1,h2⟩:=c;obtain⟨d,i,_⟩:=h.WE h1;exact⟨id,g,sz,n,e,d,base,i,h2⟩
theorem fQ.Cx {l c:List aq} (h:fQ l c) {μ:Mu} {b:Nat} (a:dE μ c b):dE μ l b:=by
 rcases a with a | ⟨id,i,j,a⟩
 ·exact .inl (h.aBu a)
 ·exact .inr ⟨id,i,j,h.ahV a⟩
theorem fQ.hid {l a:List aq} (h:fQ l a) {id i j b:Nat} (d:eK l id i j b):eK a id i j b:=by
 obtain⟨g,sz,n,e,f,m,o,e',f2,p,q1,q2,q3,q4⟩:=d;obtain⟨q,r1,k⟩:=h.get q1;obtain⟨c,hc,hle⟩:=(k i q2).aBt q3;cases hle;exact⟨_,_,_,_,_,_,_,_,_,_,r1,q2,hc,q4⟩
theorem fQ.owned {l c:List aq} (h:fQ l c) {μ:Mu} {b:Nat} (a:dE μ l b):dE μ c b:=by
 rcases a with⟨id,g,sz,n,e,f,base,h1,h2⟩ | ⟨x,y,z,a⟩
 ·obtain⟨d,i,_⟩:=h.get h1;exact .inl ⟨id,g,sz,n,e,d,base,i,h2⟩
 ·exact .inr ⟨_,_,_,h.hid a⟩
theorem fQ.own {l c:List aq} (h:fQ l c) {μ:Mu} {w:World} {id gen off len:Nat} {v:Value} (a:bK μ l w id gen off len v):bK μ c w id gen off len v:=by
 unfold bK at*;refine⟨a.1,?_⟩;have a:=a.2;cases b:l[id]? with
 | none=>rw[b]at a;exact a.elim
 | some o=>
  cases o with
  | dead=>rw[h.getD b];trivial
  | row g sz n e f=>
   obtain⟨d,h1,_⟩:=h.get b;rw[b]at a;rw[h1];exact a
theorem fQ.aA {l c:List aq} (h:fQ l c) {μ:Mu} {id gen i off:Nat} {v:Value} {w:World} (a:db μ l w id gen i off v):db μ c w id gen i off v:=by
 unfold db at*;refine⟨a.1,?_⟩;have a:=a.2;cases b:l[id]? with
 | none=>rw[b]at a;exact a.elim
 | some o=>
  cases o with
  | dead=>rw[h.getD b];trivial
  | row g sz n e f=>
   obtain⟨d,h1,_⟩:=h.get b;rw[b]at a;rw[h1];exact a
theorem XA.ahW {a b:PV} (h:XA a b) (c:lG a=true):b=a:=by
 cases h with
 | same=>rfl
 | _=>cases c
theorem pB.ahW {d e:PV} {l:List PV} (h:pB [d,e] l) (h1:lG d=true) (h2:lG e=true):l=[d,e]:=by
 rcases l with _ | ⟨a,_ | ⟨b,_ | ⟨c,l⟩⟩⟩
 ·exact h.elim
 ·exact h.2.elim
 ·rw[h.1.ahW h1,h.2.1.ahW h2]
 ·exact h.2.2.elim
theorem fQ.qc {l c:List aq} (h:fQ l c) {μ:Mu} {w:World} {id:Nat} {v:Value} (a:ik μ l w id v):ik μ c w id v:=by
 unfold ik at*;refine⟨a.1,?_⟩;have a:=a.2;cases b:l[id]? with
 | none=>rw[b]at a;exact a.elim
 | some o=>
  cases o with
  | dead=>rw[h.getD b];trivial
  | row g sz n e f=>
   obtain⟨d,h1,_⟩:=h.get b;rw[b]at a;rw[h1];exact a
theorem fQ.ud {l a:List aq} (h:fQ l a) {μ:Mu} {w:World} {f:Nat} {dG:List (Nat×Nat)} {v:Value} (b:sn μ l w f dG v):sn μ a w f dG v:=wL.mono b (λid g u hu=>h.aA hu)
theorem fQ.ao1 {l b:List aq} (h:fQ l b) {μ:Mu} {S:Nat->Prop} {w:World} {pv:PV} {v:Value} (a:cV μ l S w pv v):cV μ b S w pv v:=by
 cases pv with
 | own id gen off len=>exact h.own a
 | aA id gen i off=>exact h.aA a
 | qc id=>exact h.qc a
 | ud f dG=>exact h.ud a
 | _=>exact a
theorem fQ.ao2 {l a:List aq} (h:fQ l a) {μ:Mu} {S:Nat->Prop} {w:World} {pv:PV} {v:Value} (b:qT μ l S w pv v):qT μ a S w pv v:=by
 cases pv with
 | eg sz n e f F=>exact b
 | _=>exact cV.k (h.ao1 (qT.c b)) rfl
theorem XA.ao2 {a b:PV} (h:XA a b) {μ:Mu} {l:List aq} {S:Nat->Prop} {w:World} {v:Value} (c:qT μ l S w a v):qT μ l S w b v:=by
 cases h with
 | same=>exact c
 | nil sz f=>
  have c:ba S w .ck v:=c;cases c;exact ba.uE _ _ _ _
 | Dw sz e f=>
  have c:ba S w .ck v:=c;cases c;exact nU.nil _ _ _ _ (λ_ h=>h)
theorem fQ.WC {l b:List aq} (h:fQ l b) {μ:Mu} {S:Nat->Prop} {w:World} {pv:PV} {v:Value} (a:ky μ l S w pv v):ky μ b S w pv v:=by
 cases pv with
 | own id gen off len=>exact h.own a
 | aA id gen i off=>exact h.aA a
 | qc id=>exact h.qc a
 | ud f dG=>exact h.ud a
 | agg cs=>
  obtain⟨vs,h1,h2,c⟩:=a;exact⟨vs,h1,h2,λj pv hj=>by obtain⟨u,hu,hc⟩:=c j pv hj;exact⟨u,hu,h.ao1 hc⟩⟩
 | _=>exact a
theorem fQ.refl:∀(l:List aq),fQ l l
 | []=>trivial
 | .row g sz n e f::l=>⟨⟨rfl,rfl,rfl,rfl,λ_ _=>pB.refl _⟩,fQ.refl l⟩
 | .dead::l=>⟨trivial,fQ.refl l⟩
theorem fQ.set:∀(l:List aq) (id g sz n:Nat) (e:TypeId) (f a:Nat->List PV),(∀i,i<n->pB (f i) (a i))->fQ (l.set id (.row g sz n e f)) (l.set id (.row g sz n e a))
 | [],_,_,_,_,_,_,_,_=>trivial
 | o::l,0,g,sz,n,e,f,a,hf=>⟨⟨rfl,rfl,rfl,rfl,hf⟩,fQ.refl l⟩
 | o::l,id+1,g,sz,n,e,f,a,hf=>⟨by cases o;exact⟨rfl,rfl,rfl,rfl,λ_ _=>pB.refl _⟩;exact trivial,fQ.set l id g sz n e f a hf⟩
theorem fQ.snoc:∀(l:List aq) (g sz n:Nat) (e:TypeId) (f a:Nat->List PV),(∀i,i<n->pB (f i) (a i))->fQ (l++[.row g sz n e f]) (l++[.row g sz n e a])
 | [],g,sz,n,e,f,a,hf=>⟨⟨rfl,rfl,rfl,rfl,hf⟩,trivial⟩
 | o::l,g,sz,n,e,f,a,hf=>⟨by cases o;exact⟨rfl,rfl,rfl,rfl,λ_ _=>pB.refl _⟩;exact trivial,fQ.snoc l g sz n e f a hf⟩
theorem fQ.aKB {l b:List aq} (h:fQ l b) {μ:Mu} {S:Nat->Prop} {w:World} {pv:PV} {v:Value} (a:cj μ l S w pv v):cj μ b S w pv v:=by
 cases pv with
 | fV d=>
  obtain⟨vs,h1,h2,c⟩:=a;exact⟨vs,h1,h2,λj pv hj=>by obtain⟨u,hu,hc⟩:=c j pv hj;exact⟨u,hu,h.WC hc⟩⟩
 | own id gen off len=>exact h.own a
 | aA id gen i off=>exact h.aA a
 | qc id=>exact h.qc a
 | ud f dG=>exact h.ud a
 | agg cs=>exact h.WC (pv:=.agg cs) a
 | _=>exact a
theorem fQ.core {l r:List aq} (he:fQ l r) {μ:Mu} {S:Nat->Prop} {w:World} (hc:Core μ l S w):Core μ r S w:=by
 refine⟨λid g sz n e f hid=>?_,⟨λb h=>hc.ok.apart b (he.Cx h),λb h=>hc.ok.lt b (he.Cx h),hc.ok.slt,λi j g sz n e f x y A e' s b o B hi hj h1 k=>?_,hc.ok.known,λb h id i j hx=>hc.ok.hv b (he.aBu h) id i j (he.ahV hx),λb _ _ _ _ _ _ hx hy=>hc.ok.hh b _ _ _ _ _ _ (he.ahV hx) (he.ahV hy)⟩⟩
 ·obtain⟨s,h1,k⟩:=he.WE hid;obtain⟨q1,q2⟩:=hc.heap id g sz n e s h1;refine⟨λi hi=>by rw[(k i hi).len];exact q1 i hi,?_⟩;cases hm:μ id with
  | none=>rw[hm]at q2;exact q2
  | some p=>
   obtain⟨b,base⟩:=p;rw[hm]at q2;obtain⟨o,r1,d⟩:=q2;refine⟨o,r1,?_⟩;cases o with
   | cells cur e' z=>
    obtain⟨d,m,C,D⟩:=d;refine⟨d,m,C,λi j pv hi hj=>?_⟩;obtain⟨a,E,hle⟩:=(k i hi).get hj;obtain⟨v,hv,q⟩:=D i j a hi E;exact⟨v,hv,he.ao2 (hle.ao2 q)⟩
   | map es c=>
    obtain⟨d,m⟩:=d;refine⟨d,λi hi=>?_⟩;obtain⟨F,G,en,H,t,u,I⟩:=m i hi;have hle:=k i hi;rw[H]at hle;exact⟨F,G,en,hle.ahW t u,t,u,I⟩
   | _=>exact d.elim
 ·obtain⟨J,q1,_⟩:=he.WE hi;obtain⟨K,q2,_⟩:=he.WE hj;exact hc.ok.inj i j g sz n e J x y A e' K b o B q1 q2 h1 k
theorem fQ.fr {l h:List aq} (he:fQ l h) {μ0 μ:Mu} {h0:List aq} {S0 S:Nat->Prop} {i w:World} (a:Fr μ0 h0 S0 i μ l S w):Fr μ0 h0 S0 i μ h S w:=by
 refine⟨by rw[<-he.len];exact a.len,a.blocks,a.sub,a.new,λb j=>a.own b (he.Cx j),a.size,a.os,a.tape,a.output,λid g sz n e f hid=>?_,λid hid=>he.getD (a.dead id hid),a.dG,λid g sz n e f b base hj hm k=>?_,a.ze⟩;rotate_left
 ·obtain⟨r1,c⟩:=a.maps id g sz n e f b base hj hm k;refine⟨r1,?_⟩;rcases c with c | ⟨⟨m,p,q,e',r,c⟩,s⟩
  ·exact .inl (he.getD c)
  ·obtain⟨f2,h1,_⟩:=he.get c;exact .inr ⟨⟨_,_,_,_,_,h1⟩,s⟩
 have hg:=a.FX id g sz n e f hid;cases d:l[id]? with
 | none=>rw[d]at hg;exact hg.elim
 | some o=>
  cases o with
  | dead=>rw[he.getD d];trivial
  | row m p q e' r=>
   obtain⟨f2,h1,_⟩:=he.get d;rw[d]at hg;rw[h1];exact hg
section
variable {P:Program}{T:sf}{μ:Mu}{h:List aq}{S:Nat->Prop}{w:World}
def im (P:Program) (o:Oper) (a:Act) (μ:Mu) (h:List aq) (S:Nat->Prop) (w:World) (K:PV->List aq->Prop):Prop:=
 ∀(next:Act->World->Prop) (Q:Exit->Act->World->Prop),
  (∀v val h' μ' S' w',K v h'->cj μ' h' S' w' v val->Core μ' h' S' w'->Fr μ h S w μ' h' S' w'->next (a.put o.dst val) w')->o.wp P a w next Q
theorem im.rows {o:Oper} {a:Act} {K:PV->List aq->Prop} (b:im P o a μ h S w (λv h1=>∃h2,fQ h1 h2/\K v h2)):im P o a μ h S w K:=by
 intro next Q c
 refine b next Q λv val h' μ' S' w' ⟨h2,he,d⟩ hv hc hf=>?_
 exact c v val h2 μ' S' w' d (he.aKB hv) (he.core hc) (he.fr hf)
theorem im.uH {o:Oper} {a:Act} {K:PV->List aq->Prop} (hc:Core μ h S w) (hs:fx P o a μ h S w (λv=>K v h)):im P o a μ h S w K:=by
 obtain⟨v,val,b,hv,c⟩:=hs;intro next Q d
 unfold Oper.wp;rw[c w (dt.refl w)];exact d v val h μ S w b hv hc Fr.refl
theorem im.jT {o:Oper} {a:Act} {K:PV->List aq->Prop} {v:PV} {val:Value} {h':List aq} {μ':Mu} {S':Nat->Prop} {w':World} (b:(execOp a.eval o).run P w=.ok (.value val) w') (c:K v h') (hv:cj μ' h' S' w' v val)
  (hc:Core μ' h' S' w') (hf:Fr μ h S w μ' h' S' w'):im P o a μ h S w K:=by
 intro next Q d
 unfold Oper.wp;rw[b];exact d v val h' μ' S' w' c hv hc hf
theorem im.Us {o:Oper} {a:Act} {K:PV->List aq->Prop} {h':List aq} {μ':Mu} {S':Nat->Prop} {w':World} (b:(execOp a.eval o).run P w=.ok .skip w') (c:K .j3 h')
  (hc:Core μ' h' S' w') (hf:Fr μ h S w μ' h' S' w'):im P o a μ h S w K:=by
 intro next Q d
 unfold Oper.wp;rw[b];exact d .j3 undef h' μ' S' w' c trivial hc hf
theorem ahX (c:e9 P T) {t:Nat} {n:Nat} (a:mR (T.get t)=n) (e:0<n):∃i,P.info? t=some i/\i.size=n:=by
 cases b:T.get t with
 | struct sz fl z=>
  obtain⟨fs,i,_,hi,d,_⟩:=c.struct _ _ _ _ b;rw[b]at a;exact⟨i,hi,d.trans a⟩
 | other=>rw[b]at a;simp [mR]at a;omega
 | _=>
  rw[b]at a;have h1:n=1:=a.symm;subst h1;refine c.one t ?_ ?_
  ·rw[b];rfl
  ·intro sz fl z hh;rw[b]at hh;cases hh
variable {a:Act}{env:Env}{K:PV->List aq->Prop}{dst:Option Tmp}{ty:TypeId}{pos:String}{after:Array Edge}{guard:Option (Nat×Bool)}
theorem zQ (cur vs:List Value) (o q:Nat) (c:o+vs.length<=cur.length):
  (cur.take o++vs++cur.drop (o+vs.length))[q]? =if o<=q/\q<o+vs.length then vs[q - o]? else cur[q]?:=by
 have h1:(cur.take o).length=o:=by simp;omega
 by_cases a:q<o
 ·rw[mg aRK,aOQ,aON aRK,aPV,An a]
 ·by_cases b:q<o+vs.length
  ·rw[An ⟨by omega,b⟩,aON aRT,aOH aRK,h1]
  ·rw[mg aRK,aOH aRT,aPy];congr 1;simp;omega
theorem Ou (V:e9 P T) (hc:Core μ h S w) (I:∀t,cj μ h S w (env t) (a.tmps.getD t undef)) (t:Nat) (o x:Operand) (hp:pop P T (.store t o x) env h K):
  im P ⟨dst,.store t o x,ty,pos,after,guard⟩ a μ h S w K:=by
 have hx:=dk I x;have J:=dk I o;simp only[pop]at hp;split at hp
 ·rename_i id gen i off C;rw[C]at J;split at hp
  ·rename_i g sz n e f hg;obtain⟨rfl,hp⟩:=hp;replace hp:=bW (df hp);obtain⟨L,D⟩:=hp;simp only[As]at L;obtain⟨⟨⟨M,y⟩,l⟩,hle⟩:=L;have y:=aOM y;have l:=abL l;have hle:=aOM hle;have hh:=fO hg;have c:=J.xw;unfold db at c;rw[hh]at c;obtain⟨_,_,c⟩:=c;obtain⟨p,b,base,z,N,E⟩:=c rfl;obtain⟨m,O⟩:=hc.heap id g sz n e f hh;rw[z]at O;obtain⟨cur,F,yM,Q⟩:=dB.cells N.1 O;obtain⟨G,q⟩:=oZ M hx;have r:∀(j:Nat) (pv:PV),(cellsOf (ev env x))[j]? =some pv->eV pv=false:=λj pv hj=>Sk M hj;generalize W:cellsOf (ev env x)=cs at*;generalize s:(a.eval x).cells.toList=vs at*;have y:0<cs.length:=by omega
   obtain⟨inf,X,Y⟩:=ahX V l y;have hmul:(i+1)*sz<=n*sz:=aOF _ p
   rw[aOA]at hmul
   have R:(storeCells ⟨b,base+i*sz+off,none⟩ vs 0).run P w=.ok () (w.setRow b (cur.toList.take (base+i*sz+off+0)++vs++cur.toList.drop (base+i*sz+off+0+vs.length)).toArray):=
    run_storeCells_at P b (base+i*sz+off) e vs 0 cur w F aRK (λv hv=>by
     obtain⟨j,hj,rfl⟩:=aPL.1 hv;have Z:j<cs.length:=by omega
     obtain⟨u,hu,c⟩:=q j cs[j] (abF Z);rw[abF hj]at hu;injection hu with hu;rw[hu];exact c.one)
   rw[aPv]at R
   have A:∀k,(cp f i (ie (f i) off cs) k)=if k=i then ie (f i) off cs else f k:=λk=>by
    unfold cp;by_cases hk:k=i
    ·subst hk;simp
    ·have:Nat.beq k i=false:=by
      cases hb:Nat.beq k i with
      | true=>exact(hk (abL hb)).elim
      | false=>rfl
     simp [this,hk]
   have qw:=FU (w1:=w.setRow b (cur.toList.take (base+i*sz+off)++vs++cur.toList.drop (base+i*sz+off+vs.length)).toArray) hc id g g sz n n e f (cp f i (ie (f i) off cs)) hh b base
    (cur.toList.take (base+i*sz+off)++vs++cur.toList.drop (base+i*sz+off+vs.length)).toArray (Of _) (λ_=>⟨z,rfl⟩)
    (.inr ⟨base,cur,z,F,by simp;omega⟩) (setRow_heap w b cur _ e _ F) aRT
    (λU _ pU=>setRow_other w b U _ pU) aRN rfl rfl rfl
    (λk hk=>by
     rw[A];split
     ·rename_i d;subst d;rw[oY];exact m _ hk
     ·exact m k hk)
    (λU ri B=>by rw[z]at B;injection B with B;injection B with h1 _;subst h1;exact N.1.Li)
    (λk j pv hk hj=>by
     have Sg:j<sz:=by
      have h1:=(N2.1 hj).1;rw[A]at h1;split at h1
      ·rw[oY,m i p]at h1;exact h1
      ·rw[m k hk]at h1;exact h1
     have Im:(cur.toList.take (base+i*sz+off)++vs++cur.toList.drop (base+i*sz+off+vs.length)).toArray[base+k*sz+j]? =if base+i*sz+off<=base+k*sz+j/\base+k*sz+j<base+i*sz+off+vs.length then vs[base+k*sz+j - (base+i*sz+off)]? else cur[base+k*sz+j]?:=by
      have H:=zQ cur.toList vs (base+i*sz+off) (base+k*sz+j) aRT;rw[aQe,H];simp only[aOL]
     rw[Im];rw[A]at hj;by_cases d:k=i
     ·subst d;rw[An rfl,tn cs (f k) off j (by rw[m k hk];exact hle)]at hj;by_cases c:off<=j/\j<off+cs.length
      ·rw[An c]at hj;rw[An aRK];obtain⟨u,hu,qR⟩:=q _ _ hj;exact⟨u,by rw[<-hu];congr 1;omega,qR.k (r _ _ hj)⟩
      ·rw[mg c]at hj;rw[mg aRK];exact Q k j pv hk hj
     ·rw[mg d]at hj
      have Sn:¬(base+i*sz+off<=base+k*sz+j/\base+k*sz+j<base+i*sz+off+vs.length):=by
       rcases Nat.lt_or_gt_of_ne d with bg | Jf
       ·have:(k+1)*sz<=i*sz:=aOF _ bg;rw[aOA]at this;omega
       ·have:(i+1)*sz<=k*sz:=aOF _ Jf;rw[aOA]at this;omega
      rw[mg Sn];exact Q k j pv hk hj) 0 (λk j cW n' e' f' F' hk hj=>by
    rw[are];refine⟨hk,?_⟩;rw[A]at hj;by_cases d:k=i
    ·subst d;rw[An rfl,tn cs (f k) off j (by rw[m k hk];exact hle)]at hj;by_cases c:off<=j/\j<off+cs.length
     ·rw[An c]at hj;have:=r _ _ hj;cases this
     ·rw[mg c]at hj;exact hj
    ·rw[mg d]at hj;exact hj)
   obtain⟨kP,ue⟩:=qw;obtain⟨_,f',rfl,Mc,D⟩:=D;refine im.rows (im.Us ?_ ⟨_,fQ.set _ _ _ _ _ _ _ _ Mc,D⟩ ue kP);have e1:(execOp a.eval ⟨dst,.store t o x,ty,pos,after,guard⟩)=(do Instr.storeAt t (a.eval o) (a.eval x);pure .skip:Sem Next):=rfl;rw[e1,E]
   have j5:¬(a.eval x).cells.size≠inf.size:=by
    rw[Y];simp only[ne_eq,Decidable.not_not];rw[<-G,<-s];simp
   simp only[Instr.storeAt,Instr.sureAddr,storeVar,Sem.run_bind,Sem.run_pure,Result.andThen,nH X,mg j5,s,R]
  ·exact aRg
 ·exact aRg
theorem Ip (z:Array Value) (n q:Nat) (a:q<n) (b:0<z.size):(madeCells z n)[q]? =z[q % z.size]?:=by
 have h1:q % z.size<z.size:=Nat.mod_lt _ b;simp [madeCells,a,h1]
theorem ahY (i j sz:Nat) (hj:j<sz):(i*sz+j) % sz=j:=by
 rw[Nat.mul_comm,Nat.mul_add_mod];exact Nat.mod_eq_of_lt hj
theorem oq (w:World) (o:Obj):dt w (w.alloc o):=
 ⟨λb a=>Below.heap_alloc w o b a,by simp,rfl,rfl,rfl⟩
theorem So (z:e9 P T) (hc:Core μ h S w) (v:∀t,cj μ h S w (env t) (a.tmps.getD t undef)) (t:Nat) (l c:Operand) (hp:pop P T (.makeSlice t l c) env h K):
  im P ⟨dst,.makeSlice t l c,ty,pos,after,guard⟩ a μ h S w K:=by
 have x:=dk v l;have y:=dk v c;simp only[pop]at hp;split at hp
 ·rename_i e sz bytes zero k n A m B p q;rw[p]at x;rw[q]at y;obtain⟨⟨h0,h1,h2,R⟩,_,U,rfl,C,D⟩:=hp;obtain⟨hu,V,inf,d,E,F,r,G,s,f,g⟩:=z.slice _ _ _ _ _ B;subst F r
  have hm:(inf.bytes:Int)*m<=281474976710656:=by
   have H:(m.toNat:Int)=m:=Int.toNat_of_nonneg aRK;have e2:((m.toNat*inf.bytes:Nat):Int)<=140737488355328:=by omega
   rw[Int.natCast_mul,H,Int.mul_comm]at e2;omega
  have I:=run_make (P:=P) w t e inf d hu E G k A n m h0 h1 hm aRK
  have J:=qp (w1:=w.alloc (.cells (madeCells d.cells (m.toNat*inf.size)) e)) hc inf.size n.toNat e (λ_=>zero) (some (w.heap.size,0))
   ⟨Of _,_,heap_alloc_new w _,by
    rw[size_madeCells,are];exact aOF _ aRK,λi j pv hi hj=>by
    have L:j<inf.size:=by rw[<-f];exact(N2.1 hj).1
    have M:0+i*inf.size+j<m.toNat*inf.size:=by
     have:(i+1)*inf.size<=m.toNat*inf.size:=aOF _ aRK;rw[aOA]at this;omega
    rw[Ip _ _ _ M aRK,are,s,ahY i j _ L];have o:j<d.cells.size:=by omega
    obtain⟨N,b,_,u⟩:=g j d.cells[j] (aOJ o);rw[hj]at b;injection b with b;subst b;exact⟨_,aOJ o,cV.mK (u S w)⟩⟩ (oq w _) (λi hi=>f) (λi j pv _ hj=>by
  have o:j<d.cells.size:=by have:=(N2.1 hj).1;omega
  obtain⟨N,b,_,u⟩:=g j d.cells[j] (aOJ o);rw[hj]at b;injection b with b;rw[b];exact ba.no (u S w))
  obtain⟨O,Q⟩:=J;refine im.rows (im.jT (er rfl (by rw[x.mJ,y.mJ];exact I)) ⟨_,fQ.snoc _ _ _ _ _ _ _ C,D⟩ ?_ Q O);show bK _ _ _ _ _ _ _ _;unfold bK;rw[aOH (Of _),aPz];refine⟨⟨_,_,_,rfl⟩,Of _,λ_=>⟨by omega,?_⟩⟩;rw[bF];refine⟨_,m.toNat,rfl,by omega,λ_=>by simp,_,e,_,heap_alloc_new w _,?_⟩;rw[size_madeCells];simp
 ·exact aRg
theorem Ov (sz len:Nat) (place:Nat->Option (Nat×Nat)) (e:∀i,place i=some (i*sz,sz)):∀(l:List (Nat×Operand)) (ρ:Operand->Value) (k:Nat) (cells:Array Value),C9 len k l=true->cells.size=len*sz->
  (∀p∈l,(ρ p.2).cells.size=sz)->
  ∃d,Instr.fill place cells (l.map λp=>(p.1,ρ p.2))=some d/\d.size=len*sz/\(∀q,q<k*sz->d[q]? =cells[q]?)/\
   ∀(i j:Nat) (p:Nat×Operand),l[i]? =some p->j<sz->d[(k+i)*sz+j]? =(ρ p.2).cells[j]?
 | [],ρ,k,cells,hi,hs,_=>⟨cells,rfl,hs,λ_ _=>rfl,λi j p hp=>by simp at hp⟩
 | (i0,x)::r,ρ,k,cells,hi,hs,hv=>by
  simp only[C9,As]at hi;have f:=abL hi.1;subst f
  have hlen:∀(l:List (Nat×Operand)) (k:Nat),C9 len k l=true->k<=len:=by
   intro l;induction l with
   | nil=>intro k h;exact Nat.le_of_eq (abL h)
   | cons p l n=>
    intro k h;obtain⟨a,b⟩:=p;simp only[C9,As]at h;have:=n (k+1) h.2;omega
  have hk:=hlen r (i0+1) hi.2;have c:=hv (i0,x) aRN;have o:(i0+1)*sz<=len*sz:=aOF _ hk;have g:=o;rw[aOA]at g;obtain⟨s,g2⟩:=wu (ρ x) (i0*sz) cells (by rw[c];omega);obtain⟨d,h1,h2,m,h4⟩:=Ov sz len place e r ρ (i0+1) _ hi.2 (s.trans hs) (λp hp=>hv p (by simp [hp]));refine⟨d,?_,h2,λq t=>?_,λi j p hp hj=>?_⟩
  ·simp only[aOC,Instr.fill,e];rw[mg (by simp only[c,ne_eq,aQp,false_or];simp only[aOZ,aPm,not_or];simp;omega)];exact h1
  ·rw[m q (by rw[aOA];omega),g2 q,mg aRK]
  ·cases i with
   | zero=>
    simp at hp;subst hp;rw[aPv,m _ (by rw[aOA];omega),g2,c,An aRK];congr 1;omega
   | succ i=>
    simp at hp;have:=h4 i j p hp hj;rw[show i0+1+i=i0+(i+1)from by omega]at this;exact this
theorem Cy (C:e9 P T) (hc:Core μ h S w) (D:∀t,cj μ h S w (env t) (a.tmps.getD t undef)) (t len:Nat) (parts:Array (Nat×Operand)) (hp:pop P T (.buildSlice t len parts) env h K):
  im P ⟨dst,.buildSlice t len parts,ty,pos,after,guard⟩ a μ h S w K:=by
 simp only[pop]at hp;split at hp
 ·rename_i e sz bytes zero E;replace hp:=bW hp;obtain⟨v,c⟩:=hp;obtain⟨hu,j5,inf,f,n,F,G,H,I,J,L⟩:=C.slice _ _ _ _ _ E;subst F;simp only[As]at v;obtain⟨z,hle⟩:=v;have hle:=aOM hle;obtain⟨A,c⟩:=Da _ _ c;simp only[aQq,aOB]at c
  have o:∀p∈parts.toList,(a.eval p.2).cells.size=inf.size/\(cellsOf (ev env p.2)).length=inf.size/\
    ∀(j:Nat) (q:PV),(cellsOf (ev env p.2))[j]? =some q->∃u,(a.eval p.2).cells[j]? =some u/\cV μ h S w q u:=λp hp=>by
   obtain⟨h1,h2⟩:=A p hp;have h2:=abL h2;obtain⟨B,h4⟩:=oZ h1 (dk D p.2);simp only[aPp,aOL]at B h4;exact⟨B.trans h2,h2,h4⟩
  obtain⟨g,M,f2,_,N⟩:=Ov inf.size len (λi=>some (i*inf.size,inf.size)) (λ_=>rfl) parts.toList a.eval 0
   ((Array.range (len*inf.size)).map (λq=>(if len*inf.size=0 then #[]else f.cells)[q % (if len*inf.size=0 then #[]else f.cells).size]!)) z aRN (λp hp=>(o p hp).1)
  have hlen:parts.toList.length=len:=by
   have key:∀(l:List (Nat×Operand)) (k:Nat),C9 len k l=true->k+l.length=len:=by
    intro l;induction l with
    | nil=>intro k hh;exact abL hh
    | cons p l O=>
     intro k hh;obtain⟨x,y⟩:=p;simp only[C9,As]at hh;have:=O (k+1) hh.2;simp only[At];omega
   have:=key parts.toList 0 z;omega
  have eJ:∀i,i<len->∃p,parts.toList[i]? =some p/\p∈parts.toList/\(parts.toList.map λp=>cellsOf (ev env p.2)).getD i []=cellsOf (ev env p.2):=λi hi=>by
   have r:i<parts.toList.length:=by omega
   refine⟨parts.toList[i],abF r,aOD r,?_⟩;rw[aOp,aOG,abF r];rfl
  have Q:=qp (w1:=w.alloc (.cells g e)) hc inf.size len e (λk=>(parts.toList.map λp=>cellsOf (ev env p.2)).getD k []) (some (w.heap.size,0))
   ⟨Of _,g,heap_alloc_new w _,by omega,λi j pv hi hj=>by
    obtain⟨p,IG,d,b⟩:=eJ i hi;rw[b]at hj;obtain⟨_,q2,q3⟩:=o p d;have R:j<inf.size:=by rw[<-q2];exact(N2.1 hj).1
    have:=N i j p IG R;rw[are]at this;obtain⟨u,U,V⟩:=q3 j pv hj;exact⟨u,by rw[<-U,<-this,are],V⟩⟩ (oq w _)
   (λi hi=>by
    obtain⟨p,IG,d,b⟩:=eJ i hi;rw[b];exact(o p d).2.1) (λi j pv hi hj=>by
    obtain⟨p,IG,d,b⟩:=eJ i hi;rw[b]at hj;exact Sk (A p d).1 hj)
  obtain⟨W,X⟩:=Q;obtain⟨f',Y,c⟩:=c;refine im.rows (im.jT (val:=.slice (some ⟨w.heap.size,0,none⟩) len len) (er rfl ?_) ⟨_,fQ.snoc _ _ _ _ _ _ _ Y,c⟩ ?_ X W)
  ·have s:(parts.map λp=>(p.1,a.eval p.2)).toList=parts.toList.map λp=>(p.1,a.eval p.2):=by simp
   have Z:¬(16777216<len*inf.size):=by omega
   have m:Instr.fill (λi=>some (i*inf.size,inf.size)) (Array.map (λx=>(if len*inf.size=0 then #[]else f.cells)[x % (if len*inf.size=0 then #[]else f.cells).size]!) (Array.range (len*inf.size))) (parts.map λp=>(p.1,a.eval p.2)).toList=some g:=by
    rw[s];exact M
   by_cases h0:len*inf.size=0
   ·simp [h0]at m;simp only[Instr.buildSlice,Sem.run_bind,run_underlying hu,Result.andThen,nH n];simp [h0,newRow];rw[m];rfl
   ·simp [h0]at m;simp only[Instr.buildSlice,Sem.run_bind,run_underlying hu,Result.andThen,nH n];simp [h0,Z,newRow,zeroValue,typeInfo,n,H];rw[m];rfl
  ·show bK _ _ _ _ _ _ _ _;unfold bK;rw[aOH (Of _),aPz];refine⟨⟨_,_,_,rfl⟩,Of _,λ_=>⟨by omega,?_⟩⟩;rw[bF];exact⟨_,len,rfl,Of _,λ_=>by simp,g,e,_,heap_alloc_new w _,by rw[are,are];omega⟩
 ·exact aRg
theorem WI (hc:Core μ h S w) (d:∀t,cj μ h S w (env t) (a.tmps.getD t undef)) (t:Nat) (x:Operand) (hp:pop P T (.box t x) env h K):
  im P ⟨dst,.box t x,ty,pos,after,guard⟩ a μ h S w K:=by
 simp only[pop]at hp;replace hp:=bW (df hp);obtain⟨b,e⟩:=hp;simp only[As]at b;obtain⟨c,hlen⟩:=b;have hlen:=abL hlen;obtain⟨f,h4⟩:=oZ c (dk d x);simp only[aPp,aOL]at f h4
 have g:=qp (w1:=w.alloc (.cells (a.eval x).cells t)) hc (mR (T.get t)) 1 t (λ_=>cellsOf (ev env x)) (some (w.heap.size,0))
  ⟨Of _,_,heap_alloc_new w _,by omega,λi j pv hi hj=>by
   obtain⟨u,hu,k⟩:=h4 j pv hj;have:i=0:=by omega
   subst this;exact⟨u,by rw[<-hu];congr 1;omega,k⟩⟩ (oq w _) (λi hi=>hlen) (λi j pv _ hj=>Sk c hj)
 obtain⟨l,m⟩:=g;refine im.jT (val:=.pointer (some ⟨w.heap.size,0,none⟩)) (er rfl ?_) e ?_ m l
 ·simp [Instr.box,newVar,newRow]
 ·show db _ _ _ _ _ _ _ _;unfold db;rw[aOH (Of _),aPz];refine⟨⟨_,rfl⟩,Of _,λ_=>⟨by omega,w.heap.size,0,bF _ _ _,⟨⟨_,_,_,heap_alloc_new w _,aPF _⟩,λ_=>rfl⟩,?_⟩⟩;simp
theorem Ow (k:e9 P T) (hc:Core μ h S w) (t:Nat) (hp:pop P T (.alloc t) env h K):
  im P ⟨dst,.alloc t,ty,pos,after,guard⟩ a μ h S w K:=by
 simp only[pop]at hp;split at hp
 ·rename_i z l;obtain⟨i,c,hi,m,n,f,d⟩:=k.zero t z l;generalize s:mR (T.get t)=sz at*
  have o:=qp (w1:=w.alloc (.cells c.cells t)) hc sz 1 t (λ_=>z) (some (w.heap.size,0))
   ⟨Of _,_,heap_alloc_new w _,by omega,λi j pv hi hj=>by
    have e:j<c.cells.size:=by
     have:=(N2.1 hj).1;omega
    obtain⟨p,b,_,g⟩:=d j c.cells[j] (aOJ e);rw[hj]at b;injection b with b;subst b;have:i=0:=by omega
    subst this;exact⟨_,by rw[<-aOJ e];congr 1;omega,cV.mK (g S w)⟩⟩ (oq w _) (λi hi=>f) (λi j pv _ hj=>by
  have e:j<c.cells.size:=by have:=(N2.1 hj).1;omega
  obtain⟨p,b,_,g⟩:=d j c.cells[j] (aOJ e);rw[hj]at b;injection b with b;rw[b];exact ba.no (g S w))
  obtain⟨q,r⟩:=o;refine im.jT (val:=.pointer (some ⟨w.heap.size,0,none⟩)) (er rfl ?_) hp ?_ r q
  ·simp [Instr.alloc,zeroValue,typeInfo,hi,m,newVar,newRow]
  ·show db _ _ _ _ _ _ _ _;unfold db;rw[aOH (Of _),aPz];refine⟨⟨_,rfl⟩,Of _,λ_=>⟨by omega,w.heap.size,0,bF _ _ _,⟨⟨_,_,_,heap_alloc_new w _,aPF _⟩,λ_=>rfl⟩,?_⟩⟩;simp
 ·exact aRg
end
end Go.Am
