/- Texts of the proof, joined and shortened. -/
import Derived.Test.YtiigfbapjeefbaaGreatDoorPk0
import Derived.WalkLawsBesides
set_option linter.unusedVariables false
set_option linter.unusedSimpArgs false
namespace Go.Am
open Go Go.RowKit
def Gr:TypeDesc->Bool
 | .struct _=>true
 | .array _ _=>true
 | _=>false
def rr (P:Program):Nat->List Field->List PV->Bool
 | _,[],[]=>true
 | n,f::r,.int k _::z=>f.name != "_" &&Nat.beq f.offset n&&(match P.underlying f.type with | some (.int a)=>xi k a | _=>false)&&rr P (n+1) r z
 | n,f::r,.bool _::z=>f.name != "_" &&Nat.beq f.offset n&&(match P.underlying f.type with | some .bool=>true | _=>false)&&rr P (n+1) r z
 | n,f::r,.str _::z=>f.name != "_" &&Nat.beq f.offset n&&(match P.underlying f.type with | some .string=>true | _=>false)&&rr P (n+1) r z
 | _,_,_=>false
def QC (P:Program) (t:Nat) (z:List PV):Bool:=match P.underlying t with
 | some (.struct fs)=>!(P.stoodInHeld t)&&!(P.eqGuardType P.depth t)&&rr P 0 fs.toList z
 | _=>false
structure fL (P:Program) (T:ru):Prop where
 flat:∀t sz fl z,T.get t=.struct sz fl z->EC z=true->QC P t z=true
 int:∀t k,T.get t=.int k->P.underlying t=some (.int k)
 bool:∀t,T.get t=.bool->P.underlying t=some .bool
 str:∀t,T.get t=.str->P.underlying t=some .string
 ptr:∀t e,T.get t=.ptr e->P.underlying t=some (.pointer e)
 slice:∀t e sz by' z,T.get t=.slice e sz by' z->P.underlying t=some (.slice e)/\0<sz/\∃i zv,P.info? e=some i/\i.size=sz/\i.bytes=by'/\i.zero=some zv/\zv.cells.size=sz/\z.length=sz/\
  ∀(j:Nat) (u:Value),zv.cells[j]? =some u->∃pv:PV,z[j]? =some pv/\u.oneCell'=true/\∀S w,bh S w pv u
 map:∀t k e z,T.get t=.map k e z->P.underlying t=some (.map k e)/\∃i zv,P.info? e=some i/\i.zero=some zv/\Gt z zv/\rv z=true/\storable z=true
 bytes:∀t e sz by' z,T.get t=.slice e sz by' z->0<by'
 one:∀t,mz (T.get t)=1->(∀sz fl z,T.get t≠.struct sz fl z)->∃i,P.info? t=some i/\i.size=1
 zero:∀t z,ED (T.get t)=some z->∃i zv,P.info? t=some i/\i.zero=some zv/\zv.cells.size=mz (T.get t)/\z.length=mz (T.get t)/\
  ∀(j:Nat) (u:Value),zv.cells[j]? =some u->∃pv:PV,z[j]? =some pv/\u.oneCell'=true/\∀S w,bh S w pv u
 struct:∀t sz fl z,T.get t=.struct sz fl z->∃fs i,P.underlying t=some (.struct fs)/\P.info? t=some i/\i.size=sz/\fl.length=fs.size/\
  (∃zv,i.zero=some zv/\zv.cells.size=sz/\z.length=sz/\∀(j:Nat) (u:Value),zv.cells[j]? =some u->∃pv:PV,z[j]? =some pv/\u.oneCell'=true/\∀S w,bh S w pv u)/\
  ∀(k:Nat) (off size:Nat) (ag:Bool),fl[k]? =some (off,size,ag)->∃f j d,fs[k]? =some f/\f.offset=off/\P.info? f.type=some j/\j.size=size/\0<size/\
   P.underlying f.type=some d/\ag=Gr d
section
variable {P:Program}{T:ru}{μ:Mu}{h:List ao}{S:Nat->Prop}{w:World}
theorem cE.mU {k:IntKind} {n:Int} {v:Value} (hv:cE μ h S w (.int k n) v):v=.int k n:=by
 have hv:bh S w (.int k n) v:=hv;cases hv;rfl
theorem cE.nZ {b:Bool} {v:Value} (hv:cE μ h S w (.bool b) v):v=.bool b:=by
 have hv:bh S w (.bool b) v:=hv;cases hv;rfl
theorem cE.pn {s:List UInt8} {v:Value} (hv:cE μ h S w (.str s) v):v=.string ⟨⟨s⟩⟩:=by
 have hv:bh S w (.str s) v:=hv;cases hv;rfl
theorem cE.rz {v:Value} (hv:cE μ h S w .bR v):v=.slice none 0 0:=by
 have hv:bh S w .bR v:=hv;cases hv;rfl
theorem cE.ab8 {f:Nat} {v:Value} (hv:cE μ h S w (.fn f) v):v=.func (.func f) #[] #[]:=by
 have hv:bh S w (.fn f) v:=hv;cases hv;rfl
theorem cE.xO {sz n:Nat} {f:Nat->List PV} {v:Value} (hv:cE μ h S w (.im sz n f) v):
  (∃a c,v=.slice a n c/\n=0)\/∃(b off c:Nat) (d:Nat->Nat->Value),v=.slice (some ⟨b,off,none⟩) n c/\S b/\(∀i,i<n->(f i).length=sz)/\n<=c/\
   (∀(i j:Nat) (pv:PV),i<n->(f i)[j]? =some pv->w.cell? ⟨b,off+i*sz+j,none⟩=some (d i j))/\(∀(i j:Nat) (pv:PV),i<n->(f i)[j]? =some pv->bh S w pv (d i j)):=by
 have hv:bh S w (.im sz n f) v:=hv;cases hv with
 | rZ _ _ a c=>exact .inl ⟨a,c,rfl,rfl⟩
 | im _ _ _ b off c d h1 h2 e g k=>exact .inr ⟨b,off,c,d,rfl,h1,h2,e,g,k⟩
theorem cE.Aq {cs:List PV} {v:Value} (hv:cE μ h S w (.ic cs) v):
  ∃(b off:Nat) (a:Nat->Value),v=.pointer (some ⟨b,off,none⟩)/\S b/\(∀(j:Nat) (pv:PV),cs[j]? =some pv->w.cell? ⟨b,off+j,none⟩=some (a j))/\(∀(j:Nat) (pv:PV),cs[j]? =some pv->bh S w pv (a j)):=by
 have hv:bh S w (.ic cs) v:=hv;cases hv with
 | ic _ b off a h1 c d=>exact⟨b,off,a,rfl,h1,c,d⟩
theorem ab9 {v:Value} {p:PV} (h:ard v=some p):bh S w p v:=by
 cases v with
 | int k n=>cases h;exact bh.int k n
 | bool b=>cases h;exact bh.bool b
 | string s=>
  obtain⟨⟨l⟩⟩:=s;cases h;exact bh.str l
 | slice a n c=>
  cases a with
  | none=>
   cases n with
   | zero=>
    cases c with
    | zero=>cases h;exact bh.bR
    | succ c=>cases h
   | succ n=>cases h
  | some a=>cases h
 | pointer a=>
  cases a with
  | none=>cases h;exact bh.jk
  | some a=>cases h
 | _=>cases h
theorem Mp:∀{vs:List Value} {l:List PV},UJ vs=some l->vs.length=l.length/\∀(j:Nat) (pv:PV),l[j]? =some pv->∃u,vs[j]? =some u/\bh S w pv u
 | [],l,h=>by
  cases h;exact⟨rfl,λj pv hj=>by simp at hj⟩
 | v::r,l,h=>by
  unfold UJ at h;cases h1:ard v with
  | none=>rw[h1]at h;cases h
  | some p=>
   cases h2:UJ r with
   | none=>rw[h1,h2]at h;cases h
   | some q=>
    rw[h1,h2]at h;cases h;obtain⟨q1,a⟩:=Mp h2;refine⟨by simp [q1],λj pv hj=>?_⟩;cases j with
    | zero=>simp at hj;subst hj;exact⟨v,rfl,ab9 h1⟩
    | succ j=>obtain⟨u,r1,b⟩:=a j pv aUV;exact⟨u,by simpa using r1,b⟩
theorem Mq (v:Value):cE μ h S w (ofValue v) v:=by
 cases v with
 | int k n=>exact bh.int k n
 | bool b=>exact bh.bool b
 | string s=>
  obtain⟨⟨l⟩⟩:=s;exact bh.str l
 | slice a n c=>
  cases a with
  | none=>
   cases n with
   | zero=>
    cases c with
    | zero=>exact bh.bR
    | succ c=>trivial
   | succ n=>trivial
  | some a=>trivial
 | pointer a=>
  cases a with
  | none=>exact bh.jk
  | some a=>trivial
 | agg vs=>
  simp only[ofValue];cases d:UJ vs.toList with
  | none=>trivial
  | some l=>
   obtain⟨q1,e⟩:=Mp (S:=S) (w:=w) d;exact⟨vs,rfl,by simpa using q1,λj pv hj=>by obtain⟨u,r1,f⟩:=e j pv hj;exact⟨u,by simpa using r1,db.mu f⟩⟩
 | _=>trivial
theorem dG {env:Env} {a:Act} (b:∀t,cE μ h S w (env t) (a.tmps.getD t undef)) (x:Operand):cE μ h S w (ev env x) (a.eval x):=by
 cases x with
 | tmp t=>exact b t
 | const v=>exact Mq v
 | global g=>trivial
 | func f=>exact bh.fn f
def fv (P:Program) (o:Oper) (a:Act) (μ:Mu) (h:List ao) (S:Nat->Prop) (w:World) (K:PV->Prop):Prop:=
 ∃v val,K v/\cE μ h S w v val/\∀w',dt w w'->(execOp a.eval o).run P w'=.ok (.value val) w'
theorem fv.mk {o:Oper} {a:Act} {K:PV->Prop} {v:PV} {val:Value} (b:K v) (hv:cE μ h S w v val) (c:∀w',dt w w'->(execOp a.eval o).run P w'=.ok (.value val) w'):fv P o a μ h S w K:=⟨v,val,b,hv,c⟩
variable {a:Act}{env:Env}{K:PV->Prop}{dst:Option Tmp}{ty:TypeId}{pos:String}{after:Array Edge}{guard:Option (Nat×Bool)}
theorem Cg {s:Sem Value} {w' a:World} {val:Value} (hs:s.run P w'=.ok val a):(do pure (Next.value (<-s)):Sem Next).run P w'=.ok (.value val) a:=by
 simp [hs]
theorem toList_mk (l:List UInt8):(ByteArray.mk ⟨l⟩).toList=l:=by
 have h:(ByteArray.mk ⟨l⟩).toList=(ByteArray.mk ⟨l⟩).data.toList:=by simp
 rw[h]
theorem SX {a:BinOp} {t:TypeId} {x y:Operand} {u b val:Value} {w':World} (hg:eqGuard a t x y u b=pure ()) (c:(binOp a t u b).run P w'=.ok val w'):
  (do eqGuard a t x y u b;binOp a t u b:Sem Value).run P w'=.ok val w':=by
 rw[hg];simp [c]
theorem Ar {P:Program} {t:TypeId} {d:TypeDesc} (hu:P.underlying t=some d) (hd:Gr d=false) (cs:Array Value) (off:Nat) (v:Value) (hc:cs[off]? =some v) (w:World):(part t cs off).run P w=.ok v w:=by
 have:(isAgg t).run P w=.ok false w:=by
  unfold isAgg;simp only[Sem.run_bind,run_underlying hu,Result.andThen];cases d<;>first | rfl | cases hd
 simp [part,this,hc]
theorem zo {g q:Bool} {o:Option Bool} {b:Bool} (h:SY g q o=some b):g=true/\∃c,o=some c/\b=(q&&c):=by
 cases o with
 | none=>cases h
 | some c=>cases g with
  | true=>exact⟨rfl,c,rfl,(aRO h).symm⟩
  | false=>cases h
theorem yH {P:Program} {μ:Mu} {h:List ao} {S:Nat->Prop} {w w':World} {xs s:Array Value} (d:Nat):∀(fs:List Field) (z e g:List PV) (n:Nat) (b:Bool),rr P n fs z=true->
  (∀(j:Nat) (pv:PV),e[j]? =some pv->∃u,xs[n+j]? =some u/\db μ h S w pv u)->(∀(j:Nat) (pv:PV),g[j]? =some pv->∃u,s[n+j]? =some u/\db μ h S w pv u)->
  eqC z e g=some b->(Op.eqFields (d+1) xs s fs).run P w'=.ok b w'
 | [],z,e,g,n,b,hf,_,_,l=>by
  cases z with
  | nil=>
   cases e with
   | nil=>cases g with
    | nil=>cases l;rfl
    | cons _ _=>cases l
   | cons _ _=>cases l
  | cons _ _=>simp [rr]at hf
 | f::fs,z,e,g,n,b,hf,hx,hy,l=>by
  have go:∀(t v:PV) (x y:Value) (q c:Bool) (dd:TypeDesc) (z r r':List PV),e=t::r->g=v::r'->(∀u,db μ h S w t u->u=x)->(∀u,db μ h S w v u->u=y)->f.name≠ "_" ->f.offset=n->P.underlying f.type=some dd->Gr dd=false->
    (Op.equalIn (d+1) f.type x y).run P w'=.ok q w'->rr P (n+1) fs z=true->eqC z r r'=some c->(Op.eqFields (d+1) xs s (f::fs)).run P w'=.ok (q&&c) w':=by
   intro t v x y q c dd z r r' J e2 K A L o hu hd hq B M;subst J e2;obtain⟨G,C,D⟩:=hx 0 t rfl;obtain⟨H,N,E⟩:=hy 0 v rfl;obtain rfl:=K G D;obtain rfl:=A H E
   have O:=yH (w':=w') d fs z r r' (n+1) c B (λj pv hj=>by
     obtain⟨u,q1,F⟩:=hx (j+1) pv aUV;exact⟨u,by rw[<-q1];congr 1;omega,F⟩) (λj pv hj=>by
     obtain⟨u,q1,F⟩:=hy (j+1) pv aUV;exact⟨u,by rw[<-q1];congr 1;omega,F⟩) M
   have Q:=Ar hu hd xs f.offset G (by rw[o];exact C) w';have R:=Ar hu hd s f.offset H (by rw[o];exact N) w';unfold Op.eqFields;rw[At L];simp only[Sem.run_bind,Q,R,hq,Result.andThen_ok];cases q with
   | true=>simpa using O
   | false=>simp
  unfold eqC at l;split at l
  ·simp [rr]at hf
  ·rename_i k I z k1 a r k2 i r';simp only[rr,No,bne_iff_ne]at hf;obtain⟨⟨⟨h1,h2⟩,m⟩,p⟩:=hf;have h2:=amb h2;obtain⟨hg,c,hc,rfl⟩:=zo l;simp only[No]at hg;obtain rfl:=nx hg.1;obtain rfl:=nx hg.2;split at m
   ·rename_i T hu;exact go _ _ (.int k a) (.int k i) (a==i) c _ z r r' rfl rfl (λu hu=>by have hu:bh S w (.int k a) u:=hu;cases hu;rfl) (λu hu=>by have hu:bh S w (.int k i) u:=hu;cases hu;rfl) h1 h2 hu rfl (run_equalIn_int w' d _ _ _ _ _ hu) p hc
   ·cases m
  ·rename_i I z a r i r';simp only[rr,No,bne_iff_ne]at hf;obtain⟨⟨⟨h1,h2⟩,m⟩,p⟩:=hf;have h2:=amb h2;obtain⟨hg,c,hc,rfl⟩:=zo l;split at m
   ·rename_i hu;exact go _ _ (.bool a) (.bool i) (a==i) c _ z r r' rfl rfl (λu hu=>by have hu:bh S w (.bool a) u:=hu;cases hu;rfl) (λu hu=>by have hu:bh S w (.bool i) u:=hu;cases hu;rfl) h1 h2 hu rfl (run_equalIn_bool w' d _ _ _ hu) p hc
   ·cases m
  ·rename_i I z a r i r';simp only[rr,No,bne_iff_ne]at hf;obtain⟨⟨⟨h1,h2⟩,m⟩,p⟩:=hf;have h2:=amb h2;obtain⟨hg,c,hc,rfl⟩:=zo l;split at m
   ·rename_i hu
    exact go _ _ (.string ⟨⟨a⟩⟩) (.string ⟨⟨i⟩⟩) (a==i) c _ z r r' rfl rfl (λu hu=>by have hu:bh S w (.str a) u:=hu;cases hu;rfl) (λu hu=>by have hu:bh S w (.str i) u:=hu;cases hu;rfl) h1 h2 hu rfl (by
     rw[run_equalIn_string w' d _ _ _ hu,toList_mk,toList_mk]) p hc
   ·cases m
  ·cases l
theorem UK (p:fL P T) (d:BinOp) (t q:TypeId) (x y:Operand) (C D:PV) (hx:cE μ h S w C (a.eval x)) (hy:cE μ h S w D (a.eval y)) (hp:UL (T.get t) d C D K):
  fv P ⟨dst,.binOp d t x y q,ty,pos,after,guard⟩ a μ h S w K:=by
 have key:∀(v:PV) (val:Value),K v->cE μ h S w v val->eqGuard d t x y (a.eval x) (a.eval y)=pure ()->(∀w',(binOp d t (a.eval x) (a.eval y)).run P w'=.ok val w')->
   fv P ⟨dst,.binOp d t x y q,ty,pos,after,guard⟩ a μ h S w K:=λv val f hv hg r=>.mk f hv λw' _=>Cg (SX hg (r w'))
 unfold UL at hp;split at hp
 ·rename_i k n N E;have ex:=hx.mU;have c:=hy.mU;have hg:eqGuard d t x y (a.eval x) (a.eval y)=pure ():=by rw[ex];apply eqGuard_at_int
  cases d<;>simp only at hp
  case shl=>
   have h0:¬E<0:=by omega
   exact key _ _ hp.2 (bh.int _ _) hg λw'=>by rw[ex,c,binOp_shl];simp only[Op.shift,As h0];rfl
  case shr=>
   have h0:¬E<0:=by omega
   exact key _ _ hp.2 (bh.int _ _) hg λw'=>by rw[ex,c,binOp_shr];simp only[Op.shift,As h0];rfl
  all_goals
   replace hp:=cn hp;obtain⟨u,hp⟩:=hp;obtain rfl:=nx u
  case and=>exact key _ _ hp (bh.int _ _) hg λw'=>by rw[ex,c,binOp_and,intBits_and];rfl
  case or=>exact key _ _ hp (bh.int _ _) hg λw'=>by rw[ex,c,binOp_or,intBits_or];rfl
  case xor=>exact key _ _ hp (bh.int _ _) hg λw'=>by rw[ex,c,binOp_xor,intBits_xor];rfl
  case andNot=>exact key _ _ hp (bh.int _ _) hg λw'=>by rw[ex,c,binOp_andNot,intBits_andNot];rfl
  case add=>exact key _ _ hp (bh.int _ _) hg λw'=>by rw[ex,c,binOp_add];rfl
  case sub=>exact key _ _ hp (bh.int _ _) hg λw'=>by rw[ex,c,binOp_sub];rfl
  case mul=>exact key _ _ hp (bh.int _ _) hg λw'=>by rw[ex,c,binOp_mul];rfl
  case quo=>exact key _ _ hp.2 (bh.int _ _) hg λw'=>by rw[ex,c,binOp_quo];simp [Op.intDiv,hp.1]
  case rem=>exact key _ _ hp.2 (bh.int _ _) hg λw'=>by rw[ex,c,binOp_rem];simp [Op.intDiv,hp.1]
  case eql=>exact key _ _ hp (bh.bool _) hg λw'=>by rw[ex,c,binOp_eql];rfl
  case neq=>exact key _ _ hp (bh.bool _) hg λw'=>by rw[ex,c,binOp_neq];rfl
  case lss=>exact key _ _ hp (bh.bool _) hg λw'=>by rw[ex,c,binOp_lss];rfl
  case leq=>exact key _ _ hp (bh.bool _) hg λw'=>by rw[ex,c,binOp_leq];rfl
  case gtr=>exact key _ _ hp (bh.bool _) hg λw'=>by rw[ex,c,binOp_gtr];rfl
  case geq=>exact key _ _ hp (bh.bool _) hg λw'=>by rw[ex,c,binOp_geq];rfl
 ·rename_i b O;have ex:=hx.nZ;have c:=hy.nZ;have hg:eqGuard d t x y (a.eval x) (a.eval y)=pure ():=by rw[ex];apply eqGuard_at_bool
  split at hp
  ·rename_i g;exact key _ _ hp (bh.bool _) hg λw'=>by rw[ex,c];exact run_eql_bool w' t _ _ (p.bool _ g)
  ·rename_i g;exact key _ _ hp (bh.bool _) hg λw'=>by rw[ex,c];exact run_neq_bool w' t _ _ (p.bool _ g)
  ·exact aUd
 ·rename_i s s';have ex:=hx.pn;have c:=hy.pn;have hg:eqGuard d t x y (a.eval x) (a.eval y)=pure ():=by rw[ex];apply eqGuard_at_string
  cases d<;>simp only at hp
  case add=>
   obtain⟨I4,_,rfl,I⟩:=hp;refine key _ _ I (bh.str _) hg λw'=>?_;rw[ex,c,binOp_string_add]
   have h1:¬(((ByteArray.mk ⟨s⟩).size+(ByteArray.mk ⟨s'⟩).size:Nat):Int)>IntKind.i64.max:=by
    have J:(ByteArray.mk ⟨s⟩).size=s.length:=rfl;have e2:(ByteArray.mk ⟨s'⟩).size=s'.length:=rfl;rw[J,e2,IntKind.max_i64];omega
   simp only[Op.stringOp,As h1]
   have h2:ByteArray.mk ⟨s⟩++ByteArray.mk ⟨s'⟩=ByteArray.mk ⟨s++s'⟩:=by
    apply ByteArray.ext;simp [ByteArray.data_append]
   rw[h2];rfl
  case eql=>exact key _ _ hp (bh.bool _) hg λw'=>by rw[ex,c,binOp_string_eql,toList_mk,toList_mk];rfl
  case neq=>exact key _ _ hp (bh.bool _) hg λw'=>by rw[ex,c,binOp_string_neq,toList_mk,toList_mk];rfl
  case lss=>exact key _ _ hp (bh.bool _) hg λw'=>by rw[ex,c,binOp_string_lss,toList_mk,toList_mk];rfl
  case leq=>exact key _ _ hp (bh.bool _) hg λw'=>by rw[ex,c,binOp_string_leq,toList_mk,toList_mk];rfl
  case gtr=>exact key _ _ hp (bh.bool _) hg λw'=>by rw[ex,c,binOp_string_gtr,toList_mk,toList_mk];rfl
  case geq=>exact key _ _ hp (bh.bool _) hg λw'=>by rw[ex,c,binOp_string_geq,toList_mk,toList_mk];rfl
  all_goals exact hp.elim
 ·rename_i i l;split at hp
  ·rename_i sz fl z g;replace hp:=cn hp;obtain⟨L,hp⟩:=hp;have e:=p.flat _ _ _ _ g L;unfold QC at e;split at e
   ·rename_i fs hu;simp only[No,aSb]at e;obtain⟨⟨h1,h2⟩,M⟩:=e;obtain⟨xs,ex,_,A⟩:=hx;obtain⟨o,c,_,B⟩:=hy;have F:P.fieldsOf t=fs:=by simp [Program.fieldsOf,hu]
    have G:∀b,eqC z i l=some b->∀w',(Op.equalIn 10000 t (.agg xs) (.agg o)).run P w'=.ok b w':=λb u w'=>by
     rw[run_equalIn_struct w' 9999 t xs o (by rw[F];exact hu) h1,F];exact yH (μ:=μ) (h:=h) (S:=S) (w:=w) 9998 fs.toList z i l 0 b M (λj pv hj=>by rw[aRf];exact A j pv hj) (λj pv hj=>by rw[aRf];exact B j pv hj) u
    have m:∀(b:Bool),K (.bool b)->(∀w',(binOp d t (.agg xs) (.agg o)).run P w'=.ok (.bool b) w')->fv P ⟨dst,.binOp d t x y q,ty,pos,after,guard⟩ a μ h S w K:=λb f r=>.mk f (bh.bool b) λw' _=>Cg (by
     rw[ex,c];simp [run_eqGuard_agg w' d t x y xs o h2,r w'])
    split at hp
    ·rename_i b H;split at hp
     ·obtain⟨_,rfl,f⟩:=hp;exact m _ f λw'=>by rw[run_eql_struct,G b H w'];rfl
     ·obtain⟨_,rfl,f⟩:=hp;exact m _ f λw'=>by rw[run_neq_struct,G b H w'];rfl
     ·exact aUd
    ·exact aUd
   ·cases e
  ·exact aUd
 ·exact aUd
theorem Au {t:TypeId} {d:TypeDesc} (hu:P.underlying t=some d) (w':World):(isAgg t).run P w'=.ok (Gr d) w':=by
 unfold isAgg;simp only[Sem.run_bind,run_underlying hu,Result.andThen];cases d<;>rfl
def af3 (μ:Mu) (h:List ao) (S:Nat->Prop) (w:World) (cells:List PV) (b off:Nat):Prop:=
 ∀(j:Nat) (pv:PV),cells[j]? =some pv->∃u,w.cell? ⟨b,off+j,none⟩=some u/\db μ h S w pv u
theorem EE (m:fL P T) (t:Nat) (x:Operand) (cells:List PV) (b off:Nat) (hx:a.eval x=.pointer (some ⟨b,off,none⟩)) (hc:af3 μ h S w cells b off) (hp:BE T t cells K)
  (p:∀pv u,pv∈cells->db μ h S w pv u->cE μ h S w pv u):
  fv P ⟨dst,.load t x,ty,pos,after,guard⟩ a μ h S w K:=by
 have key:∀(v:PV) (val:Value),K v->cE μ h S w v val->(∀w',dt w w'->(loadVar t ⟨b,off,none⟩).run P w'=.ok val w')->
   fv P ⟨dst,.load t x,ty,pos,after,guard⟩ a μ h S w K:=λv val n hv s=>.mk n hv λw' o=>by
  refine Cg ?_;rw[hx];simp [Instr.loadAt,Instr.sureAddr,s w' o]
 have one:∀d,P.underlying t=some d->Gr d=false->(∃c r,cells=c::r/\K c)->
   fv P ⟨dst,.load t x,ty,pos,after,guard⟩ a μ h S w K:=λd hu hd ⟨c,r,l,n⟩=>by
  obtain⟨u,q,y⟩:=hc 0 c (by rw[l];rfl);refine key c u n (p c u (by rw[l];simp) y) λw' o=>?_;have h0:=o.cell q;rw[aSo]at h0;unfold loadVar;simp only[Sem.run_bind,Au hu,hd,Result.andThen];simp [run_load,h0]
 unfold BE at hp;split at hp
 ·rename_i sz fl A g;obtain⟨fs,i,hu,hi,B,_⟩:=m.struct _ _ _ _ g;replace hp:=rA _ _ _ hp;obtain⟨hle,n⟩:=hp;simp only[aTk,aRe]at n
  have hf:∃f:Nat->Value,∀(j:Nat) (pv:PV),cells[j]? =some pv->w.cell? ⟨b,off+j,none⟩=some (f j)/\db μ h S w pv (f j):=by
   refine⟨λj=>(w.cell? ⟨b,off+j,none⟩).getD undef,λj pv hj=>?_⟩;obtain⟨u,h1,h2⟩:=hc j pv hj;simp only[h1,aTl];exact⟨trivial,h2⟩
  obtain⟨f,hf⟩:=hf;refine key _ (.agg ((List.range sz).map f).toArray) n ⟨_,rfl,by simp [Nat.min_eq_left hle],λj pv hj=>?_⟩ λw' o=>?_
  ·rw[aSQ]at hj;split at hj
   ·rename_i C;obtain⟨h1,h2⟩:=hf j pv hj;exact⟨f j,by simp [C],h2⟩
   ·cases hj
  ·unfold loadVar;have hd:Gr (.struct fs)=true:=rfl;simp only[Sem.run_bind,Au hu,hd,Result.andThen]
   have D:=run_loadCells (P:=P) w' ⟨b,off,none⟩ sz f (λj hj=>by
    rw[Addr.add_lit];have E:j<cells.length:=aRx hj hle;exact o.cell (hf j _ (abL E)).1)
   simp [sizeOf,typeInfo,hi,B,D]
 ·exact aUd
 ·rename_i h1 h2
  have l:∃c r,cells=c::r/\K c:=by
   cases cells with
   | nil=>exact hp.elim
   | cons c r=>exact⟨c,r,rfl,eu hp⟩
  cases g:T.get t with
  | int k=>exact one _ (m.int _ _ g) rfl l
  | bool=>exact one _ (m.bool _ g) rfl l
  | str=>exact one _ (m.str _ g) rfl l
  | slice e sz F z=>exact one _ (m.slice _ _ _ _ _ g).1 rfl l
  | struct sz fl A=>exact(h1 _ _ _ g).elim
  | map k e z=>exact one _ (m.map _ _ _ _ g).1 rfl l
  | ptr e=>exact one _ (m.ptr _ _ g) rfl l
  | other=>exact(h2 g).elim
theorem gG {id:Nat} {g sz n:Nat} {e:TypeId} {f:Nat->List PV} (hh:eM h id=.row g sz n e f):h[id]? =some (ao.row g sz n e f):=by
 unfold eM at hh;rw[aRb]at hh;cases ho:h[id]? with
 | none=>rw[ho]at hh;cases hh
 | some o=>rw[ho]at hh;simp at hh;rw[hh]
theorem cE.qJ {id gen off len:Nat} {v:Value} (hv:cE μ h S w (.own id gen off len) v):bX μ h w id gen off len v:=hv
theorem cE.xj {id gen i off:Nat} {v:Value} (hv:cE μ h S w (.aI id gen i off) v):c7 μ h w id gen i off v:=hv
theorem cE.af5 {id:Nat} {v:Value} (hv:cE μ h S w (.rB id) v):je μ h w id v:=hv
theorem aca (m:dA μ h S w) {id g sz n:Nat} {e:TypeId} {f:Nat->List PV} {v:Value} (hh:h[id]? =some (ao.row g sz n e f)) (a:je μ h w id v):
  ∃b base es c,μ id=some (b,base)/\v=.map (some b)/\w.heap[b]? =some (.map es c)/\es.size=n/\
   ∀i,i<n->∃(d j:PV) (en:MapEntry),f i=[d,j]/\rv d=true/\rv j=true/\es[i]? =some en/\Gt d en.key/\Gt j en.val:=by
 unfold je at a;rw[hh]at a;obtain⟨_,b,base,k,⟨es,c,l⟩,rfl⟩:=a;obtain⟨_,ho⟩:=m id g sz n e f hh;rw[k]at ho;obtain⟨o,h1,h2⟩:=ho;obtain rfl:=aRO (l.symm.trans h1);exact⟨b,base,es,c,k,rfl,l,h2.1,h2.2⟩
theorem db.v {pv:PV} {u:Value} (hc:db μ h S w pv u):cE μ h S w pv u:=by
 cases pv<;>first | exact(show False from hc).elim | trivial | exact hc
theorem EF (l:fL P T) (o:dA μ h S w) (t:Nat) (x:Operand) (m:PV) (hx:cE μ h S w m (a.eval x)) (hp:Av T t m h K):
  fv P ⟨dst,.load t x,ty,pos,after,guard⟩ a μ h S w K:=by
 unfold Av at hp;split at hp
 ·rename_i cells;obtain⟨b,off,p,q,_,h2,r⟩:=hx.Aq;exact EE l t x cells b off q (λj pv hj=>⟨p j,h2 j pv hj,db.mu (r j pv hj)⟩) hp λpv u _ hc=>hc.v
 ·rename_i id gen i off;split at hp
  ·rename_i g sz n e f hg;obtain⟨rfl,_,rfl,hp⟩:=hp;have hh:=gG hg;have d:=hx.xj;unfold c7 at d;rw[hh]at d;obtain⟨_,_,d⟩:=d;obtain⟨k,b,base,s,y,hv⟩:=d rfl;obtain⟨B,hc⟩:=o id g sz n e f hh;rw[s]at hc;obtain⟨cur,z,C,A⟩:=dA.cells y.1 hc;refine EE l t x _ b (base+i*sz+off) hv (λj pv hj=>?_) hp λpv u _ hc=>hc.v;rw[aSs]at hj;obtain⟨v,h1,h2⟩:=A i (off+j) pv k hj;refine⟨v,?_,h2.c⟩;rw[cell_of_row w b (base+i*sz+off+j) cur e (0,0) z,<-h1];congr 1;omega
  ·exact aUd
 ·exact aUd
theorem mV {e:TypeId} {i:TypeInfo} (hi:P.info? e=some i) (w':World):(sizeOf e).run P w'=.ok i.size w':=by
 simp [sizeOf,typeInfo,hi]
theorem Ch {t e:TypeId} {i:TypeInfo} (hu:P.underlying t=some (.slice e)) (hi:P.info? e=some i) (a:Addr) (n c:Nat) (k:IntKind) (x:Int) (h0:0<=x) (h1:x<n) (w':World):
  (Instr.indexAt t (.slice (some a) n c) (.int k x)).run P w'=.ok (.pointer (some (a.add (x.toNat*i.size)))) w':=by
 have he:P.elem t=e:=by simp [Program.elem,hu]
 rw[run_indexAt_slice w' t a n c k x aVp,At ⟨h0,h1⟩,he,mV hi];rfl
theorem Mr (E:fL P T) (G:dA μ h S w) (F:∀t,cE μ h S w (env t) (a.tmps.getD t undef)) (t:Nat) (x i:Operand) (hp:dO T (.indexAddr t x i) env h K):
  fv P ⟨dst,.indexAddr t x i,ty,pos,after,guard⟩ a μ h S w K:=by
 have hx:=dG F x;have hi:=dG F i;unfold dO at hp;simp only at hp;split at hp
 ·rename_i e sz H z I n f k ix s hex l;rw[hex]at hx;rw[l]at hi;replace hp:=cn hp;obtain⟨m,⟨h0,h1⟩,_,rfl,u⟩:=hp;obtain rfl:=amb m;have y:=hi.mU;obtain⟨hu,_,inf,J,A,B,_⟩:=E.slice _ _ _ _ _ s;rcases hx.xO with⟨_,_,_,rfl⟩ | ⟨b,off,c,L,ex,M,W,hc,N,O⟩
  ·omega
  ·have o:ix.toNat<n:=by omega
   refine .mk u (bh.ic (f ix.toNat) b (off+ix.toNat*sz) (L ix.toNat) M (λj pv hj=>N _ j pv o hj) (λj pv hj=>O _ j pv o hj)) λw' _=>Cg ?_;rw[ex,y,Ch hu A _ _ _ _ _ h0 h1,B,Addr.add_lit]
 ·rename_i e sz H z id gen off len k ix s hex l;rw[hex]at hx;rw[l]at hi;have y:=hi.mU;obtain⟨hu,_,inf,J,A,B,_⟩:=E.slice _ _ _ _ _ s;split at hp
  ·rename_i g I n e' f Q;obtain⟨rfl,hp⟩:=hp;replace hp:=cn hp;obtain⟨m,⟨h0,h1⟩,_,rfl,u⟩:=hp;obtain⟨m,q⟩:=Bool.and_eq_true_iff.1 m;obtain rfl:=amb m;have hh:=gG Q;have d:=hx.qJ;unfold bX at d;rw[hh]at d;obtain⟨_,_,d⟩:=d;obtain⟨hle,d⟩:=d rfl;cases r:μ id with
   | none=>
    rw[r]at d;obtain⟨_,C⟩:=G id _ _ _ _ _ hh;rw[r]at C;have C:n=0:=C;omega
   | some p=>
    obtain⟨b,base⟩:=p;rw[r]at d;obtain⟨X,cap,ex,R,D,U⟩:=d;have D:=D aUE;subst D;refine .mk u (v:=.aI id g (off+ix.toNat) 0) (val:=.pointer (some ⟨b,base+(off+ix.toNat)*sz+0,none⟩)) ?_ λw' _=>Cg ?_
    ·show c7 μ h w id g (off+ix.toNat) 0 _;unfold c7;rw[hh];exact⟨⟨_,rfl⟩,Of _,λ_=>⟨by omega,b,base,r,⟨U.least,λV=>by rw[V]at q;cases q⟩,rfl⟩⟩
    ·rw[ex,y,Ch hu A _ _ _ _ _ h0 h1,B,Addr.add_lit];have:base+off*sz+ix.toNat*sz=base+(off+ix.toNat)*sz+0:=by rw[aRt];omega
     rw[this]
  ·exact aUd
 ·exact aUd
theorem EG (e:fL P T) (c:∀t,cE μ h S w (env t) (a.tmps.getD t undef)) (t:Nat) (x i:Operand) (hp:dO T (.index t x i) env h K):
  fv P ⟨dst,.index t x i,ty,pos,after,guard⟩ a μ h S w K:=by
 have hx:=dG c x;have hi:=dG c i;unfold dO at hp;simp only at hp;split at hp
 ·rename_i s k ix f hex b;rw[hex]at hx;rw[b]at hi;obtain⟨⟨h0,h1⟩,_,rfl,g⟩:=hp;have j:=hi.mU;have ex:=hx.pn;have hu:=e.str _ f;refine .mk g (bh.int _ _) λw' _=>Cg ?_;rw[ex,j]
  have l:(ByteArray.mk ⟨s⟩)[ix.toNat]? =some (s.getD ix.toNat 0):=by
   have d:ix.toNat<s.length:=by omega
   rw[aRb,abL d];rw[getElem?_pos (ByteArray.mk ⟨s⟩) ix.toNat d];rfl
  simp only[Instr.index,asIntOf,Sem.run_bind,Sem.run_pure,Result.andThen,run_underlying hu,At h0,l]
 ·exact aUd
theorem UM (j:fL P T) (u:dA μ h S w) (A:∀t,cE μ h S w (env t) (a.tmps.getD t undef)) (args:Array Operand) (ts:Array TypeId) (hp:dO T (.call ⟨.builtin .len,args,ts⟩) env h K):
  fv P ⟨dst,.call ⟨.builtin .len,args,ts⟩,ty,pos,after,guard⟩ a μ h S w K:=by
 obtain⟨args⟩:=args;obtain⟨ts⟩:=ts;unfold dO at hp;simp only at hp;split at hp
 ·rename_i x t;have hx:=dG A x
  have fin:∀(n:Int) (val:Value),a.eval x=val->K (.int .i64 n)->(∀w',(Builtin.len_ #[t] ty #[val]).run P w'=.ok (goInt n) w')->
    fv P ⟨dst,.call ⟨.builtin .len,#[x],#[t]⟩,ty,pos,after,guard⟩ a μ h S w K:=λn val l m d=>.mk m (bh.int _ _) λw' _=>by
   simp only[execOp,resolve,invoke,builtin,Sem.run_bind,Sem.run_pure,Result.andThen_ok,aTm,aRD,aRX,l,d];rfl
  split at hp
  ·rename_i e sz v z B n f i hex;rw[hex]at hx;obtain⟨hu,_⟩:=j.slice _ _ _ _ _ i;have he:P.elem t=e:=by simp [Program.elem,hu]
   rcases hx.xO with⟨o,c,ex,rfl⟩ | ⟨b,off,c,G,ex,_⟩
   ·exact fin _ _ ex hp λw'=>run_len_slice w' t ty _ _ _ aVp
   ·exact fin _ _ ex hp λw'=>run_len_slice w' t ty _ _ _ aVp
  ·rename_i e sz v z i hex;rw[hex]at hx;obtain⟨hu,_⟩:=j.slice _ _ _ _ _ i;have he:P.elem t=e:=by simp [Program.elem,hu]
   exact fin _ _ hx.rz hp λw'=>run_len_slice w' t ty _ _ _ aVp
  ·rename_i e sz v z id gen off n i hex;rw[hex]at hx;obtain⟨hu,_⟩:=j.slice _ _ _ _ _ i;have he:P.elem t=e:=by simp [Program.elem,hu]
   split at hp
   ·rename_i g B C e' f q;obtain⟨rfl,m⟩:=hp;have hh:=gG q;have d:=hx.qJ;unfold bX at d;rw[hh]at d;obtain⟨_,_,d⟩:=d;obtain⟨hle,d⟩:=d rfl
    have l:∃o c,a.eval x=.slice o n c:=by
     cases k:μ id with
     | none=>
      rw[k]at d;obtain⟨_,r⟩:=u id _ _ _ _ _ hh;rw[k]at r;have r:C=0:=r;have:n=0:=by omega
      subst this;exact⟨_,_,d⟩
     | some p=>
      rw[k]at d;obtain⟨H,cap,ex,_⟩:=d;exact⟨_,_,ex⟩
    obtain⟨o,c,ex⟩:=l;exact fin _ _ ex m λw'=>run_len_slice w' t ty _ _ _ aVp
   ·exact aUd
  ·rename_i s i hex;rw[hex]at hx;have hu:=j.str _ i;refine fin _ _ hx.pn hp λw'=>?_;simp [Builtin.len_,run_underlying hu];rfl
  ·rename_i k0 e0 I id i hex;rw[hex]at hx;obtain⟨hu,_⟩:=j.map _ _ _ _ i;split at hp
   ·rename_i g sz n e f q;obtain⟨b,base,es,c,k,ex,y,D,_⟩:=aca u (gG q) hx.af5;refine .mk hp (bh.int _ _) λw' E=>?_;have F:w'.heap[b]? =some (.map es c):=(E.blocks b (aRa.1 y).1).trans y;simp only[execOp,resolve,invoke,builtin,Sem.run_bind,Sem.run_pure,Result.andThen_ok,aTm,aRD,aRX,ex];rw[show(Builtin.len_ #[t] ty #[.map (some b)]).run P w'=.ok (goInt es.size) w' by simp [Builtin.len_,run_underlying hu,run_getObj_map w' b es c F]];rw[D];rfl
   ·exact aUd
  ·exact aUd
 ·exact aUd
theorem Ci (s:List UInt8) (l m:Nat):(ByteArray.mk ⟨s⟩).extract l m=ByteArray.mk ⟨(s.take m).drop l⟩:=by
 apply ByteArray.ext;rw[ByteArray.data_extract];apply Array.ext';rw[List.drop_take];simp [Array.toList_extract,List.extract]
theorem UN (C:fL P T) (A:dA μ h S w) (id g off len sz n:Nat) (e:TypeId) (f:Nat->List PV) (hh:h[id]? =some (ao.row g sz n e f)) (v:Value) (hv:cE μ h S w (.own id g off len) v) (l m:Nat) (D:l<=m) (hm:m<=len):
  ∃k c,v=.slice k len c/\len<=c/\∀(d:Nat),m<=d->d<=c->cE μ h S w (.own id g (off+l) (m - l)) (.slice (if d=l then k else k.map (·.add (l*sz))) (m - l) (d - l)):=by
 have a:=hv.qJ;unfold bX at a;rw[hh]at a;obtain⟨_,_,a⟩:=a;obtain⟨hle,a⟩:=a rfl;cases j:μ id with
 | none=>
  rw[j]at a;obtain⟨_,o⟩:=A id _ _ _ _ _ hh;rw[j]at o;have o:n=0:=o;have h0:len=0:=by omega
  subst h0;have a:v=.slice none 0 0:=a;refine⟨none,0,a,Of _,λd h1 h2=>?_⟩;have q:m=0:=by omega
  have B:l=0:=by omega
  have r:d=0:=by omega
  subst q;subst B;subst r;show bX μ h w id g (off+0) (0 - 0) _;unfold bX;rw[hh];refine⟨⟨_,_,_,rfl⟩,Of _,λ_=>⟨by omega,?_⟩⟩;rw[j];rfl
 | some p=>
  obtain⟨b,base⟩:=p;rw[j]at a;obtain⟨x,cap,ex,s,t,y⟩:=a;refine⟨some x,cap,ex,s,λd h1 h2=>?_⟩;show bX μ h w id g (off+l) (m - l) _;unfold bX;rw[hh];refine⟨⟨_,_,_,rfl⟩,Of _,λ_=>⟨by omega,?_⟩⟩;rw[j];by_cases i:d=l
  ·refine⟨x,0,by rw[At i];subst i;simp,by omega,λh=>absurd h aUE,?_⟩;obtain⟨cur,e',z,q1,u⟩:=y;refine⟨cur,e',z,q1,aSe ?_ u⟩;have:(off+l+0)*sz<=(off+cap)*sz:=aRu _ aUE;omega
  ·have t:=t aUE;subst t;refine⟨⟨b,base+(off+l)*sz,none⟩,d - l,?_,by omega,λ_=>rfl,?_⟩
   ·rw[As i,Option.map_some,Addr.add_lit,aRt,aTg]
   ·obtain⟨cur,e',z,q1,u⟩:=y;refine⟨cur,e',z,q1,aSe ?_ u⟩;have:(off+l+(d - l))*sz<=(off+cap)*sz:=aRu _ aUE;omega
theorem UO (sz n:Nat) (f:Nat->List PV) (v:Value) (hv:cE μ h S w (.im sz n f) v) (l m:Nat) (s:l<=m) (hm:m<=n):
  ∃d c,v=.slice d n c/\((n<=c\/n=0)/\∀(a:Nat),m<=a->(a<=c\/m=0)->cE μ h S w (.im sz (m - l) (λi=>f (l+i))) (.slice (if a=l then d else d.map (·.add (l*sz))) (m - l) (a - l))):=by
 rcases hv.xO with⟨d,c,ex,rfl⟩ | ⟨b,off,c,k,ex,o,hlen,hc,p,q⟩
 ·have e:m=0:=by omega
  subst e;have r:l=0:=by omega
  subst r;exact⟨d,c,ex,.inr rfl,λa _ _=>bh.rZ _ _ _ _⟩
 ·refine⟨_,c,ex,.inl hc,λa h1 h2=>?_⟩;by_cases g:m=l
  ·subst g;rw[aSz];exact bh.rZ _ _ _ _
  ·rw[As aUE,Option.map_some,Addr.add_lit];refine bh.im sz (m - l) _ b (off+l*sz) (a - l) (λi j=>k (l+i) j) o (λi hi=>hlen _ aUE) aUE (λi j pv hi hj=>?_) (λi j pv hi hj=>q _ j pv aUE hj);have:=p (l+i) j pv aUE hj;rw[aRt]at this;rw[<-this];congr 2;omega
theorem eZ {o:Oper} {s:Sem Value} {val:Value} {w' b:World} (he:execOp a.eval o=(do pure (Next.value (<-s)):Sem Next)) (hs:s.run P w'=.ok val b):(execOp a.eval o).run P w'=.ok (.value val) b:=by
 rw[he];exact Cg hs
theorem zp (hx:∀x,cE μ h S w (ev env x) (a.eval x)) {lo:Option Operand}:(lo.map (ev env)=none->lo.map a.eval=none)/\∀k n,lo.map (ev env)=some (.int k n)->lo.map a.eval=some (.int k n):=by
 cases lo with
 | none=>exact⟨λ_=>rfl,λk n h=>aUZ⟩
 | some x=>
  refine⟨λh=>aUZ,λk n hh=>?_⟩;have hh:ev env x=.int k n:=by injection hh
  have:=hx x;rw[hh]at this;show some (a.eval x)=_;rw[this.mU]
theorem QG {t e:TypeId} {i:TypeInfo} (hu:P.underlying t=some (.slice e)) (hi:P.info? e=some i) (a:Option Addr) (n c:Nat) (hc:n<=c) (w':World):
  ((Instr.sliceAt t (.slice a n c) none none none).run P w'=.ok (sliced a 0 n c i.size) w')/\
  (∀(k:IntKind) (l:Int),0<=l->l<=n->(Instr.sliceAt t (.slice a n c) (some (.int k l)) none none).run P w'=.ok (sliced a l.toNat n c i.size) w')/\
  (∀(k:IntKind) (m:Int),0<=m->m<=n->(Instr.sliceAt t (.slice a n c) none (some (.int k m)) none).run P w'=.ok (sliced a 0 m.toNat c i.size) w')/\
  (∀(k:IntKind) (l:Int) (d:IntKind) (m:Int),0<=l->l<=m->m<=n->(Instr.sliceAt t (.slice a n c) (some (.int k l)) (some (.int d m)) none).run P w'=.ok (sliced a l.toNat m.toNat c i.size) w')/\
  (∀(k:IntKind) (m:Int) (d:IntKind) (q:Int),0<=m->m<=q->q<=n->(Instr.sliceAt t (.slice a n c) none (some (.int k m)) (some (.int d q))).run P w'=.ok (sliced a 0 m.toNat q.toNat i.size) w')/\
  (∀(k:IntKind) (l:Int) (d:IntKind) (m:Int) (f:IntKind) (q:Int),0<=l->l<=m->m<=q->q<=n->(Instr.sliceAt t (.slice a n c) (some (.int k l)) (some (.int d m)) (some (.int f q))).run P w'=.ok (sliced a l.toNat m.toNat q.toNat i.size) w'):=by
 have he:P.elem t=e:=by simp [Program.elem,hu]
 have b:P.underlying t=some (.slice (P.elem t)):=by rw[he];exact hu
 have g:(n:Int)<=c:=by omega
 refine⟨?_,λk l h0 h1=>?_,λk m h0 h1=>?_,λk l d m h0 h1 h2=>?_,λk m d q h0 h1 h2=>?_,λk l d m f q h0 h1 h2 h=>?_⟩<;>rw[run_sliceAt_slice w' _ _ _ _ _ b]
 ·rw[run_slice_all w' t a n c b,he,mV hi];rfl
 ·rw[run_slice_l w' t a n c b k l h0 h1,he,mV hi];rfl
 ·rw[run_slice_h w' t a n c b k m h0 aUE,he,mV hi];rfl
 ·rw[run_slice_lh w' t a n c b k d l m h0 h1 aUE,he,mV hi];rfl
 ·rw[run_slice_hm w' t a n c b k d m q h0 h1 aUE,he,mV hi];rfl
 ·rw[run_slice_lhm w' t a n c b k d f l m q h0 h1 h2 aUE,he,mV hi];rfl
theorem fv.choose {o:Oper} (hs:fv P o a μ h S w (Ms K)):fv P o a μ h S w K:=by
 obtain⟨v,val,d,hv,e⟩:=hs;cases v with
 | im sz n f=>
  obtain⟨k,l,rfl,hf,d⟩:=d;refine⟨_,val,d,?_,e⟩;rcases hv.xO with⟨a,c,rfl,rfl⟩ | ⟨b,off,c,m,rfl,h1,h2,p,q,r⟩
  ·exact bh.rZ _ _ _ _
  ·exact bh.im sz k l b off c m h1 (λi hi=>by rw[hf i hi];exact h2 i hi) p (λi j pv hi hj=>q i j pv hi aVg) (λi j pv hi hj=>r i j pv hi aVg)
 | str s=>
  obtain⟨_,rfl,d⟩:=d;exact⟨_,val,d,hv,e⟩
 | own id g off n=>
  obtain⟨_,_,rfl,rfl,d⟩:=d;exact⟨_,val,d,hv,e⟩
 | _=>exact⟨_,val,d,hv,e⟩
theorem Mt (L:fL P T) (Z:dA μ h S w) (M:∀t,cE μ h S w (env t) (a.tmps.getD t undef)) (t:Nat) (x:Operand) (lo hi p:Option Operand) (hp:dO T (.slice t x lo hi p) env h K):
  fv P ⟨dst,.slice t x lo hi p,ty,pos,after,guard⟩ a μ h S w K:=by
 have hx:=dG M x;have d:=zp (λx=>dG M x) (lo:=lo);have j:=zp (λx=>dG M x) (lo:=hi);have B:=zp (λx=>dG M x) (lo:=p);unfold dO at hp;simp only at hp
 have key:∀(K:PV->Prop) (e:TypeId) (i:TypeInfo) (sz n:Nat) (r:Option Addr) (c:Nat) (R:Nat->Nat->PV),P.underlying t=some (.slice e)->P.info? e=some i->i.size=sz->a.eval x=.slice r n c->n<=c->
   (∀l m p,l<=m->m<=n->m<=p->p<=c->cE μ h S w (R l m) (.slice (if p=l then r else r.map (·.add (l*sz))) (m - l) (p - l)))->af6 n (hi.map (ev env)) (p.map (ev env))->
   (match lo.map (ev env),hi.map (ev env)with
    | none,none=>K (R 0 n)
    | some (.int _ l),none=>(0<=l/\l<=n)/\K (R l.toNat n)
    | none,some (.int _ m)=>(0<=m/\m<=n)/\K (R 0 m.toNat)
    | some (.int _ l),some (.int _ m)=>(0<=l/\l<=m/\m<=n)/\K (R l.toNat m.toNat)
    | _,_=>False)->fv P ⟨dst,.slice t x lo hi p,ty,pos,after,guard⟩ a μ h S w K:=by
  intro K e i sz n r c R hu C D ex hc E hm hp;subst D;have A:=λw'=>QG (P:=P) hu C r n c hc w'
  have fin:∀(l m q:Nat),l<=m->m<=n->m<=q->q<=c->K (R l m)->(∀w',(Instr.sliceAt t (.slice r n c) (lo.map a.eval) (hi.map a.eval) (p.map a.eval)).run P w'=.ok (sliced r l m q i.size) w')->
    fv P ⟨dst,.slice t x lo hi p,ty,pos,after,guard⟩ a μ h S w K:=λl m q h1 h2 F G N O=>.mk N (E l m q h1 h2 F G) λw' _=>eZ rfl (by rw[ex];exact O w')
  unfold af6 at hm;split at hm
  ·rename_i o;have o:=B.1 o;split at hp
   ·rename_i b e2;exact fin 0 n c aUE aUE hc aUE hp λw'=>by rw[d.1 b,j.1 e2,o];exact(A w').1
   ·rename_i k l b e2;obtain⟨⟨h0,h1⟩,hp⟩:=hp;exact fin l.toNat n c aUE aUE hc aUE hp λw'=>by rw[d.2 _ _ b,j.1 e2,o];exact(A w').2.1 _ _ h0 h1
   ·rename_i k m b e2;obtain⟨⟨h0,h1⟩,hp⟩:=hp;exact fin 0 m.toNat c aUE aUE aUE aUE hp λw'=>by rw[d.1 b,j.2 _ _ e2,o];exact(A w').2.2.1 _ _ h0 h1
   ·rename_i k l Q m b e2;obtain⟨⟨h0,h1,h2⟩,hp⟩:=hp;exact fin l.toNat m.toNat c aUE aUE aUE aUE hp λw'=>by rw[d.2 _ _ b,j.2 _ _ e2,o];exact(A w').2.2.2.1 _ _ _ _ h0 h1 h2
   ·exact aUd
  ·rename_i ad q o;have o:=B.2 _ _ o;split at hm
   ·rename_i k3 m y;obtain⟨H,I⟩:=hm;rw[y]at hp;split at hp
    ·rename_i b e2;cases e2
    ·rename_i b e2;cases e2
    ·rename_i k m' b e2;injection e2 with e2;injection e2 with U V;subst U;subst V;obtain⟨⟨h0,h1⟩,hp⟩:=hp;exact fin 0 m.toNat q.toNat aUE aUE aUE aUE hp λw'=>by rw[d.1 b,j.2 _ _ y,o];exact(A w').2.2.2.2.1 _ _ _ _ h0 H I
    ·rename_i k l Q m' b e2;injection e2 with e2;injection e2 with U V;subst U;subst V;obtain⟨⟨h0,h1,h2⟩,hp⟩:=hp;exact fin l.toNat m.toNat q.toNat aUE aUE aUE aUE hp λw'=>by rw[d.2 _ _ b,j.2 _ _ y,o];exact(A w').2.2.2.2.2 _ _ _ _ _ _ h0 h1 H I
    ·exact aUd
   ·exact hm.elim
  ·exact hm.elim
 split at hp
 ·rename_i e sz bt z cV n f J hex;rw[hex]at hx;replace hp:=cn hp;obtain⟨W,hm,hp⟩:=hp;obtain rfl:=amb W;obtain⟨hu,_,inf,zv,C,D,_⟩:=L.slice _ _ _ _ _ J;have e0:(λi=>f (0+i))=f:=by funext i;rw[aRf]
  have u:=λl m (h1:l<=m) (h2:m<=n)=>UO sz n f _ hx l m h1 h2;obtain⟨r,c,ex,hc,_⟩:=u 0 0 (Of _) (aRV _);have hc:n<=c:=by rcases hc with hc | hc<;>omega
  refine fv.choose ?_;refine key (Ms K) e inf sz n r c (λl m=>.im sz (m - l) (λi=>f (l+i))) hu C D ex hc (λl m q h1 h2 F G=>?_) hm ?_
  ·obtain⟨X,c',v,_,E⟩:=u l m h1 h2;rw[ex]at v;injection v with b e2 o;subst b;subst o;exact E q F (.inl G)
  ·simp only[e0,Nat.sub_zero];exact hp
 ·rename_i e sz bt z id gen off len J hex;rw[hex]at hx;obtain⟨hu,_,inf,zv,C,D,_⟩:=L.slice _ _ _ _ _ J;split at hp
  ·rename_i g cV n' e' f NP;obtain⟨rfl,hp⟩:=hp;replace hp:=cn hp;obtain⟨W,hm,hp⟩:=hp;obtain rfl:=amb W;have hh:=gG NP;have u:=λl m (h1:l<=m) (h2:m<=len)=>UN L Z id g off len sz n' e' f hh _ hx l m h1 h2;obtain⟨r,c,ex,hc,_⟩:=u 0 0 (Of _) (aRV _);refine fv.choose ?_;refine key (Ms K) e inf sz len r c (λl m=>.own id g (off+l) (m - l)) hu C D ex hc (λl m q h1 h2 F G=>?_) hm ?_
   ·obtain⟨X,c',v,_,E⟩:=u l m h1 h2;rw[ex]at v;injection v with b e2 o;subst b;subst o;exact E q F G
   ·exact hp
  ·exact aUd
 ·rename_i s J hex;rw[hex]at hx;replace hp:=cn hp;obtain⟨Y,hp⟩:=hp;obtain rfl:p=none:=by simpa using Y
  refine fv.choose ?_;generalize Ms K=K at*;have ex:=hx.pn;have hu:=L.str _ J;have kS:(ByteArray.mk ⟨s⟩).size=s.length:=rfl
  have fin:∀(l m:Nat) (s':List UInt8),s'=(s.take m).drop l->K (.str s')->(∀w',(Instr.sliceAt t (.string ⟨⟨s⟩⟩) (lo.map a.eval) (hi.map a.eval) none).run P w'=.ok (.string ((ByteArray.mk ⟨s⟩).extract l m)) w')->
    fv P ⟨dst,.slice t x lo hi none,ty,pos,after,guard⟩ a μ h S w K:=λl m s' hs N O=>.mk N (bh.str _) λw' _=>eZ rfl (by rw[ex,hs,<-Ci];exact O w')
  simp only[EH]at hp;split at hp
  ·rename_i b e2;exact fin 0 s.length s aUG hp λw'=>by rw[d.1 b,j.1 e2,run_sliceAt_string w' _ _ _ _ _ hu,run_slice_string_all w' t ⟨⟨s⟩⟩ hu];rfl
  ·rename_i k l b e2;obtain⟨⟨h0,h1⟩,hp⟩:=hp;exact fin l.toNat s.length _ aUG hp λw'=>by rw[d.2 _ _ b,j.1 e2,run_sliceAt_string w' _ _ _ _ _ hu,run_slice_string_l w' t ⟨⟨s⟩⟩ hu k l h0 h1];rfl
  ·rename_i k m b e2;obtain⟨⟨h0,h1⟩,hp⟩:=hp;exact fin 0 m.toNat _ aUG hp λw'=>by rw[d.1 b,j.2 _ _ e2,run_sliceAt_string w' _ _ _ _ _ hu,run_slice_string_h w' t ⟨⟨s⟩⟩ hu k m h0 h1]
  ·rename_i k l Q m b e2;obtain⟨⟨h0,h1,h2⟩,hp⟩:=hp;exact fin l.toNat m.toNat _ rfl hp λw'=>by rw[d.2 _ _ b,j.2 _ _ e2,run_sliceAt_string w' _ _ _ _ _ hu,run_slice_string w' t ⟨⟨s⟩⟩ k Q l m hu h0 h1 h2]
  ·exact aUd
 ·exact aUd
theorem sG:∀(cs l:List PV) (off j:Nat),off+cs.length<=l.length->(jj l off cs)[j]? =if off<=j/\j<off+cs.length then cs[j - off]? else l[j]?
 | [],l,off,j,_=>by
  simp only[jj,An,aSo];rw[As aUE]
 | c::r,l,off,j,a=>by
  simp only[jj,so]at a ⊢;rw[sG r (l.set off c) (off+1) j aUP];by_cases h1:j=off
  ·subst h1;rw[As aUE,At aUE,aSz,aSc aUE];rfl
  ·rw[aRB aUE];by_cases h2:off+1<=j/\j<off+1+r.length
   ·rw[At h2,At aUE];have:j - off=(j - (off+1))+1:=by omega
    rw[this,aRS]
   ·rw[As h2,As aUE]
theorem n7:∀(cs l:List PV) (off:Nat),(jj l off cs).length=l.length
 | [],_,_=>rfl
 | c::r,l,off=>by simp only[jj];rw[n7 r];simp
theorem bh.no {pv:PV} {v:Value} (h:bh S w pv v):eH pv=false:=by cases h<;>rfl
theorem SZ {c:PV} (h:BG c=true):eH c=false:=by cases c<;>first | rfl | cases h
theorem QH {v:PV} (h:storable v=true) {j:Nat} {pv:PV} (hj:(cellsOf v)[j]? =some pv):eH pv=false:=by
 have hm:=aRq hj;cases v with
 | agg cs=>exact SZ (aRg.1 h pv hm)
 | _=>exact SZ (by rw[aSR.1 hm];exact h)
theorem n8 {pv:PV} {v:Value} (hs:storable pv=true) (hv:cE μ h S w pv v):
  v.cells.toList.length=(cellsOf pv).length/\∀(j:Nat) (p:PV),(cellsOf pv)[j]? =some p->∃u,v.cells.toList[j]? =some u/\db μ h S w p u:=by
 have one:∀(hc:db μ h S w pv v),cellsOf pv=[pv]->v.cells.toList.length=(cellsOf pv).length/\∀(j:Nat) (p:PV),(cellsOf pv)[j]? =some p->∃u,v.cells.toList[j]? =some u/\db μ h S w p u:=by
  intro hc he;have h1:=hc.one;have h2:v.cells=#[v]:=by cases v<;>first | rfl | cases h1
  rw[h2,he];refine⟨rfl,λj p hj=>?_⟩;cases j with
  | zero=>
   simp at hj;subst hj;exact⟨v,rfl,hc⟩
  | succ j=>simp at hj
 cases pv with
 | agg cs=>
  obtain⟨vs,rfl,h2,a⟩:=hv;refine⟨by simpa[Value.cells,cellsOf]using h2,λj p hj=>?_⟩;obtain⟨u,hu,c⟩:=a j p hj;exact⟨u,by simpa[Value.cells]using hu,c⟩
 | gJ vs=>cases hs
 | fG sz n e f F=>cases hs
 | kB=>cases hs
 | rB id=>exact one hv rfl
 | qz f dB=>exact one hv rfl
 | int k n=>exact one hv rfl
 | bool b=>exact one hv rfl
 | str s=>exact one hv rfl
 | bR=>exact one hv rfl
 | jk=>exact one hv rfl
 | im sz n f=>exact one hv rfl
 | ic cs=>exact one hv rfl
 | own id gen off len=>exact one hv rfl
 | aI id gen i off=>exact one hv rfl
 | fn f=>exact one hv rfl
theorem Hu:∀(l:List Value) (s off:Nat) (cs:Array Value),off+s+l.length<=cs.size->
  ((l.zipIdx s).foldl (λ(cs:Array Value) (p:Value×Nat)=>cs.setIfInBounds (off+p.2) p.1) cs).size=cs.size/\
  ∀q,((l.zipIdx s).foldl (λ(cs:Array Value) (p:Value×Nat)=>cs.setIfInBounds (off+p.2) p.1) cs)[q]? =if off+s<=q/\q<off+s+l.length then l[q - (off+s)]? else cs[q]?
 | [],s,off,cs,_=>by
  refine⟨rfl,λq=>?_⟩;simp only[List.zipIdx_nil,List.foldl_nil,An,aSo];rw[As aUE]
 | v::r,s,off,cs,b=>by
  simp only[so]at b;obtain⟨h1,h2⟩:=Hu r (s+1) off (cs.setIfInBounds (off+s) v) aUP;simp only[List.zipIdx_cons,List.foldl_cons,so];refine⟨by rw[h1];simp,λq=>?_⟩;rw[h2 q];by_cases hq:q=off+s
  ·subst hq;rw[As aUE,At aUE,aSz];simp [Array.getElem?_setIfInBounds,show off+s<cs.size from by omega]
  ·by_cases a:off+(s+1)<=q/\q<off+(s+1)+r.length
   ·rw[At a,At aUE];have:q - (off+s)=(q - (off+(s+1)))+1:=by omega
    rw[this,aRS]
   ·rw[As a,As aUE,aTb aUE]
theorem vz (v:Value) (off:Nat) (cs:Array Value) (a:off+v.cells.size<=cs.size):
  (v.cells.zipIdx.foldl (λ(cs:Array Value) (p:Value×Nat)=>cs.setIfInBounds (off+p.2) p.1) cs).size=cs.size/\
  ∀q,(v.cells.zipIdx.foldl (λ(cs:Array Value) (p:Value×Nat)=>cs.setIfInBounds (off+p.2) p.1) cs)[q]? =if off<=q/\q<off+v.cells.size then v.cells[q - off]? else cs[q]?:=by
 have h:=Hu v.cells.toList 0 off cs (by simpa using a);rw[<-Array.foldl_toList];simp only[Array.toList_zipIdx,aSo,aSy,aRP]at h ⊢;exact h
theorem QI {l:List PV} (a:isByte l=true):∃v,l=[.int .u8 v]:=by
 unfold isByte at a;split at a
 ·exact aUj
 ·cases a
theorem EI {g:Nat->List PV} {s:List UInt8} {n:Nat} (a:s.length=n) (hf:∀i,i<n->g i=[.int .u8 (s.getD i 0).toNat]):(∀i,i<n->isByte (g i)=true)/\(List.range n).map (λi=>byteOf (g i))=s:=by
 refine⟨λi hi=>by rw[hf i hi];rfl,?_⟩;apply List.ext_getElem (by simp [a]);intro i h1 h2;simp only[aSp,List.length_range]at h1;rw[List.getElem_map,List.getElem_range,hf i h1];simp [byteOf,aRb,abL h2]
theorem Gu (B:fL P T) (L:dA μ h S w) (M:∀t,cE μ h S w (env t) (a.tmps.getD t undef)) (s d:Nat) (x:Operand) (hp:dO T (.convert s d x) env h K):
  fv P ⟨dst,.convert s d x,ty,pos,after,guard⟩ a μ h S w K:=by
 have hx:=dG M x;unfold dO at hp;simp only at hp;split at hp
 ·rename_i k0 k k1 n hs hd hex;rw[hex]at hx
  exact .mk hp (bh.int _ _) λw' _=>eZ rfl (by
   rw[hx.mU];simp [convert,run_underlying (B.int _ _ hs),run_underlying (B.int _ _ hd),Conv.intToInt])
 ·rename_i e sz bt z hs hd;split at hp
  ·rename_i F;have hu:=(B.slice _ _ _ _ _ hs).1;have l:=B.int _ _ F;have m:=B.str _ hd
   have key:∀(b off c n:Nat) (g:Nat->List PV),a.eval x=.slice (some ⟨b,off,none⟩) n c->(∀i,i<n->isByte (g i)=true)->K (.str ((List.range n).map λi=>byteOf (g i)))->
     (∀i v,i<n->g i=[.int .u8 v]->w.cell? ⟨b,off+i,none⟩=some (.int .u8 v))->fv P ⟨dst,.convert s d x,ty,pos,after,guard⟩ a μ h S w K:=by
    intro b off c n g ex C j D;have num:∀i,i<n->∃v,g i=[.int .u8 v]:=λi hi=>QI (C i hi)
    let val:Nat->Int:=λi=>match g i with | [.int _ v]=>v | _=>0
    have J:∀i,i<n->g i=[.int .u8 (val i)]:=λi hi=>by
     obtain⟨v,hv⟩:=num i hi;simp only[val,hv]
    refine .mk j (bh.str _) λw' N=>eZ rfl ?_;rw[ex,run_convert_bytes_arg w' s e hu l b off n c ((List.range n).map val) aUG (λi hi=>?_) d m]
    ·congr 2;simp only[strOfNums]
     have:((List.range n).map val).map (λq=>UInt8.ofNat q.toNat)=(List.range n).map λi=>byteOf (g i):=by
      rw[List.map_map];apply List.map_congr_left;intro i hi;rw[J i (aTe.1 hi)];rfl
     rw[this]
    ·rw[N.cell (D i _ hi (J i hi))];simp [aRb,hi]
   unfold zq at hp;split at hp
   ·rename_i hex;rw[hex]at hx;refine .mk hp (bh.str _) λw' _=>eZ rfl ?_;rw[hx.rz,run_convert_bytes_nil w' s e hu l 0 0 d m];rfl
   ·rename_i O n f hex;rw[hex]at hx;replace hp:=cn hp;obtain⟨h1,G,E,o,j⟩:=hp;obtain⟨C,r⟩:=EI E o;replace j:K (.str G):=j;rw[<-r]at j;clear E o r;obtain rfl:=amb h1;rcases hx.xO with⟨Q,c,ex,rfl⟩ | ⟨b,off,c,R,ex,hS,U,hc,D,V⟩
    ·cases Q with
     | none=>
      refine .mk j (bh.str _) λw' _=>eZ rfl ?_;rw[ex,run_convert_bytes_nil w' s e hu l 0 c d m];rfl
     | some H=>
      refine .mk j (bh.str _) λw' _=>eZ rfl ?_;rw[ex,run_convert_bytes_string w' s d e _ 0 c hu l m,run_bytesToString w' H 0 c [] (by simp [loadCells,loadCellsFrom])];rfl
    ·refine key b off c n f ex C j λi v hi hv=>?_;have q1:=D i 0 (.int .u8 v) hi (by rw[hv];rfl);have A:=V i 0 (.int .u8 v) hi (by rw[hv];rfl);rw[Nat.mul_one,aSo]at q1;rw[q1];generalize R i 0=u at A;cases A;rfl
   ·rename_i id gen off n hex;rw[hex]at hx;split at hp
    ·rename_i g O W e' f X;obtain⟨rfl,hp⟩:=hp;replace hp:=cn hp;obtain⟨h1,G,E,o,j⟩:=hp;obtain⟨C,r⟩:=EI (g:=λi=>f (off+i)) E o;replace j:K (.str G):=j;rw[<-r]at j;clear E o r;obtain rfl:=amb h1;have hh:=gG X;have y:=hx.qJ;unfold bX at y;rw[hh]at y;obtain⟨⟨a0,l0,c0,e0⟩,_,y⟩:=y;obtain⟨Y,y⟩:=y rfl;obtain⟨U,hc⟩:=L id g 1 W e' f hh;cases hm:μ id with
     | none=>
      rw[hm]at y hc;have I:n=0:=by omega
      subst I;refine .mk j (bh.str _) λw' _=>eZ rfl ?_;rw[show a.eval x=.slice none 0 0 from y,run_convert_bytes_nil w' s e hu l 0 0 d m];rfl
     | some p=>
      obtain⟨b,base⟩:=p;rw[hm]at y hc;obtain⟨H,cap,ex,iQ,Z,QF⟩:=y;obtain⟨cur,ta,yo,D⟩:=dA.cells QF hc;rcases aSq n with h0 | h0
      ·subst h0;refine .mk j (bh.str _) λw' _=>eZ rfl ?_;rw[ex,run_convert_bytes_string w' s d e _ 0 cap hu l m,run_bytesToString w' H 0 cap [] (by simp [loadCells,loadCellsFrom])];rfl
      ·rw[Z aUE,Nat.mul_one]at ex;refine key b (base+off) cap n (λi=>f (off+i)) ex C j λi v hi hv=>?_;obtain⟨u,q1,A⟩:=D (off+i) 0 (.int .u8 v) aUE (by rw[hv];rfl);have A:bh S w (.int .u8 v) u:=A;cases A;rw[cell_of_row w b (base+off+i) cur e' (0,0) ta,<-q1];congr 1;omega
    ·exact aUd
   ·exact aUd
  ·exact aUd
 ·exact aUd
theorem EJ (d:∀t,cE μ h S w (env t) (a.tmps.getD t undef)) (x:Operand) (hp:dO T (.nilCheck x) env h K):
  fv P ⟨dst,.nilCheck x,ty,pos,after,guard⟩ a μ h S w K:=by
 have hx:=dG d x;unfold dO at hp;simp only at hp;split at hp
 ·rename_i cs hex;rw[hex]at hx;obtain⟨b,off,l,ex,_⟩:=hx.Aq;exact .mk hp hx λw' _=>by simp [execOp,ex]
 ·rename_i id gen i off hex;rw[hex]at hx;split at hp
  ·rename_i g sz n e f j;obtain⟨rfl,hp⟩:=hp;have hh:=gG j;have c:=hx.xj;unfold c7 at c;rw[hh]at c;obtain⟨_,_,c⟩:=c;obtain⟨k,b,base,m,o,hv⟩:=c rfl;exact .mk hp hx λw' _=>by simp [execOp,hv]
  ·exact aUd
 ·exact aUd
theorem Cj (c:fL P T) {s sz k o size:Nat} {fl:List (Nat×Nat×Bool)} {z:List PV} {a:Bool} (e:T.get s=.struct sz fl z) (g:fl[k]? =some (o,size,a)) (b off:Nat) (w':World):
  (Instr.fieldAt s (.pointer (some ⟨b,off,none⟩)) k).run P w'=.ok (.pointer (some ⟨b,off+o,none⟩)) w':=by
 obtain⟨fs,i,hu,hi,m,h,_,hf⟩:=c.struct _ _ _ _ e;obtain⟨f,j,d,h1,h2,l,n,p,q,r⟩:=hf k o size a g;have h0:¬j.size=0:=by omega
 simp [Instr.fieldAt,run_underlying hu,h1,Instr.sureAddr,fieldPlace,mV l,h0,Addr.add_lit,h2]
theorem CT (l:fL P T) (q:∀t,cE μ h S w (env t) (a.tmps.getD t undef)) (s:Nat) (x:Operand) (k:Nat) (hp:dO T (.fieldAddr s x k) env h K):
  fv P ⟨dst,.fieldAddr s x k,ty,pos,after,guard⟩ a μ h S w K:=by
 have hx:=dG q x;unfold dO at hp;simp only at hp;split at hp
 ·rename_i sz fl z m;split at hp
  ·rename_i o size D p;split at hp
   ·rename_i cs hex;rw[hex]at hx;obtain⟨b,off,r,ex,u,v,y⟩:=hx.Aq;refine .mk hp (bh.ic (cs.drop o) b (off+o) (λj=>r (o+j)) u (λj pv hj=>?_) (λj pv hj=>?_)) λw' _=>eZ rfl (by rw[ex];exact Cj l m p b off w')
    ·rw[aSs]at hj;rw[aTg];exact v _ _ hj
    ·rw[aSs]at hj;exact y _ _ hj
   ·rename_i id gen i off hex;rw[hex]at hx;split at hp
    ·rename_i g E n e f A;obtain⟨rfl,hp⟩:=hp;have hh:=gG A;have c:=hx.xj;unfold c7 at c;rw[hh]at c;obtain⟨_,_,c⟩:=c;obtain⟨d,b,base,B,C,hv⟩:=c rfl;refine .mk hp ?_ λw' _=>eZ rfl (by rw[hv];exact Cj l m p b _ w');show c7 _ _ _ _ _ _ _ _;unfold c7;rw[hh];exact⟨⟨_,rfl⟩,Of _,λ_=>⟨d,b,base,B,C,by simp only[aTg]⟩⟩
    ·exact aUd
   ·exact aUd
  ·exact aUd
 ·exact aUd
theorem Aw (m:∀t,cE μ h S w (env t) (a.tmps.getD t undef)) (sz:Nat) (fl:List (Nat×Nat×Bool)) (place:Nat->Option (Nat×Nat)) (b:∀(k o size:Nat) (e:Bool),fl[k]? =some (o,size,e)->place k=some (o,size)) {K:List PV->Prop}:
  ∀(l:List (Nat×Operand)) (acc:List PV) (cells:Array Value),rC env sz fl K l acc->cells.size=sz->acc.length=sz->(∀(j:Nat) (pv:PV),acc[j]? =some pv->∃u,cells[j]? =some u/\db μ h S w pv u)->
  ∃c d,K c/\Instr.fill place cells (l.map λp=>(p.1,a.eval p.2))=some d/\d.size=sz/\c.length=sz/\∀(j:Nat) (pv:PV),c[j]? =some pv->∃u,d[j]? =some u/\db μ h S w pv u
 | [],acc,cells,hp,hs,f,g=>⟨acc,cells,hp,rfl,hs,f,g⟩
 | (k,x)::r,acc,cells,hp,hs,f,g=>by
  unfold rC at hp;split at hp
  ·rename_i o size e y;replace hp:=cn (eu hp);obtain⟨n,hp⟩:=hp;simp only[No]at n;obtain⟨⟨z,hlen⟩,q⟩:=n;have hlen:=amb hlen;have q:=aRC q;obtain⟨s,v⟩:=n8 z (dG m x);simp only[aSy,aRP]at s v;have i:(a.eval x).cells.size=size:=s.trans hlen;obtain⟨A,g2⟩:=vz (a.eval x) o cells aUE
   obtain⟨c,d,q1,B,C⟩:=Aw m sz fl place b r (jj acc o (cellsOf (ev env x))) ((a.eval x).cells.zipIdx.foldl (λ(cs:Array Value) (p:Value×Nat)=>cs.setIfInBounds (o+p.2) p.1) cells) hp (A.trans hs) (by rw[n7];exact f)
    (λj pv hj=>by
     rw[sG _ _ _ _ aUE]at hj;rw[g2 j];by_cases hc:o<=j/\j<o+size
     ·rw[At aUE]at hj;rw[At aUE];exact v _ _ hj
     ·rw[As aUE]at hj;rw[As aUE];exact g j pv hj)
   refine⟨c,d,q1,?_,C⟩;simp only[aRD,Instr.fill,b k o size e y];rw[As (by simp only[i,ne_eq,aTj,false_or];simp only[aRZ,aSx,not_or];simp;omega)];exact B
  ·exact aUd
theorem Hv:∀(fs:List Field) (n:Nat) (fl:List (Nat×Nat×Bool)),fl.length=fs.length->
  (∀(k o size:Nat) (a:Bool),fl[k]? =some (o,size,a)->∃f j,fs[k]? =some f/\f.offset=o/\P.info? f.type=some j/\j.size=size)->
  fs.mapM (λf=>(P.info? f.type).map λi=>(f.offset,i.size))=some (fl.map λq=>(q.1,q.2.1))
 | [],n,[],_,_=>rfl
 | f::fs,n,(o,size,a)::fl,b,hf=>by
  obtain⟨h,j,h1,h2,c,d⟩:=hf 0 o size a rfl;simp at h1;subst h1
  have e:=Hv fs n fl (by simpa using b) (λk o size a g=>by
   obtain⟨f,j,q⟩:=hf (k+1) o size a (by simpa using g);exact⟨f,j,by simpa using q⟩)
  simp only[List.mapM_cons,aRD,c,Option.map_some,Option.bind_eq_bind,aTn,e,h2,d];rfl
theorem Mv (x:fL P T) (y:∀t,cE μ h S w (env t) (a.tmps.getD t undef)) (t:Nat) (parts:Array (Nat×Operand)) (hp:dO T (.build t parts) env h K):
  fv P ⟨dst,.build t parts,ty,pos,after,guard⟩ a μ h S w K:=by
 unfold dO at hp;simp only at hp;split at hp
 ·rename_i sz fl z A;obtain⟨fs,i,hu,hi,H,c,⟨e,B,g,l,m⟩,hf⟩:=x.struct _ _ _ _ A
  have n:=Hv (P:=P) fs.toList 0 fl (by simpa using c) (λk o size s r=>by
   obtain⟨f,j,d,h1,h2,C,D,_⟩:=hf k o size s r;exact⟨f,j,by simpa using h1,h2,C,D⟩)
  obtain⟨I,u,q1,E,J,L,F⟩:=Aw (a:=a) (μ:=μ) (h:=h) (S:=S) (w:=w) y sz fl ((fl.map λq=>(q.1,q.2.1)).toArray[·]?) (λk o size s r=>by simp [r]) parts.toList z e.cells hp g l (λj pv hj=>by
   have v:j<e.cells.size:=by
    have:=(abF.1 hj).1;omega
   obtain⟨M,b,_,G⟩:=m j e.cells[j] (aRK v);rw[hj]at b;injection b with b;subst b;exact⟨_,aRK v,db.mu (G S w)⟩)
  refine .mk q1 ⟨u,rfl,by omega,F⟩ λw' _=>eZ rfl (run_build w' t _ u ?_);unfold Program.built;simp only[hi,hu,B,n];have:(parts.map λp=>(p.1,a.eval p.2)).toList=parts.toList.map λp=>(p.1,a.eval p.2):=by simp
  rw[this];exact E
 ·exact aUd
theorem Mw {P:Program} {t:TypeId} {d:TypeDesc} {j:TypeInfo} (hu:P.underlying t=some d) (hi:P.info? t=some j) (cs:Array Value) (off:Nat) (w:World):
  (part t cs off).run P w=if Gr d then .ok (.agg (cs.extract off (off+j.size))) w else match cs[off]? with | some v=>.ok v w | none=>(part t cs off).run P w:=by
 cases hd:Gr d with
 | true=>simp [part,Au hu,hd,mV hi]
 | false=>
  simp only[atX,aRc];cases hc:cs[off]? with
  | none=>rfl
  | some v=>simp [part,Au hu,hd,hc]
theorem Mx (y:fL P T) (A:∀t,cE μ h S w (env t) (a.tmps.getD t undef)) (s:Nat) (x:Operand) (k:Nat) (hp:dO T (.field s x k) env h K):
  fv P ⟨dst,.field s x k,ty,pos,after,guard⟩ a μ h S w K:=by
 have hx:=dG A x;unfold dO at hp;simp only at hp;split at hp
 ·rename_i sz fl z B;split at hp
  ·rename_i o size C D;split at hp
   ·rename_i cs hex;rw[hex]at hx;obtain⟨vs,ex,H,hv⟩:=hx;obtain⟨fs,i,hu,hi,I,E,_,hf⟩:=y.struct _ _ _ _ B;obtain⟨f,j,d,h1,h2,g,F,J,l,m⟩:=hf k o size C D
    have n:∀w' v,(part f.type vs f.offset).run P w'=.ok v w'->(execOp a.eval ⟨dst,.field s x k,ty,pos,after,guard⟩).run P w'=.ok (.value v) w':=λw' v G=>eZ rfl (by
     rw[ex];simp [Instr.field,run_underlying hu,h1,G,asAgg])
    split at hp
    ·obtain⟨hle,p⟩:=rA _ _ _ hp;simp only[aTk,aRe,aRI]at p hle;refine .mk p (val:=.agg (vs.extract o (o+size))) ⟨_,rfl,by simp;omega,λq pv hq=>?_⟩ λw' _=>n w' _ (by rw[Mw l g,<-m,At rfl,h2,F]);rw[aSQ]at hq;split at hq
     ·rename_i L;rw[aSs]at hq;obtain⟨u,b,e⟩:=hv _ _ hq;refine⟨u,?_,e⟩;rw[Array.getElem?_extract];have:o+q<vs.size:=(aRa.1 b).1;rw[At aUE];exact b
     ·cases hq
    ·split at hp
     ·rename_i c r hd
      have h0:cs[o]? =some c:=by
       have:=congrArg (·[0]?) hd;simpa using this
      obtain⟨u,b,e⟩:=hv _ _ h0;exact .mk (eu hp) e.v λw' _=>n w' _ (by rw[Mw l g,<-m,h2];simp [b])
     ·exact aUd
   ·exact aUd
  ·exact aUd
 ·exact aUd
theorem Gt.af7 {pv:PV} {v:Value} (hs:rv pv=true) (a:Gt pv v):cE μ h S w pv v:=by
 have one:∀(pv:PV) (v:Value),Hw pv=true->EK pv v->db μ h S w pv v:=λpv v hs a=>by
  cases pv<;>first | (cases hs;done) | (have a:v=_:=a;subst a;first | exact bh.int _ _ | exact bh.bool _ | exact bh.str _) | exact a
 cases pv with
 | agg cs=>
  obtain⟨vs,h1,h2,c⟩:=a;exact⟨vs,h1,h2,λj pv hj=>let⟨u,hu,hc⟩:=c j pv hj;⟨u,hu,one pv u (aRg.1 hs _ (aRq hj)) hc⟩⟩
 | kB=>trivial
 | int k n=>exact one (.int k n) v rfl a
 | bool b=>exact one (.bool b) v rfl a
 | str s=>exact one (.str s) v rfl a
 | _=>cases hs
theorem oY (f:fL P T) (g:dA μ h S w) (e:∀t,cE μ h S w (env t) (a.tmps.getD t undef)) {op:Op} (hp:dO T op env h K):
  fv P ⟨dst,op,ty,pos,after,guard⟩ a μ h S w K:=by
 cases op with
 | lookup t x i ok=>exact(show False from hp).elim
 | makeFunc fn first captured=>exact(show False from hp).elim
 | move x=>exact .mk (eu hp) (dG e x) λ_ _=>rfl
 | assign x=>exact .mk (eu hp) (dG e x) λ_ _=>rfl
 | pick c x y=>
  have hc:=dG e c;simp only[dO]at hp;split at hp
  ·rename_i b hex;rw[hex]at hc;have m:=hc.nZ;obtain⟨h1,h2⟩:=lX hp;cases b with
   | true=>exact .mk (eu (h1 rfl)) (dG e x) λw' _=>by simp [execOp,m,asBool]
   | false=>exact .mk (eu (h2 rfl)) (dG e y) λw' _=>by simp [execOp,m,asBool]
  ·exact aUd
 | binOp p t x y q=>exact UK f p t q x y _ _ (dG e x) (dG e y) hp
 | unOp u t x=>
  have hx:=dG e x;simp only[dO]at hp;split at hp
  ·rename_i b hex;rw[hex]at hx;exact .mk hp (bh.bool _) λw' _=>eZ rfl (by rw[hx.nZ,unary_not];rfl)
  ·rename_i k n hex;rw[hex]at hx;exact .mk hp (bh.int _ _) λw' _=>eZ rfl (by rw[hx.mU,unary_neg];rfl)
  ·exact aUd
 | load t x=>exact EF f g t x _ (dG e x) hp
 | convert s d x=>exact Gu f g e s d x hp
 | nilCheck x=>exact EJ e x hp
 | fieldAddr s x k=>exact CT f e s x k hp
 | build t parts=>exact Mv f e t parts hp
 | field s x k=>exact Mx f e s x k hp
 | indexAddr t x i=>exact Mr f g e t x i hp
 | index t x i=>exact EG f e t x i hp
 | extract x i=>
  have hx:=dG e x;simp only[dO]at hp;split at hp
  ·rename_i vs hex;rw[hex]at hx;split at hp
   ·rename_i v hv;obtain⟨us,r,e2,z⟩:=hx;obtain⟨u,hu,o⟩:=z i v hv
    have j:cE μ h S w v u:=by
     cases v with
     | gJ B=>exact(show False from o).elim
     | _=>exact o
    exact .mk (eu hp) j λw' _=>eZ rfl (by rw[r];simp [Instr.extract,hu])
   ·exact aUd
  ·exact aUd
 | slice t x lo hi A=>exact Mt f g e t x lo hi A hp
 | call c=>
  obtain⟨l,args,ts⟩:=c;cases l with
  | builtin b=>cases b with
   | len=>exact UM f g e args ts hp
   | _=>exact(show False from hp).elim
  | _=>exact(show False from hp).elim
 | _=>exact(show False from hp).elim
end
section
variable {P:Program}{T:ru}{μ:Mu}{h:List ao}{S:Nat->Prop}{w w1:World}
def oE (μ:Mu) (id:Nat) (p:Option (Nat×Nat)):Mu:=λj=>if j=id then p else μ j
theorem bY (μ:Mu) (id:Nat) (p:Option (Nat×Nat)):oE μ id p id=p:=by simp [oE]
theorem dH (μ:Mu) {id j:Nat} (p:Option (Nat×Nat)) (hj:j≠id):oE μ id p j=μ j:=by simp [oE,hj]
structure Core (μ:Mu) (h:List ao) (S:Nat->Prop) (w:World):Prop where
 heap:dA μ h S w
 ok:uY μ h S w
theorem EL (hc:Core μ h S w) (id g E sz n r:Nat) (e:TypeId) (f t:Nat->List PV) (hh:h[id]? =some (ao.row g sz n e f)) (d I:Nat) (J:Array Value)
  (hg:g<=E) (aa:E=g->μ id=some (d,I)/\r=n)
  (l:w.heap.size<=d\/∃base cur,μ id=some (d,base)/\w.heap[d]? =some (.cells cur e (0,0))/\cur.size=J.size)
  (hw:w1.heap[d]? =some (.cells J e (0,0))) (yo:I+r*sz<=J.size)
  (H:∀b,b<w.heap.size->b≠d->w1.heap[b]? =w.heap[b]?) (Ax:w.heap.size<=w1.heap.size) (ad:w1.os=w.os) (ag:w1.tape=w.tape) (a1:w1.output=w.output)
  (hl:∀i,i<r->(t i).length=sz) (QD:∀b base,μ id=some (b,base)->¬th w b)
  (bB:∀(i j:Nat) (pv:PV),i<r->(t i)[j]? =some pv->∃v:Value,J[I+i*sz+j]? =some v/\qn μ h S w pv v) (My:Nat)
  (xl:∀(i j N O:Nat) (e':TypeId) (P:Nat->List PV) (Q:Nat->Prop),i<r->(t i)[j]? =some (.fG N O e' P Q)->My+i<n/\(f (My+i))[j]? =some (.fG N O e' P Q)):
  Fr μ h S w (oE μ id (some (d,I))) (h.set id (.row E sz r e t)) S w1/\Core (oE μ id (some (d,I))) (h.set id (.row E sz r e t)) S w1:=by
 have hid:id<h.length:=(abF.1 hh).1;have lY:(h.set id (ao.row E sz r e t))[id]? =some (ao.row E sz r e t):=by simp [hid]
 have s:∀j,j≠id->(h.set id (ao.row E sz r e t))[j]? =h[j]?:=λj hj=>by rw[aRB (aSA hj)]
 have a2:d<w1.heap.size:=(aRa.1 hw).1
 have xm:d<w.heap.size->dL μ h d:=λF=>by
  rcases l with l | ⟨base,cur,hm,_,_⟩
  ·omega
  ·exact .inl ⟨id,g,sz,n,e,f,base,hh,hm⟩
 have K:∀j x y b,eR (h.set id (ao.row E sz r e t)) j x y b->eR h j (if j=id then My+x else x) y b:=λj x y b ⟨u,A,B,C,D,N,O,e',P,Q,q1,m,q3,q4⟩=>by
  by_cases a:j=id
  ·subst a;rw[lY]at q1;injection q1 with q1;injection q1 with R e2 T U V;subst R e2 T U V;obtain⟨r1,W⟩:=xl x y _ _ _ _ _ m q3;rw[At rfl];exact⟨_,_,_,_,_,_,_,_,_,_,hh,r1,W,q4⟩
  ·rw[s j a]at q1;rw[As a];exact⟨_,_,_,_,_,_,_,_,_,_,q1,m,q3,q4⟩
 have yJ:∀j x y b,eR h j x y b->b<w.heap.size/\b≠d:=λj x y b hx=>by
  have F:=hc.ok.lt b (.inr ⟨j,x,y,hx⟩);refine⟨F,?_⟩;rintro rfl;rcases l with l | ⟨base,cur,hm,_,_⟩
  ·omega
  ·exact hc.ok.hv b ⟨id,g,sz,n,e,f,base,hh,hm⟩ j x y hx
 have X:Fr μ h S w (oE μ id (some (d,I))) (h.set id (.row E sz r e t)) S w1:=by
  refine⟨by simp,λb F Bp=>?_,λ_ l=>l,λ_ l=>.inl l,λb Y=>?_,Ax,ad,ag,a1,λj u A B C D hj=>?_,λj hj=>?_,λb k Ck iQ=>?_,λj u A B C D b base hj hm Z=>?_,λb j x y hx Z=>?_⟩;rotate_right
  ·obtain⟨q1,m⟩:=yJ j x y b hx;obtain⟨es,c,q⟩:=Z;exact⟨es,c,(H b q1 m).trans q⟩
  ·by_cases G:b=d
   ·subst G;exact(Bp (xm F)).elim
   ·exact H b F G
  ·rcases Y with⟨j,u,A,B,C,D,rD,hj,hm⟩ | ⟨j,x,y,hx⟩;rotate_left
   ·exact .inl (.inr ⟨_,_,_,K j x y b hx⟩)
   by_cases a:j=id
   ·subst a;rw[bY]at hm;injection hm with hm;injection hm with h1 h2;subst h1;rcases aSf d w.heap.size with F | Kv
    ·exact .inl (xm F)
    ·exact .inr Kv
   ·rw[s j a]at hj;rw[dH μ _ a]at hm;exact .inl (.inl ⟨j,u,A,B,C,D,rD,hj,hm⟩)
  ·by_cases a:j=id
   ·subst a;rw[hh]at hj;injection hj with hj;injection hj with R e2 T U V;subst R e2 T U V;rw[lY];refine⟨hg,λhe=>?_⟩;obtain⟨h1,h2⟩:=aa he;exact⟨by rw[bY,h1],rfl,h2,rfl⟩
   ·rw[s j a,hj];exact⟨Of _,λ_=>⟨dH μ _ a,rfl,rfl,rfl⟩⟩
  ·have a:j≠id:=by rintro rfl;rw[hh]at hj;cases hj
   rw[s j a];exact hj
  ·by_cases G:b=d
   ·subst G;obtain⟨cur,e',z,q1,m⟩:=iQ;rcases l with l | ⟨base,CU,hm,n9,kS⟩
    ·have:=(aRa.1 q1).1;omega
    ·rw[n9]at q1;injection q1 with q1;injection q1 with q1 _ _;subst q1;exact⟨J,e,_,hw,by omega⟩
   ·exact lZ.of_same (H b iQ.lt G) iQ
  ·have a:j≠id:=by rintro rfl;exact QD b base hm Z
   have G:b≠d:=by
    rintro rfl;obtain⟨es,c,q⟩:=Z;rcases l with l | ⟨sH,CU,L,n9,_⟩
    ·have:=(aRa.1 q).1;omega
    ·rw[n9]at q;cases q
   obtain⟨es,c,q⟩:=Z;exact⟨⟨es,c,(H b (aRa.1 q).1 G).trans q⟩,.inr ⟨⟨_,_,_,_,_,(s j a).trans hj⟩,by rw[dH μ _ a];exact hm⟩⟩
 refine⟨X,⟨λj u A B C D hj=>?_,?_⟩⟩
 ·by_cases a:j=id
  ·subst a;rw[lY]at hj;injection hj with hj;injection hj with R e2 T U V;subst R e2 T U V;rw[bY];refine⟨hl,dA.EM ⟨J,hw,yo,λi k pv hi M=>?_⟩⟩;obtain⟨v,h1,h2⟩:=bB i k pv hi M;refine⟨v,h1,h2.fr X hc.ok (λN O e' P Q he b Y=>?_)⟩;rw[he]at M;obtain⟨r1,W⟩:=xl i k _ _ _ _ _ hi M;obtain⟨q1,m⟩:=yJ j (My+i) k b ⟨_,_,_,_,_,_,_,_,_,_,hh,r1,W,Y⟩;exact H b q1 m
  ·rw[s j a]at hj;obtain⟨h1,h2⟩:=hc.heap j u A B C D hj;refine⟨h1,?_⟩;rw[dH μ _ a];cases hm:μ j with
   | none=>rw[hm]at h2;exact h2
   | some p=>
    obtain⟨b,base⟩:=p;rw[hm]at h2;obtain⟨o,q1,m⟩:=h2;have F:b<w.heap.size:=(aRa.1 q1).1
    have G:b≠d:=by
     rintro rfl;rcases l with l | ⟨sH,CU,L,_⟩
     ·omega
     ·exact a (hc.ok.inj j id _ _ _ _ _ _ _ _ _ _ _ _ _ hj hh hm L)
    exact⟨o,(H b F G).trans q1,m.mono (λi y pv v hi hy hr=>hr.fr X hc.ok (λN O e' P Q he b' Y=>by
     obtain⟨q1,m⟩:=yJ j i y b' ⟨_,_,_,_,_,_,_,_,_,_,hj,hi,by rw[hy,he],Y⟩;exact H b' q1 m))⟩
 ·refine⟨λb Ck S4=>?_,λb Ck=>?_,λb S4=>aRx (hc.ok.slt b S4) Ax,?_,hc.ok.EN X,λb a3 j x y hx=>?_,λb j x y j' x' y' hx wh=>?_⟩;rotate_right 2
  ·obtain⟨q1,m⟩:=yJ _ _ _ b (K j x y b hx);obtain⟨k,gk,a4,nk,ek,fk,Mz,M,hm⟩:=a3;by_cases AZ:k=id
   ·subst AZ;rw[bY]at hm;injection hm with hm;injection hm with h1 h2;exact m h1.symm
   ·rw[s k AZ]at M;rw[dH μ _ AZ]at hm;exact hc.ok.hv b ⟨k,gk,a4,nk,ek,fk,Mz,M,hm⟩ _ _ _ (K j x y b hx)
  ·obtain⟨r1,W,r3⟩:=hc.ok.hh b _ _ _ _ _ _ (K j x y b hx) (K j' x' y' b wh);subst r1;refine⟨rfl,?_,r3⟩;split at W<;>omega
  ·rcases X.own b Ck with h1 | h1
   ·exact hc.ok.apart b h1 S4
   ·have:=hc.ok.slt b S4;omega
  ·rcases Ck with⟨j,u,A,B,C,D,rD,hj,hm⟩ | ⟨j,x,y,hx⟩;rotate_left
   ·exact aRx (hc.ok.lt b (.inr ⟨_,_,_,K j x y b hx⟩)) Ax
   by_cases a:j=id
   ·subst a;rw[bY]at hm;injection hm with hm;injection hm with h1 h2;subst h1;exact a2
   ·rw[s j a]at hj;rw[dH μ _ a]at hm;exact aRx (hc.ok.lt b (.inl ⟨j,u,A,B,C,D,rD,hj,hm⟩)) Ax
  ·intro i j gi VA ni ei fi u A B C D b o o' hi hj oF oa;by_cases Vu:i=id
   ·by_cases a:j=id
    ·rw[Vu,a]
    ·subst Vu;rw[bY]at oF;injection oF with oF;injection oF with h1 h2;subst h1;rw[s j a]at hj;rw[dH μ _ a]at oa;rcases l with l | ⟨sH,CU,L,_⟩
     ·have:=hc.ok.lt _ (.inl ⟨j,u,A,B,C,D,o',hj,oa⟩);omega
     ·exact hc.ok.inj i j _ _ _ _ _ _ _ _ _ _ _ _ _ hh hj L oa
   ·rw[s i Vu]at hi;rw[dH μ _ Vu]at oF;by_cases a:j=id
    ·subst a;rw[bY]at oa;injection oa with oa;injection oa with h1 h2;subst h1;rcases l with l | ⟨sH,CU,L,_⟩
     ·have:=hc.ok.lt _ (.inl ⟨i,gi,VA,ni,ei,fi,o,hi,oF⟩);omega
     ·exact hc.ok.inj i j _ _ _ _ _ _ _ _ _ _ _ _ _ hi hh oF L
    ·rw[s j a]at hj;rw[dH μ _ a]at oa;exact aUq
theorem UQ (hc:Core μ h S w) (sz n:Nat) (e:TypeId) (f:Nat->List PV) (p:Option (Nat×Nat))
  (hp:match p with
   | none=>n=0
   | some (b,base)=>w.heap.size<=b/\∃o:Obj,w1.heap[b]? =some o/\zr (db μ h S w) base sz n e f o)
  (a:dt w w1) (Z:∀i,i<n->(f i).length=sz) (U:∀(i j:Nat) (pv:PV),i<n->(f i)[j]? =some pv->eH pv=false):
  Fr μ h S w (oE μ h.length p) (h++[.row 0 sz n e f]) S w1/\Core (oE μ h.length p) (h++[.row 0 sz n e f]) S w1:=by
 have F:∀j o,h[j]? =some o->(h++[ao.row 0 sz n e f])[j]? =some o:=λj o hj=>by
  rw[aRJ (abF.1 hj).1];exact hj
 have Df:(h++[ao.row 0 sz n e f])[h.length]? =some (ao.row 0 sz n e f):=by simp
 have s:∀j o,(h++[ao.row 0 sz n e f])[j]? =some o->(h[j]? =some o/\j≠h.length)\/(j=h.length/\o=ao.row 0 sz n e f):=λj o hj=>by
  rcases Nat.lt_trichotomy j h.length with z | heq | NP
  ·rw[aRJ z]at hj;exact .inl ⟨hj,by omega⟩
  ·subst heq;rw[Df]at hj;injection hj with hj;exact .inr ⟨rfl,hj.symm⟩
  ·rw[aRQ aUP]at hj;cases hj
 have V:∀j o,h[j]? =some o->oE μ h.length p j=μ j:=λj o hj=>dH μ _ (by have:=(abF.1 hj).1;omega)
 have A:∀j x y b,eR (h++[ao.row 0 sz n e f]) j x y b->eR h j x y b:=λj x y b ⟨d,g,l,m,r,cV,n',e',f',F',q1,t,W,q4⟩=>by
  rcases s j _ q1 with⟨h1,h2⟩ | ⟨h1,h2⟩
  ·exact⟨_,_,_,_,_,_,_,_,_,_,h1,t,W,q4⟩
  ·injection h2 with G e2 H I J;subst G e2 H I J;have:=U x y _ t W;cases this
 have B:Fr μ h S w (oE μ h.length p) (h++[.row 0 sz n e f]) S w1:=by
  refine⟨by simp,λb z _=>a.blocks b z,λ_ K=>K,λ_ K=>.inl K,λb L=>?_,a.size,a.os,a.tape,a.output,λj d g l m r hj=>?_,λj hj=>F j _ hj,λb k D X=>lZ.of_same (a.blocks b X.lt) X,λj d g l m r b base hj hm M=>⟨let⟨es,c,q⟩:=M;⟨es,c,(a.blocks b (aRa.1 q).1).trans q⟩,.inr ⟨⟨_,_,_,_,_,F j _ hj⟩,by rw[V j _ hj];exact hm⟩⟩,λb j x y hx M=>let⟨es,c,q⟩:=M;⟨es,c,(a.blocks b (aRa.1 q).1).trans q⟩⟩
  ·rcases L with⟨j,d,g,l,m,r,N,hj,hm⟩ | ⟨j,x,y,hx⟩;rotate_left
   ·exact .inl (.inr ⟨_,_,_,A j x y b hx⟩)
   rcases s j _ hj with⟨h1,h2⟩ | ⟨h1,h2⟩
   ·rw[dH μ _ h2]at hm;exact .inl (.inl ⟨j,d,g,l,m,r,N,h1,hm⟩)
   ·subst h1;rw[bY]at hm;subst hm;exact .inr hp.1
  ·rw[F j _ hj];exact⟨Of _,λ_=>⟨V j _ hj,rfl,rfl,rfl⟩⟩
 refine⟨B,⟨λj d g l m r hj=>?_,?_⟩⟩
 ·rcases s j _ hj with⟨h1,h2⟩ | ⟨h1,h2⟩
  ·obtain⟨q1,t⟩:=hc.heap j d g l m r h1;refine⟨q1,?_⟩;rw[dH μ _ h2];cases hm:μ j with
   | none=>rw[hm]at t;exact t
   | some O=>
    obtain⟨b,base⟩:=O;rw[hm]at t;obtain⟨o,r1,P⟩:=t;have z:b<w.heap.size:=(aRa.1 r1).1;exact⟨o,(a.blocks b z).trans r1,P.mono (λi y pv v hi hy Q=>Q.fr B hc.ok (λcV n' e' f' F' he Y L=>a.blocks Y (hc.ok.lt Y (.inr ⟨j,i,y,_,_,_,_,_,_,_,_,_,_,h1,hi,he▸hy,L⟩))))⟩
  ·subst h1;injection h2 with G e2 H I J;subst G e2 H I J;rw[bY];refine⟨Z,?_⟩;cases p with
   | none=>exact hp
   | some O=>
    obtain⟨b,base⟩:=O;obtain⟨_,o,r1,P⟩:=hp;exact⟨o,r1,P.mono (λi y pv v hi hy Q=>(Q.fr B hc.ok).k (U i y pv hi hy))⟩
 ·refine⟨λb D E=>?_,λb D=>?_,λb E=>aRx (hc.ok.slt b E) a.size,?_,hc.ok.EN B,λb R j x y hx=>?_,λb j x y j' x' y' hx wh=>hc.ok.hh b _ _ _ _ _ _ (A j x y b hx) (A j' x' y' b wh)⟩;rotate_right
  ·have hx:=A j x y b hx;obtain⟨k,gk,T,nk,ek,fk,Mz,hk,hm⟩:=R;rcases s k _ hk with⟨h1,h2⟩ | ⟨h1,h2⟩
   ·rw[dH μ _ h2]at hm;exact hc.ok.hv b ⟨k,gk,T,nk,ek,fk,Mz,h1,hm⟩ _ _ _ hx
   ·subst h1;rw[bY]at hm;subst hm;have:=hc.ok.lt b (.inr ⟨_,_,_,hx⟩);have:=hp.1;omega
  ·rcases B.own b D with h1 | h1
   ·exact hc.ok.apart b h1 E
   ·have:=hc.ok.slt b E;omega
  ·rcases D with⟨j,d,g,l,m,r,N,hj,hm⟩ | ⟨j,x,y,hx⟩;rotate_left
   ·exact aRx (hc.ok.lt b (.inr ⟨_,_,_,A j x y b hx⟩)) a.size
   rcases s j _ hj with⟨h1,h2⟩ | ⟨h1,h2⟩
   ·rw[dH μ _ h2]at hm;exact aRx (hc.ok.lt b (.inl ⟨j,d,g,l,m,r,N,h1,hm⟩)) a.size
   ·subst h1;rw[bY]at hm;subst hm;obtain⟨_,o,r1,_⟩:=hp;exact(aRa.1 r1).1
  ·intro i j gi VA ni ei fi d g l m r b o o' hi hj oF oa;rcases s i _ hi with⟨h1,h2⟩ | ⟨h1,h2⟩
   ·rw[dH μ _ h2]at oF;rcases s j _ hj with⟨u,C⟩ | ⟨u,C⟩
    ·rw[dH μ _ C]at oa;exact hc.ok.inj i j _ _ _ _ _ _ _ _ _ _ _ _ _ h1 u oF oa
    ·subst u;rw[bY]at oa;subst oa;have:=hc.ok.lt _ (.inl ⟨i,gi,VA,ni,ei,fi,o,h1,oF⟩);have:=hp.1;omega
   ·subst h1;rw[bY]at oF;rcases s j _ hj with⟨u,C⟩ | ⟨u,C⟩
    ·rw[dH μ _ C]at oa;subst oF;have:=hc.ok.lt _ (.inl ⟨j,d,g,l,m,r,o',u,oa⟩);have:=hp.1;omega
    ·exact u.symm
theorem rE (hc:Core μ h S w) (sz n:Nat) (e:TypeId) (f:Nat->List PV) (p:Option (Nat×Nat))
  (hp:match p with
   | none=>n=0
   | some (b,base)=>w.heap.size<=b/\∃cur:Array Value,w1.heap[b]? =some (.cells cur e (0,0))/\base+n*sz<=cur.size/\
    ∀(i j:Nat) (pv:PV),i<n->(f i)[j]? =some pv->∃v:Value,cur[base+i*sz+j]? =some v/\db μ h S w pv v)
  (a:dt w w1) (c:∀i,i<n->(f i).length=sz) (d:∀(i j:Nat) (pv:PV),i<n->(f i)[j]? =some pv->eH pv=false):
  Fr μ h S w (oE μ h.length p) (h++[.row 0 sz n e f]) S w1/\Core (oE μ h.length p) (h++[.row 0 sz n e f]) S w1:=by
 refine UQ hc sz n e f p ?_ a c d;cases p with
 | none=>exact hp
 | some q=>exact⟨hp.1,dA.EM hp.2⟩
theorem lZ.QJ {b k:Nat} (h:lZ w b k):¬th w b:=by
 rintro⟨es,c,q⟩;obtain⟨cur,e,z,h1,_⟩:=h;rw[h1]at q;cases q
end
theorem oG.refl:∀(l:List PV),oG l l
 | []=>trivial
 | a::l=>⟨.same a,oG.refl l⟩
theorem oG.len:∀{l r:List PV},oG l r->r.length=l.length
 | [],[],_=>rfl
 | a::l,b::r,h=>by simp [oG.len h.2]
 | [],_::_,h=>h.elim
 | _::_,[],h=>h.elim
theorem oG.get:∀{l r:List PV},oG l r->∀{j:Nat} {b:PV},r[j]? =some b->∃a,l[j]? =some a/\VB a b
 | [],[],_,j,b,hj=>by simp at hj
 | a::l,c::r,h,0,b,hj=>by simp at hj;subst hj;exact⟨a,rfl,h.1⟩
 | a::l,c::r,h,j+1,b,hj=>by
  obtain⟨x,q1,d⟩:=oG.get h.2 (j:=j) aUV;exact⟨x,by simpa using q1,d⟩
 | [],_::_,h,_,_,_=>h.elim
 | _::_,[],h,_,_,_=>h.elim
theorem oG.aCK:∀{l r:List PV},oG l r->∀{j:Nat} {a:PV},l[j]? =some a->∃b,r[j]? =some b/\VB a b
 | [],[],_,j,b,hj=>by simp at hj
 | a::l,c::r,h,0,b,hj=>by simp at hj;subst hj;exact⟨c,rfl,h.1⟩
 | a::l,c::r,h,j+1,b,hj=>by
  obtain⟨x,q1,d⟩:=oG.aCK h.2 (j:=j) aUV;exact⟨x,by simpa using q1,d⟩
 | [],_::_,h,_,_,_=>h.elim
 | _::_,[],h,_,_,_=>h.elim
theorem VB.arf {a b:PV} (h:VB a b) {μ:Mu} {l:List ao} {S:Nat->Prop} {w:World} {v:Value} (c:db μ l S w a v):db μ l S w b v:=by
 cases h with
 | same=>exact c
 | nil sz f=>
  have c:bh S w .bR v:=c;cases c;exact bh.rZ _ _ _ _
 | Jv sz e f=>exact db.one c
def OEq:ao->ao->Prop
 | .row g sz n e f,.row a b c e' d=>g=a/\sz=b/\n=c/\e=e'/\∀i,i<n->oG (f i) (d i)
 | .dead,.dead=>True
 | _,_=>False
def fK:List ao->List ao->Prop
 | [],[]=>True
 | o::l,a::b=>OEq o a/\fK l b
 | _,_=>False
theorem fK.len:∀{l a:List ao},fK l a->l.length=a.length
 | [],[],_=>rfl
 | o::l,b::a,h=>by simp [fK.len h.2]
 | [],_::_,h=>h.elim
 | _::_,[],h=>h.elim
theorem fK.get:∀{l b:List ao},fK l b->∀{j:Nat} {g sz n:Nat} {e:TypeId} {f:Nat->List PV},l[j]? =some (ao.row g sz n e f)->∃a,b[j]? =some (ao.row g sz n e a)/\∀i,i<n->oG (f i) (a i)
 | o::l,c::b,h,0,g,sz,n,e,f,hj=>by
  simp at hj;subst hj;cases c with
  | dead=>exact h.1.elim
  | row d k m e' a=>
   obtain⟨rfl,rfl,rfl,rfl,hf⟩:=h.1;exact⟨a,rfl,hf⟩
 | o::l,c::b,h,j+1,g,sz,n,e,f,hj=>by
  simp at hj;obtain⟨a,h1,h2⟩:=fK.get h.2 hj;exact⟨a,by simpa using h1,h2⟩
 | [],[],_,_,_,_,_,_,_,hj=>by simp at hj
 | [],_::_,h,_,_,_,_,_,_,_=>h.elim
 | _::_,[],h,_,_,_,_,_,_,_=>h.elim
theorem fK.UR:∀{l a:List ao},fK l a->∀{j:Nat} {g sz n:Nat} {e:TypeId} {b:Nat->List PV},a[j]? =some (ao.row g sz n e b)->∃f,l[j]? =some (ao.row g sz n e f)/\∀i,i<n->oG (f i) (b i)
 | o::l,c::a,h,0,g,sz,n,e,b,hj=>by
  simp at hj;subst hj;cases o with
  | dead=>exact h.1.elim
  | row d k m e' f=>
   obtain⟨rfl,rfl,rfl,rfl,hf⟩:=h.1;exact⟨f,rfl,hf⟩
 | o::l,c::a,h,j+1,g,sz,n,e,b,hj=>by
  simp at hj;obtain⟨f,h1,h2⟩:=fK.UR h.2 hj;exact⟨f,by simpa using h1,h2⟩
 | [],[],_,_,_,_,_,_,_,hj=>by simp at hj
 | [],_::_,h,_,_,_,_,_,_,_=>h.elim
 | _::_,[],h,_,_,_,_,_,_,_=>h.elim
theorem fK.getD:∀{l a:List ao},fK l a->∀{j:Nat},l[j]? =some ao.dead->a[j]? =some ao.dead
 | o::l,b::a,h,0,hj=>by
  simp at hj;subst hj;cases b with
  | dead=>rfl
  | row c d e e' f=>exact h.1.elim
 | o::l,b::a,h,j+1,hj=>by
  simp at hj;simpa using fK.getD h.2 hj
 | [],[],_,_,hj=>by simp at hj
 | [],_::_,h,_,_=>h.elim
 | _::_,[],h,_,_=>h.elim
theorem fK.af8 {l c:List ao} (h:fK l c) {id i j b:Nat} (ho:eR c id i j b):eR l id i j b:=by
 obtain⟨g,sz,n,e,q,r,s,e',f2,t,q1,d,m,k⟩:=ho;obtain⟨f,r1,o⟩:=h.UR q1;obtain⟨a,p,hle⟩:=(o i d).get m;cases hle with
 | same=>exact⟨_,_,_,_,_,_,_,_,_,_,r1,d,p,k⟩
 | Jv=>exact k.elim
theorem fK.aCL {l a:List ao} (h:fK l a) {μ:Mu} {b:Nat} (ho:Hx μ a b):Hx μ l b:=by
 obtain⟨id,g,sz,n,e,f,base,h1,h2⟩:=ho;obtain⟨c,d,_⟩:=h.UR h1;exact⟨id,g,sz,n,e,c,base,d,h2⟩
theorem fK.BH {l a:List ao} (h:fK l a) {μ:Mu} {b:Nat} (ho:dL μ a b):dL μ l b:=by
 rcases ho with ho | ⟨id,i,j,ho⟩
 ·exact .inl (h.aCL ho)
 ·exact .inr ⟨id,i,j,h.af8 ho⟩
theorem fK.hid {l a:List ao} (h:fK l a) {id i j b:Nat} (ho:eR l id i j b):eR a id i j b:=by
 obtain⟨g,sz,n,e,f,p,q,e',f2,r,q1,d,k,m⟩:=ho;obtain⟨s,r1,o⟩:=h.get q1;obtain⟨c,hc,hle⟩:=(o i d).aCK k;cases hle;exact⟨_,_,_,_,_,_,_,_,_,_,r1,d,hc,m⟩
theorem fK.owned {l a:List ao} (h:fK l a) {μ:Mu} {b:Nat} (ho:dL μ l b):dL μ a b:=by
 rcases ho with⟨id,g,sz,n,e,f,base,h1,h2⟩ | ⟨x,y,z,ho⟩
 ·obtain⟨c,d,_⟩:=h.get h1;exact .inl ⟨id,g,sz,n,e,c,base,d,h2⟩
 ·exact .inr ⟨_,_,_,h.hid ho⟩
theorem fK.own {l b:List ao} (h:fK l b) {μ:Mu} {w:World} {id gen off len:Nat} {v:Value} (a:bX μ l w id gen off len v):bX μ b w id gen off len v:=by
 unfold bX at*;refine⟨a.1,?_⟩;have a:=a.2;cases ho:l[id]? with
 | none=>rw[ho]at a;exact a.elim
 | some o=>
  cases o with
  | dead=>rw[h.getD ho];trivial
  | row g sz n e f=>
   obtain⟨c,h1,_⟩:=h.get ho;rw[ho]at a;rw[h1];exact a
theorem fK.aI {l b:List ao} (h:fK l b) {μ:Mu} {id gen i off:Nat} {v:Value} {w:World} (a:c7 μ l w id gen i off v):c7 μ b w id gen i off v:=by
 unfold c7 at*;refine⟨a.1,?_⟩;have a:=a.2;cases ho:l[id]? with
 | none=>rw[ho]at a;exact a.elim
 | some o=>
  cases o with
  | dead=>rw[h.getD ho];trivial
  | row g sz n e f=>
   obtain⟨c,h1,_⟩:=h.get ho;rw[ho]at a;rw[h1];exact a
theorem VB.af9 {a b:PV} (h:VB a b) (c:rv a=true):b=a:=by
 cases h with
 | same=>rfl
 | _=>cases c
theorem oG.af9 {d e:PV} {l:List PV} (h:oG [d,e] l) (h1:rv d=true) (h2:rv e=true):l=[d,e]:=by
 rcases l with _ | ⟨a,_ | ⟨b,_ | ⟨c,l⟩⟩⟩
 ·exact h.elim
 ·exact h.2.elim
 ·rw[h.1.af9 h1,h.2.1.af9 h2]
 ·exact h.2.2.elim
theorem fK.rB {l b:List ao} (h:fK l b) {μ:Mu} {w:World} {id:Nat} {v:Value} (a:je μ l w id v):je μ b w id v:=by
 unfold je at*;refine⟨a.1,?_⟩;have a:=a.2;cases ho:l[id]? with
 | none=>rw[ho]at a;exact a.elim
 | some o=>
  cases o with
  | dead=>rw[h.getD ho];trivial
  | row g sz n e f=>
   obtain⟨c,h1,_⟩:=h.get ho;rw[ho]at a;rw[h1];exact a
theorem fK.qz {l a:List ao} (h:fK l a) {μ:Mu} {w:World} {f:Nat} {dB:List (Nat×Nat)} {v:Value} (b:rF μ l w f dB v):rF μ a w f dB v:=wi.mono b (λid g u hu=>h.aI hu)
theorem fK.arf {l b:List ao} (h:fK l b) {μ:Mu} {S:Nat->Prop} {w:World} {pv:PV} {v:Value} (a:db μ l S w pv v):db μ b S w pv v:=by
 cases pv with
 | own id gen off len=>exact h.own a
 | aI id gen i off=>exact h.aI a
 | rB id=>exact h.rB a
 | qz f dB=>exact h.qz a
 | _=>exact a
theorem fK.arh {l a:List ao} (h:fK l a) {μ:Mu} {S:Nat->Prop} {w:World} {pv:PV} {v:Value} (b:qn μ l S w pv v):qn μ a S w pv v:=by
 cases pv with
 | fG sz n e f F=>exact b
 | _=>exact db.k (h.arf (qn.c b)) rfl
theorem VB.arh {a b:PV} (h:VB a b) {μ:Mu} {l:List ao} {S:Nat->Prop} {w:World} {v:Value} (c:qn μ l S w a v):qn μ l S w b v:=by
 cases h with
 | same=>exact c
 | nil sz f=>
  have c:bh S w .bR v:=c;cases c;exact bh.rZ _ _ _ _
 | Jv sz e f=>
  have c:bh S w .bR v:=c;cases c;exact nh.nil _ _ _ _ (λ_ h=>h)
theorem fK.af7 {l b:List ao} (h:fK l b) {μ:Mu} {S:Nat->Prop} {w:World} {pv:PV} {v:Value} (a:lE μ l S w pv v):lE μ b S w pv v:=by
 cases pv with
 | own id gen off len=>exact h.own a
 | aI id gen i off=>exact h.aI a
 | rB id=>exact h.rB a
 | qz f dB=>exact h.qz a
 | agg cs=>
  obtain⟨vs,h1,h2,c⟩:=a;exact⟨vs,h1,h2,λj pv hj=>by obtain⟨u,hu,hc⟩:=c j pv hj;exact⟨u,hu,h.arf hc⟩⟩
 | _=>exact a
theorem fK.refl:∀(l:List ao),fK l l
 | []=>trivial
 | .row g sz n e f::l=>⟨⟨rfl,rfl,rfl,rfl,λ_ _=>oG.refl _⟩,fK.refl l⟩
 | .dead::l=>⟨trivial,fK.refl l⟩
theorem fK.set:∀(l:List ao) (id g sz n:Nat) (e:TypeId) (f a:Nat->List PV),(∀i,i<n->oG (f i) (a i))->fK (l.set id (.row g sz n e f)) (l.set id (.row g sz n e a))
 | [],_,_,_,_,_,_,_,_=>trivial
 | o::l,0,g,sz,n,e,f,a,hf=>⟨⟨rfl,rfl,rfl,rfl,hf⟩,fK.refl l⟩
 | o::l,id+1,g,sz,n,e,f,a,hf=>⟨by cases o;exact⟨rfl,rfl,rfl,rfl,λ_ _=>oG.refl _⟩;exact trivial,fK.set l id g sz n e f a hf⟩
theorem fK.snoc:∀(l:List ao) (g sz n:Nat) (e:TypeId) (f a:Nat->List PV),(∀i,i<n->oG (f i) (a i))->fK (l++[.row g sz n e f]) (l++[.row g sz n e a])
 | [],g,sz,n,e,f,a,hf=>⟨⟨rfl,rfl,rfl,rfl,hf⟩,trivial⟩
 | o::l,g,sz,n,e,f,a,hf=>⟨by cases o;exact⟨rfl,rfl,rfl,rfl,λ_ _=>oG.refl _⟩;exact trivial,fK.snoc l g sz n e f a hf⟩
theorem fK.aLt {l b:List ao} (h:fK l b) {μ:Mu} {S:Nat->Prop} {w:World} {pv:PV} {v:Value} (a:cE μ l S w pv v):cE μ b S w pv v:=by
 cases pv with
 | gJ d=>
  obtain⟨vs,h1,h2,c⟩:=a;exact⟨vs,h1,h2,λj pv hj=>by obtain⟨u,hu,hc⟩:=c j pv hj;exact⟨u,hu,h.af7 hc⟩⟩
 | own id gen off len=>exact h.own a
 | aI id gen i off=>exact h.aI a
 | rB id=>exact h.rB a
 | qz f dB=>exact h.qz a
 | agg cs=>exact h.af7 (pv:=.agg cs) a
 | _=>exact a
theorem fK.core {l s:List ao} (he:fK l s) {μ:Mu} {S:Nat->Prop} {w:World} (hc:Core μ l S w):Core μ s S w:=by
 refine⟨λid g sz n e f hid=>?_,⟨λb k=>hc.ok.apart b (he.BH k),λb k=>hc.ok.lt b (he.BH k),hc.ok.slt,λi j g sz n e f x y A e' t b o B hi hj h1 m=>?_,hc.ok.known,λb k id i j hx=>hc.ok.hv b (he.aCL k) id i j (he.af8 hx),λb _ _ _ _ _ _ hx hy=>hc.ok.hh b _ _ _ _ _ _ (he.af8 hx) (he.af8 hy)⟩⟩
 ·obtain⟨t,h1,m⟩:=he.UR hid;obtain⟨q1,h⟩:=hc.heap id g sz n e t h1;refine⟨λi hi=>by rw[(m i hi).len];exact q1 i hi,?_⟩;cases hm:μ id with
  | none=>rw[hm]at h;exact h
  | some p=>
   obtain⟨b,base⟩:=p;rw[hm]at h;obtain⟨o,r1,d⟩:=h;refine⟨o,r1,?_⟩;cases o with
   | cells cur e' z=>
    obtain⟨d,q,C,D⟩:=d;refine⟨d,q,C,λi j pv hi hj=>?_⟩;obtain⟨a,E,hle⟩:=(m i hi).get hj;obtain⟨v,hv,r⟩:=D i j a hi E;exact⟨v,hv,he.arh (hle.arh r)⟩
   | map es c=>
    obtain⟨d,q⟩:=d;refine⟨d,λi hi=>?_⟩;obtain⟨F,G,en,H,s2,u,I⟩:=q i hi;have hle:=m i hi;rw[H]at hle;exact⟨F,G,en,hle.af9 s2 u,s2,u,I⟩
   | _=>exact d.elim
 ·obtain⟨J,q1,_⟩:=he.UR hi;obtain⟨K,h,_⟩:=he.UR hj;exact hc.ok.inj i j g sz n e J x y A e' K b o B q1 h h1 m
theorem fK.fr {l d:List ao} (he:fK l d) {μ0 μ:Mu} {h0:List ao} {S0 S:Nat->Prop} {h w:World} (a:Fr μ0 h0 S0 h μ l S w):Fr μ0 h0 S0 h μ d S w:=by
 refine⟨by rw[<-he.len];exact a.len,a.blocks,a.sub,a.new,λb i=>a.own b (he.BH i),a.size,a.os,a.tape,a.output,λid g sz n e f hid=>?_,λid hid=>he.getD (a.dead id hid),a.dB,λid g sz n e f b base hj hm j=>?_,a.yK⟩;rotate_left
 ·obtain⟨r1,c⟩:=a.maps id g sz n e f b base hj hm j;refine⟨r1,?_⟩;rcases c with c | ⟨⟨k,m,p,e',q,c⟩,r⟩
  ·exact .inl (he.getD c)
  ·obtain⟨f2,h1,_⟩:=he.get c;exact .inr ⟨⟨_,_,_,_,_,h1⟩,r⟩
 have hg:=a.EO id g sz n e f hid;cases ho:l[id]? with
 | none=>rw[ho]at hg;exact hg.elim
 | some o=>
  cases o with
  | dead=>rw[he.getD ho];trivial
  | row k m p e' q=>
   obtain⟨f2,h1,_⟩:=he.get ho;rw[ho]at hg;rw[h1];exact hg
section
variable {P:Program}{T:ru}{μ:Mu}{h:List ao}{S:Nat->Prop}{w:World}
def jl (P:Program) (o:Oper) (a:Act) (μ:Mu) (h:List ao) (S:Nat->Prop) (w:World) (K:PV->List ao->Prop):Prop:=
 ∀(next:Act->World->Prop) (Q:Exit->Act->World->Prop),
  (∀v val h' μ' S' w',K v h'->cE μ' h' S' w' v val->Core μ' h' S' w'->Fr μ h S w μ' h' S' w'->next (a.put o.dst val) w')->o.wp P a w next Q
theorem jl.rows {o:Oper} {a:Act} {K:PV->List ao->Prop} (b:jl P o a μ h S w (λv h1=>∃h2,fK h1 h2/\K v h2)):jl P o a μ h S w K:=by
 intro next Q c
 refine b next Q λv val h' μ' S' w' ⟨h2,he,d⟩ hv hc hf=>?_
 exact c v val h2 μ' S' w' d (he.aLt hv) (he.core hc) (he.fr hf)
theorem jl.ua {o:Oper} {a:Act} {K:PV->List ao->Prop} (hc:Core μ h S w) (hs:fv P o a μ h S w (λv=>K v h)):jl P o a μ h S w K:=by
 obtain⟨v,val,b,hv,c⟩:=hs;intro next Q d
 unfold Oper.wp;rw[c w (dt.refl w)];exact d v val h μ S w b hv hc Fr.refl
theorem jl.kr {o:Oper} {a:Act} {K:PV->List ao->Prop} {v:PV} {val:Value} {h':List ao} {μ':Mu} {S':Nat->Prop} {w':World} (b:(execOp a.eval o).run P w=.ok (.value val) w') (c:K v h') (hv:cE μ' h' S' w' v val)
  (hc:Core μ' h' S' w') (hf:Fr μ h S w μ' h' S' w'):jl P o a μ h S w K:=by
 intro next Q d
 unfold Oper.wp;rw[b];exact d v val h' μ' S' w' c hv hc hf
theorem jl.aga {o:Oper} {a:Act} {K:PV->List ao->Prop} {h':List ao} {μ':Mu} {S':Nat->Prop} {w':World} (b:(execOp a.eval o).run P w=.ok .skip w') (c:K .kB h')
  (hc:Core μ' h' S' w') (hf:Fr μ h S w μ' h' S' w'):jl P o a μ h S w K:=by
 intro next Q d
 unfold Oper.wp;rw[b];exact d .kB undef h' μ' S' w' c trivial hc hf
theorem agb (c:fL P T) {t:Nat} {n:Nat} (a:mz (T.get t)=n) (e:0<n):∃i,P.info? t=some i/\i.size=n:=by
 cases b:T.get t with
 | struct sz fl z=>
  obtain⟨fs,i,_,hi,d,_⟩:=c.struct _ _ _ _ b;rw[b]at a;exact⟨i,hi,d.trans a⟩
 | other=>rw[b]at a;simp [mz]at a;omega
 | _=>
  rw[b]at a;have h1:n=1:=a.symm;subst h1;refine c.one t ?_ ?_
  ·rw[b];rfl
  ·intro sz fl z hh;rw[b]at hh;cases hh
variable {a:Act}{env:Env}{K:PV->List ao->Prop}{dst:Option Tmp}{ty:TypeId}{pos:String}{after:Array Edge}{guard:Option (Nat×Bool)}
theorem zt (cur vs:List Value) (o q:Nat) (c:o+vs.length<=cur.length):
  (cur.take o++vs++cur.drop (o+vs.length))[q]? =if o<=q/\q<o+vs.length then vs[q - o]? else cur[q]?:=by
 have h1:(cur.take o).length=o:=by simp;omega
 by_cases a:q<o
 ·rw[As aUE,aRm,aRJ aUE,aSQ,At a]
 ·by_cases b:q<o+vs.length
  ·rw[At ⟨by omega,b⟩,aRJ aUP,aRv aUE,h1]
  ·rw[As aUE,aRv aUP,aSs];congr 1;simp;omega
theorem MB (X:fL P T) (hc:Core μ h S w) (L:∀t,cE μ h S w (env t) (a.tmps.getD t undef)) (t:Nat) (p x:Operand) (hp:pop P T (.store t p x) env h K):
  jl P ⟨dst,.store t p x,ty,pos,after,guard⟩ a μ h S w K:=by
 have hx:=dG L x;have M:=dG L p;simp only[pop]at hp;split at hp
 ·rename_i id gen i off D;rw[D]at M;split at hp
  ·rename_i g sz n e f hg;obtain⟨rfl,hp⟩:=hp;replace hp:=cn (eu hp);obtain⟨N,E⟩:=hp;simp only[No]at N;obtain⟨⟨⟨O,z⟩,m⟩,hle⟩:=N;have z:=aRC z;have m:=amb m;have hle:=aRC hle;have hh:=gG hg;have d:=M.xj;unfold c7 at d;rw[hh]at d;obtain⟨_,_,d⟩:=d;obtain⟨q,b,base,A,Q,F⟩:=d rfl;obtain⟨o,R⟩:=hc.heap id g sz n e f hh;rw[A]at R;obtain⟨cur,G,yo,U⟩:=dA.cells Q.1 R;obtain⟨H,r⟩:=n8 O hx;have s:∀(j:Nat) (pv:PV),(cellsOf (ev env x))[j]? =some pv->eH pv=false:=λj pv hj=>QH O hj;generalize NN:cellsOf (ev env x)=cs at*;generalize y:(a.eval x).cells.toList=vs at*;have z:0<cs.length:=by omega
   obtain⟨inf,Y,Z⟩:=agb X m z;have hmul:(i+1)*sz<=n*sz:=aRu _ q
   rw[aRt]at hmul
   have V:(storeCells ⟨b,base+i*sz+off,none⟩ vs 0).run P w=.ok () (w.setRow b (cur.toList.take (base+i*sz+off+0)++vs++cur.toList.drop (base+i*sz+off+0+vs.length)).toArray):=
    run_storeCells_at P b (base+i*sz+off) e vs 0 cur w G aUE (λv hv=>by
     obtain⟨j,hj,rfl⟩:=aSG.1 hv;have US:j<cs.length:=by omega
     obtain⟨u,hu,d⟩:=r j cs[j] (abL US);rw[abL hj]at hu;injection hu with hu;rw[hu];exact d.one)
   rw[aSo]at V
   have B:∀k,(gN f i (jj (f i) off cs) k)=if k=i then jj (f i) off cs else f k:=λk=>by
    unfold gN;by_cases c:k=i
    ·subst c;simp
    ·have:Nat.beq k i=false:=by
      cases hb:Nat.beq k i with
      | true=>exact(c (amb hb)).elim
      | false=>rfl
     simp [this,c]
   have pU:=EL (w1:=w.setRow b (cur.toList.take (base+i*sz+off)++vs++cur.toList.drop (base+i*sz+off+vs.length)).toArray) hc id g g sz n n e f (gN f i (jj (f i) off cs)) hh b base
    (cur.toList.take (base+i*sz+off)++vs++cur.toList.drop (base+i*sz+off+vs.length)).toArray (Of _) (λ_=>⟨A,rfl⟩)
    (.inr ⟨base,cur,A,G,by simp;omega⟩) (setRow_heap w b cur _ e _ G) aUP
    (λW _ qp=>setRow_other w b W _ qp) aUG rfl rfl rfl
    (λk c=>by
     rw[B];split
     ·rename_i l;subst l;rw[n7];exact o _ c
     ·exact o k c)
    (λW sH C=>by rw[A]at C;injection C with C;injection C with h1 _;subst h1;exact Q.1.QJ)
    (λk j pv c hj=>by
     have QE:j<sz:=by
      have h1:=(abF.1 hj).1;rw[B]at h1;split at h1
      ·rw[n7,o i q]at h1;exact h1
      ·rw[o k c]at h1;exact h1
     have Gv:(cur.toList.take (base+i*sz+off)++vs++cur.toList.drop (base+i*sz+off+vs.length)).toArray[base+k*sz+j]? =if base+i*sz+off<=base+k*sz+j/\base+k*sz+j<base+i*sz+off+vs.length then vs[base+k*sz+j - (base+i*sz+off)]? else cur[base+k*sz+j]?:=by
      have I:=zt cur.toList vs (base+i*sz+off) (base+k*sz+j) aUP;rw[aTa,I];simp only[aRP]
     rw[Gv];rw[B]at hj;by_cases l:k=i
     ·subst l;rw[At rfl,sG cs (f k) off j (by rw[o k c];exact hle)]at hj;by_cases d:off<=j/\j<off+cs.length
      ·rw[At d]at hj;rw[At aUE];obtain⟨u,hu,oV⟩:=r _ _ hj;exact⟨u,by rw[<-hu];congr 1;omega,oV.k (s _ _ hj)⟩
      ·rw[As d]at hj;rw[As aUE];exact U k j pv c hj
     ·rw[As l]at hj
      have J:¬(base+i*sz+off<=base+k*sz+j/\base+k*sz+j<base+i*sz+off+vs.length):=by
       rcases Nat.lt_or_gt_of_ne l with bg | NP
       ·have:(k+1)*sz<=i*sz:=aRu _ bg;rw[aRt]at this;omega
       ·have:(i+1)*sz<=k*sz:=aRu _ NP;rw[aRt]at this;omega
      rw[As J];exact U k j pv c hj) 0 (λk j cV n' e' f' F' c hj=>by
    rw[aRf];refine⟨c,?_⟩;rw[B]at hj;by_cases l:k=i
    ·subst l;rw[At rfl,sG cs (f k) off j (by rw[o k c];exact hle)]at hj;by_cases d:off<=j/\j<off+cs.length
     ·rw[At d]at hj;have:=s _ _ hj;cases this
     ·rw[As d]at hj;exact hj
    ·rw[As l]at hj;exact hj)
   obtain⟨mi,vA⟩:=pU;obtain⟨_,f',rfl,Da,E⟩:=E;refine jl.rows (jl.aga ?_ ⟨_,fK.set _ _ _ _ _ _ _ _ Da,E⟩ vA mi);have e1:(execOp a.eval ⟨dst,.store t p x,ty,pos,after,guard⟩)=(do Instr.storeAt t (a.eval p) (a.eval x);pure .skip:Sem Next):=rfl;rw[e1,F]
   have kS:¬(a.eval x).cells.size≠inf.size:=by
    rw[Z];simp only[ne_eq,Decidable.not_not];rw[<-H,<-y];simp
   simp only[Instr.storeAt,Instr.sureAddr,storeVar,Sem.run_bind,Sem.run_pure,Result.andThen,mV Y,As kS,y,V]
  ·exact aUd
 ·exact aUd
theorem Gw (z:Array Value) (n q:Nat) (hq:q<n) (a:0<z.size):(madeCells z n)[q]? =z[q % z.size]?:=by
 have h1:q % z.size<z.size:=Nat.mod_lt _ a;simp [madeCells,hq,h1]
theorem agc (i j sz:Nat) (hj:j<sz):(i*sz+j) % sz=j:=by
 rw[Nat.mul_comm,Nat.mul_add_mod];exact Nat.mod_eq_of_lt hj
theorem pV (w:World) (o:Obj):dt w (w.alloc o):=
 ⟨λb a=>Below.heap_alloc w o b a,by simp,rfl,rfl,rfl⟩
theorem QK (z:fL P T) (hc:Core μ h S w) (v:∀t,cE μ h S w (env t) (a.tmps.getD t undef)) (t:Nat) (l c:Operand) (hp:pop P T (.makeSlice t l c) env h K):
  jl P ⟨dst,.makeSlice t l c,ty,pos,after,guard⟩ a μ h S w K:=by
 have x:=dG v l;have y:=dG v c;simp only[pop]at hp;split at hp
 ·rename_i e sz bytes zero k n A m B p q;rw[p]at x;rw[q]at y;obtain⟨⟨h0,h1,h2,R⟩,_,U,rfl,C,D⟩:=hp;obtain⟨hu,V,inf,d,E,F,r,G,s,f,g⟩:=z.slice _ _ _ _ _ B;subst F r
  have hm:(inf.bytes:Int)*m<=281474976710656:=by
   have H:(m.toNat:Int)=m:=Int.toNat_of_nonneg aUE;have e2:((m.toNat*inf.bytes:Nat):Int)<=140737488355328:=by omega
   rw[Int.natCast_mul,H,Int.mul_comm]at e2;omega
  have I:=run_make (P:=P) w t e inf d hu E G k A n m h0 h1 hm aUE
  have J:=rE (w1:=w.alloc (.cells (madeCells d.cells (m.toNat*inf.size)) e)) hc inf.size n.toNat e (λ_=>zero) (some (w.heap.size,0))
   ⟨Of _,_,heap_alloc_new w _,by
    rw[size_madeCells,aRf];exact aRu _ aUE,λi j pv hi hj=>by
    have L:j<inf.size:=by rw[<-f];exact(abF.1 hj).1
    have M:0+i*inf.size+j<m.toNat*inf.size:=by
     have:(i+1)*inf.size<=m.toNat*inf.size:=aRu _ aUE;rw[aRt]at this;omega
    rw[Gw _ _ _ M aUE,aRf,s,agc i j _ L];have o:j<d.cells.size:=by omega
    obtain⟨N,b,_,u⟩:=g j d.cells[j] (aRK o);rw[hj]at b;injection b with b;subst b;exact⟨_,aRK o,db.mu (u S w)⟩⟩ (pV w _) (λi hi=>f) (λi j pv _ hj=>by
  have o:j<d.cells.size:=by have:=(abF.1 hj).1;omega
  obtain⟨N,b,_,u⟩:=g j d.cells[j] (aRK o);rw[hj]at b;injection b with b;rw[b];exact bh.no (u S w))
  obtain⟨O,Q⟩:=J;refine jl.rows (jl.kr (eZ rfl (by rw[x.mU,y.mU];exact I)) ⟨_,fK.snoc _ _ _ _ _ _ _ C,D⟩ ?_ Q O);show bX _ _ _ _ _ _ _ _;unfold bX;rw[aRv (Of _),aSz];refine⟨⟨_,_,_,rfl⟩,Of _,λ_=>⟨by omega,?_⟩⟩;rw[bY];refine⟨_,m.toNat,rfl,by omega,λ_=>by simp,_,e,_,heap_alloc_new w _,?_⟩;rw[size_madeCells];simp
 ·exact aUd
theorem MC (sz len:Nat) (place:Nat->Option (Nat×Nat)) (e:∀i,place i=some (i*sz,sz)):∀(l:List (Nat×Operand)) (ρ:Operand->Value) (k:Nat) (cells:Array Value),Cl len k l=true->cells.size=len*sz->
  (∀p∈l,(ρ p.2).cells.size=sz)->
  ∃d,Instr.fill place cells (l.map λp=>(p.1,ρ p.2))=some d/\d.size=len*sz/\(∀q,q<k*sz->d[q]? =cells[q]?)/\
   ∀(i j:Nat) (p:Nat×Operand),l[i]? =some p->j<sz->d[(k+i)*sz+j]? =(ρ p.2).cells[j]?
 | [],ρ,k,cells,hi,hs,_=>⟨cells,rfl,hs,λ_ _=>rfl,λi j p hp=>by simp at hp⟩
 | (i0,x)::r,ρ,k,cells,hi,hs,hv=>by
  simp only[Cl,No]at hi;have f:=amb hi.1;subst f
  have hlen:∀(l:List (Nat×Operand)) (k:Nat),Cl len k l=true->k<=len:=by
   intro l;induction l with
   | nil=>intro k h;exact Nat.le_of_eq (amb h)
   | cons p l n=>
    intro k h;obtain⟨a,b⟩:=p;simp only[Cl,No]at h;have:=n (k+1) h.2;omega
  have o:=hlen r (i0+1) hi.2;have c:=hv (i0,x) aUG;have s:(i0+1)*sz<=len*sz:=aRu _ o;have g:=s;rw[aRt]at g;obtain⟨t,g2⟩:=vz (ρ x) (i0*sz) cells (by rw[c];omega);obtain⟨d,h1,h2,m,u⟩:=MC sz len place e r ρ (i0+1) _ hi.2 (t.trans hs) (λp hp=>hv p (by simp [hp]));refine⟨d,?_,h2,λq hq=>?_,λi j p hp hj=>?_⟩
  ·simp only[aRD,Instr.fill,e];rw[As (by simp only[c,ne_eq,aTj,false_or];simp only[aRZ,aSx,not_or];simp;omega)];exact h1
  ·rw[m q (by rw[aRt];omega),g2 q,As aUE]
  ·cases i with
   | zero=>
    simp at hp;subst hp;rw[aSo,m _ (by rw[aRt];omega),g2,c,At aUE];congr 1;omega
   | succ i=>
    simp at hp;have:=u i j p hp hj;rw[show i0+1+i=i0+(i+1)from by omega]at this;exact this
theorem BI (E:fL P T) (hc:Core μ h S w) (F:∀t,cE μ h S w (env t) (a.tmps.getD t undef)) (t len:Nat) (parts:Array (Nat×Operand)) (hp:pop P T (.buildSlice t len parts) env h K):
  jl P ⟨dst,.buildSlice t len parts,ty,pos,after,guard⟩ a μ h S w K:=by
 simp only[pop]at hp;split at hp
 ·rename_i e sz bytes zero G;replace hp:=cn hp;obtain⟨z,c⟩:=hp;obtain⟨hu,kS,inf,f,n,H,I,J,L,M,N⟩:=E.slice _ _ _ _ _ G;subst H;simp only[No]at z;obtain⟨A,hle⟩:=z;have hle:=aRC hle;obtain⟨B,c⟩:=Cm _ _ c;simp only[aTk,aRe]at c
  have o:∀p∈parts.toList,(a.eval p.2).cells.size=inf.size/\(cellsOf (ev env p.2)).length=inf.size/\
    ∀(j:Nat) (q:PV),(cellsOf (ev env p.2))[j]? =some q->∃u,(a.eval p.2).cells[j]? =some u/\db μ h S w q u:=λp hp=>by
   obtain⟨h1,h2⟩:=B p hp;have h2:=amb h2;obtain⟨C,D⟩:=n8 h1 (dG F p.2);simp only[aSy,aRP]at C D;exact⟨C.trans h2,h2,D⟩
  obtain⟨g,O,f2,_,Q⟩:=MC inf.size len (λi=>some (i*inf.size,inf.size)) (λ_=>rfl) parts.toList a.eval 0
   ((Array.range (len*inf.size)).map (λq=>(if len*inf.size=0 then #[]else f.cells)[q % (if len*inf.size=0 then #[]else f.cells).size]!)) A aUG (λp hp=>(o p hp).1)
  have hlen:parts.toList.length=len:=by
   have key:∀(l:List (Nat×Operand)) (k:Nat),Cl len k l=true->k+l.length=len:=by
    intro l;induction l with
    | nil=>intro k hh;exact amb hh
    | cons p l R=>
     intro k hh;obtain⟨x,y⟩:=p;simp only[Cl,No]at hh;have:=R (k+1) hh.2;simp only[so];omega
   have:=key parts.toList 0 A;omega
  have eM:∀i,i<len->∃p,parts.toList[i]? =some p/\p∈parts.toList/\(parts.toList.map λp=>cellsOf (ev env p.2)).getD i []=cellsOf (ev env p.2):=λi hi=>by
   have r:i<parts.toList.length:=by omega
   refine⟨parts.toList[i],abL r,aRr r,?_⟩;rw[aRb,aRs,abL r];rfl
  have U:=rE (w1:=w.alloc (.cells g e)) hc inf.size len e (λk=>(parts.toList.map λp=>cellsOf (ev env p.2)).getD k []) (some (w.heap.size,0))
   ⟨Of _,g,heap_alloc_new w _,by omega,λi j pv hi hj=>by
    obtain⟨p,I4,d,b⟩:=eM i hi;rw[b]at hj;obtain⟨_,V,W⟩:=o p d;have X:j<inf.size:=by rw[<-V];exact(abF.1 hj).1
    have:=Q i j p I4 X;rw[aRf]at this;obtain⟨u,s,Y⟩:=W j pv hj;exact⟨u,by rw[<-s,<-this,aRf],Y⟩⟩ (pV w _)
   (λi hi=>by
    obtain⟨p,I4,d,b⟩:=eM i hi;rw[b];exact(o p d).2.1) (λi j pv hi hj=>by
    obtain⟨p,I4,d,b⟩:=eM i hi;rw[b]at hj;exact QH (B p d).1 hj)
  obtain⟨Z,vA⟩:=U;obtain⟨f',Da,c⟩:=c;refine jl.rows (jl.kr (val:=.slice (some ⟨w.heap.size,0,none⟩) len len) (eZ rfl ?_) ⟨_,fK.snoc _ _ _ _ _ _ _ Da,c⟩ ?_ vA Z)
  ·have v:(parts.map λp=>(p.1,a.eval p.2)).toList=parts.toList.map λp=>(p.1,a.eval p.2):=by simp
   have hn:¬(16777216<len*inf.size):=by omega
   have m:Instr.fill (λi=>some (i*inf.size,inf.size)) (Array.map (λx=>(if len*inf.size=0 then #[]else f.cells)[x % (if len*inf.size=0 then #[]else f.cells).size]!) (Array.range (len*inf.size))) (parts.map λp=>(p.1,a.eval p.2)).toList=some g:=by
    rw[v];exact O
   by_cases h0:len*inf.size=0
   ·simp [h0]at m;simp only[Instr.buildSlice,Sem.run_bind,run_underlying hu,Result.andThen,mV n];simp [h0,newRow];rw[m];rfl
   ·simp [h0]at m;simp only[Instr.buildSlice,Sem.run_bind,run_underlying hu,Result.andThen,mV n];simp [h0,hn,newRow,zeroValue,typeInfo,n,J];rw[m];rfl
  ·show bX _ _ _ _ _ _ _ _;unfold bX;rw[aRv (Of _),aSz];refine⟨⟨_,_,_,rfl⟩,Of _,λ_=>⟨by omega,?_⟩⟩;rw[bY];exact⟨_,len,rfl,Of _,λ_=>by simp,g,e,_,heap_alloc_new w _,by rw[aRf,aRf];omega⟩
 ·exact aUd
theorem UT (hc:Core μ h S w) (e:∀t,cE μ h S w (env t) (a.tmps.getD t undef)) (t:Nat) (x:Operand) (hp:pop P T (.box t x) env h K):
  jl P ⟨dst,.box t x,ty,pos,after,guard⟩ a μ h S w K:=by
 simp only[pop]at hp;replace hp:=cn (eu hp);obtain⟨b,f⟩:=hp;simp only[No]at b;obtain⟨c,hlen⟩:=b;have hlen:=amb hlen;obtain⟨g,d⟩:=n8 c (dG e x);simp only[aSy,aRP]at g d
 have k:=rE (w1:=w.alloc (.cells (a.eval x).cells t)) hc (mz (T.get t)) 1 t (λ_=>cellsOf (ev env x)) (some (w.heap.size,0))
  ⟨Of _,_,heap_alloc_new w _,by omega,λi j pv hi hj=>by
   obtain⟨u,hu,l⟩:=d j pv hj;have:i=0:=by omega
   subst this;exact⟨u,by rw[<-hu];congr 1;omega,l⟩⟩ (pV w _) (λi hi=>hlen) (λi j pv _ hj=>QH c hj)
 obtain⟨m,n⟩:=k;refine jl.kr (val:=.pointer (some ⟨w.heap.size,0,none⟩)) (eZ rfl ?_) f ?_ n m
 ·simp [Instr.box,newVar,newRow]
 ·show c7 _ _ _ _ _ _ _ _;unfold c7;rw[aRv (Of _),aSz];refine⟨⟨_,rfl⟩,Of _,λ_=>⟨by omega,w.heap.size,0,bY _ _ _,⟨⟨_,_,_,heap_alloc_new w _,aRV _⟩,λ_=>rfl⟩,?_⟩⟩;simp
theorem MD (k:fL P T) (hc:Core μ h S w) (t:Nat) (hp:pop P T (.alloc t) env h K):
  jl P ⟨dst,.alloc t,ty,pos,after,guard⟩ a μ h S w K:=by
 simp only[pop]at hp;split at hp
 ·rename_i z l;obtain⟨i,c,hi,m,n,f,d⟩:=k.zero t z l;generalize s:mz (T.get t)=sz at*
  have o:=rE (w1:=w.alloc (.cells c.cells t)) hc sz 1 t (λ_=>z) (some (w.heap.size,0))
   ⟨Of _,_,heap_alloc_new w _,by omega,λi j pv hi hj=>by
    have e:j<c.cells.size:=by
     have:=(abF.1 hj).1;omega
    obtain⟨p,b,_,g⟩:=d j c.cells[j] (aRK e);rw[hj]at b;injection b with b;subst b;have:i=0:=by omega
    subst this;exact⟨_,by rw[<-aRK e];congr 1;omega,db.mu (g S w)⟩⟩ (pV w _) (λi hi=>f) (λi j pv _ hj=>by
  have e:j<c.cells.size:=by have:=(abF.1 hj).1;omega
  obtain⟨p,b,_,g⟩:=d j c.cells[j] (aRK e);rw[hj]at b;injection b with b;rw[b];exact bh.no (g S w))
  obtain⟨q,r⟩:=o;refine jl.kr (val:=.pointer (some ⟨w.heap.size,0,none⟩)) (eZ rfl ?_) hp ?_ r q
  ·simp [Instr.alloc,zeroValue,typeInfo,hi,m,newVar,newRow]
  ·show c7 _ _ _ _ _ _ _ _;unfold c7;rw[aRv (Of _),aSz];refine⟨⟨_,rfl⟩,Of _,λ_=>⟨by omega,w.heap.size,0,bY _ _ _,⟨⟨_,_,_,heap_alloc_new w _,aRV _⟩,λ_=>rfl⟩,?_⟩⟩;simp
 ·exact aUd
end
section
variable {P:Program}{T:ru}{μ:Mu}{h:List ao}{S:Nat->Prop}{w:World}
theorem ma (t tx ty e:TypeId) (i:TypeInfo) (d:TypeDesc) (k:P.underlying t=some (.slice e)) (hx:P.underlying tx=some d) (hd:(∃e',d=.slice e')\/d=.string) (hi:P.info? e=some i)
  (g:Option Addr) (c h:Nat) (j:Value) (m:Nat) (news:Array Value) (w':World) (hlen:(Builtin.lenOf j).run P w=.ok m w) (f:(Builtin.firstCells i.size m j).run P w=.ok news w) (l:c+m<=h)
  (b:match g with | some a=>(storeCells (a.add (c*i.size)) news.toList).run P w=.ok () w' | none=>w'=w):
  (Builtin.append_ #[t,tx] ty #[.slice g c h,j]).run P w=.ok (.slice g (c+m) h) w':=by
 rcases hd with⟨e',rfl⟩ | rfl<;>cases g with
 | none=>
  have b:w'=w:=b;subst b;simp [Builtin.append_,run_underlying k,run_underlying hx,sizeOf,typeInfo,hi,hlen,l,f]
 | some a=>
  have b:(storeCells (a.add (c*i.size)) news.toList).run P w=.ok () w':=b;simp [Builtin.append_,run_underlying k,run_underlying hx,sizeOf,typeInfo,hi,hlen,l,f,b]
theorem qq (t tx ty e:TypeId) (i:TypeInfo) (z:Value) (d:TypeDesc) (l:P.underlying t=some (.slice e)) (hx:P.underlying tx=some d) (hd:(∃e',d=.slice e')\/d=.string) (hi:P.info? e=some i) (n:i.zero=some z)
  (j:Option Addr) (a b:Nat) (c:Value) (m:Nat) (k news:Array Value) (hlen:(Builtin.lenOf c).run P w=.ok m w) (o:(Builtin.firstCells i.size a (.slice j a b)).run P w.drew=.ok k w.drew)
  (f:(Builtin.firstCells i.size m c).run P w.drew=.ok news w.drew) (hg:b<a+m) (Kx:0<i.bytes) (p:(a+m)*i.bytes<=140737488355328):
  (Builtin.append_ #[t,tx] ty #[.slice j a b,c]).run P w=.ok (.slice (some ⟨w.heap.size,0,none⟩) (a+m) (grownCap w (a+m) b e))
   (w.drew.alloc (.cells (k++news++Builtin.zeroCells z.cells (grownCap w (a+m) b e - (a+m))) e)):=by
 have q:¬(a+m<=b):=by omega
 have hle:a+m<=(a+m)*i.bytes:=Nat.le_mul_of_pos_right _ Kx;have g:¬(9223372036854775807<((a:Int)+(m:Int))):=by omega
 have r:=growslice_fits hg p;have h:¬(281474976710656<Builtin.nextslicecap (a+m) b*i.bytes):=by omega
 rcases hd with⟨e',rfl⟩ | rfl<;>
  simp [Builtin.append_,run_underlying l,run_underlying hx,sizeOf,typeInfo,zeroValue,hi,n,hlen,q,g,h,Question.forced,f,o,newRow,grownCap]
theorem ME (b off m sz:Nat) (f:0<sz) (g:Nat->List PV) (k:∀i,i<m->(g i).length=sz)
  (n:∀(i j:Nat) (pv:PV),i<m->(g i)[j]? =some pv->∃u,w.cell? ⟨b,off+i*sz+j,none⟩=some u/\qn μ h S w pv u):
  ∃news:Array Value,news.size=m*sz/\(∀(i j:Nat) (pv:PV),i<m->(g i)[j]? =some pv->∃u,news[i*sz+j]? =some u/\qn μ h S w pv u)/\
   (∀u∈news.toList,u.oneCell'=true)/\∀w',dt w w'->(loadCells ⟨b,off,none⟩ (m*sz)).run P w'=.ok news w':=by
 let F:Nat->Value:=λq=>(w.cell? ⟨b,off+q,none⟩).getD undef
 have d:∀(i j:Nat) (pv:PV),i<m->(g i)[j]? =some pv->w.cell? ⟨b,off+(i*sz+j),none⟩=some (F (i*sz+j))/\qn μ h S w pv (F (i*sz+j)):=λi j pv hi hj=>by
  obtain⟨u,h1,h2⟩:=n i j pv hi hj;have e:off+(i*sz+j)=off+i*sz+j:=by omega
  have e2:F (i*sz+j)=u:=by
   show(w.cell? ⟨b,off+(i*sz+j),none⟩).getD undef=u;rw[e,h1];rfl
  rw[e2,e];exact⟨h1,h2⟩
 have hq:∀q,q<m*sz->∃pv,q / sz<m/\(g (q / sz))[q % sz]? =some pv:=λq hq=>by
  have h1:q / sz<m:=(Nat.div_lt_iff_lt_mul f).2 hq;have h2:q % sz<(g (q / sz)).length:=by rw[k _ h1];exact Nat.mod_lt _ f
  exact⟨_,h1,abL h2⟩
 have l:∀q,q / sz*sz+q % sz=q:=λq=>by rw[Nat.mul_comm];exact Nat.div_add_mod q sz
 refine⟨((List.range (m*sz)).map F).toArray,by simp,λi j pv hi hj=>?_,λu hu=>?_,λw' o=>?_⟩
 ·have r:j<sz:=by rw[<-k i hi];exact(abF.1 hj).1
  have p:i*sz+j<m*sz:=by
   have:(i+1)*sz<=m*sz:=aRu _ hi;rw[aRt]at this;omega
  exact⟨F (i*sz+j),by simp [p],(d i j pv hi hj).2⟩
 ·simp only[aRT,aTe]at hu;obtain⟨q,a,rfl⟩:=hu;obtain⟨pv,h1,h2⟩:=hq q a;have:=(d _ _ pv h1 h2).2.c.one
  rwa [l]at this
 ·refine run_loadCells w' ⟨b,off,none⟩ (m*sz) F λq a=>?_;obtain⟨pv,h1,h2⟩:=hq q a;have:=(d _ _ pv h1 h2).1;rw[l]at this;rw[Addr.add_lit];exact o.cell this
theorem S8:∀{l:List PV},noO l=true->∀{j:Nat} {pv:PV},l[j]? =some pv->eH pv=false
 | [],_,j,pv,hj=>by simp at hj
 | c::r,h,0,pv,hj=>by
  simp at hj;subst hj;cases c<;>first | rfl | cases h
 | c::r,h,j+1,pv,hj=>S8 (l:=r) (by cases c<;>first | exact h | cases h) aUV
def Src (P:Program) (μ:Mu) (h:List ao) (S:Nat->Prop) (w:World) (a:Value) (sz m:Nat) (g:Nat->List PV):Prop:=
 (∀i,i<m->(g i).length=sz)/\∃news:Array Value,news.size=m*sz/\(∀(i j:Nat) (pv:PV),i<m->(g i)[j]? =some pv->∃u,news[i*sz+j]? =some u/\qn μ h S w pv u)/\
  (∀u∈news.toList,u.oneCell'=true)/\∀w',dt w w'->(Builtin.lenOf a).run P w'=.ok m w'/\(Builtin.firstCells sz m a).run P w'=.ok news w'
theorem Src.empty (b:Value) (sz:Nat) (g:Nat->List PV) (hx:∃a c,b=.slice a 0 c):Src P μ h S w b sz 0 g:=by
 obtain⟨a,c,rfl⟩:=hx;refine⟨λi hi=>absurd hi aUE,#[],by simp,λi j pv hi=>absurd hi aUE,λu hu=>by simp at hu,λw' _=>⟨rfl,?_⟩⟩;cases a with
 | none=>rfl
 | some a=>simp [Builtin.firstCells,loadCells,loadCellsFrom]
theorem qP (hc:Core μ h S w) (id g off len sz n:Nat) (e:TypeId) (f:Nat->List PV) (hh:h[id]? =some (ao.row g sz n e f)) (v:Value) (hv:cE μ h S w (.own id g off len) v) (m:0<sz):Src P μ h S w v sz len (λi=>f (off+i)):=by
 have a:=hv.qJ;unfold bX at a;rw[hh]at a;obtain⟨_,_,a⟩:=a;obtain⟨hle,a⟩:=a rfl;obtain⟨k,c⟩:=hc.heap id g sz n e f hh;cases l:μ id with
 | none=>
  rw[l]at a c;have B:n=0:=c;have h0:len=0:=by omega
  subst h0;exact Src.empty v sz _ ⟨_,_,a⟩
 | some p=>
  obtain⟨b,base⟩:=p;rw[l]at a c;obtain⟨C,cap,hv,o,d,q⟩:=a;obtain⟨cur,r,D,s⟩:=dA.cells q c;rcases aSq len with h0 | h0
  ·subst h0;exact Src.empty v sz _ ⟨_,_,hv⟩
  ·have d:=d aUE;subst d
   obtain⟨news,q1,t,x,y⟩:=ME (P:=P) (μ:=μ) (h:=h) (S:=S) (w:=w) b (base+off*sz) len sz m (λi=>f (off+i)) (λi hi=>k _ aUE) (λi j pv hi hj=>by
    obtain⟨u,r1,z⟩:=s (off+i) j pv aUE hj;refine⟨u,?_,z⟩;rw[cell_of_row w b _ cur e (0,0) r,<-r1];congr 1;rw[aRt];omega)
   exact⟨λi hi=>k _ aUE,news,q1,t,x,λw' A=>⟨by rw[hv];rfl,by rw[hv];exact y w' A⟩⟩
theorem Hy (hc:Core μ h S w) (x:PV) (l:Value) (hx:cE μ h S w x l) (sz:Nat) (p:0<sz) (K:Nat->(Nat->List PV)->Prop) (hp:QL x h sz K):∃m g,K m g/\Src P μ h S w l sz m g/\∀(i j:Nat) (pv:PV),i<m->(g i)[j]? =some pv->eH pv=false:=by
 unfold QL at hp;split at hp
 ·exact⟨_,_,hp,Src.empty _ _ _ ⟨_,_,hx.rz⟩,λi j pv hi=>absurd hi (aSk _)⟩
 ·rename_i r m g;replace hp:=cn hp;obtain⟨d,hp⟩:=hp;obtain rfl:=amb d;refine⟨m,g,hp,?_⟩;rcases hx.xO with⟨a,c,ex,rfl⟩ | ⟨b,off,c,E,ex,F,q,t,v,o⟩
  ·exact⟨Src.empty _ _ _ ⟨_,_,ex⟩,λi j pv hi=>absurd hi (aSk _)⟩
  ·obtain⟨news,q1,y,z,A⟩:=ME (P:=P) (μ:=μ) (h:=h) (S:=S) (w:=w) b off m sz p g q (λi j pv hi hj=>⟨_,v i j pv hi hj,(db.mu (o i j pv hi hj)).k (bh.no (o i j pv hi hj))⟩);exact⟨⟨q,news,q1,y,z,λw' B=>⟨by rw[ex];rfl,by rw[ex];exact A w' B⟩⟩,λi j pv hi hj=>bh.no (o i j pv hi hj)⟩
 ·rename_i id gen off m;split at hp
  ·rename_i g r n e f hg;obtain⟨rfl,C,hp⟩:=hp;replace hp:=cn hp;obtain⟨d,hp⟩:=hp;obtain rfl:=amb d;exact⟨m,_,hp,qP hc id g off m sz n e f (gG hg) l hx p,λi j pv hi hj=>S8 (C i hi) hj⟩
  ·exact aUd
 ·rename_i s;replace hp:=cn hp;obtain⟨d,hp⟩:=hp;obtain rfl:=amb d;refine⟨_,_,hp,⟨λi hi=>rfl,(s.map λb=>Value.int .u8 b.toNat).toArray,by simp,λi j pv hi hj=>?_,λu hu=>?_,λw' _=>⟨by rw[hx.pn];rfl,?_⟩⟩,λi j pv hi hj=>?_⟩
  ·cases j with
   | zero=>
    simp at hj;subst hj;refine⟨.int .u8 (s.getD i 0).toNat,?_,bh.int _ _⟩;rw[aRb,abL hi];simp [hi]
   | succ j=>simp at hj
  ·simp at hu;obtain⟨b,_,rfl⟩:=hu;rfl
  ·rw[hx.pn];have D:(ByteArray.mk ⟨s⟩).extract 0 s.length=ByteArray.mk ⟨s⟩:=by rw[Ci];simp
   simp only[Builtin.firstCells,D];simp
  ·cases j with
   | zero=>simp at hj;subst hj;rfl
   | succ j=>simp at hj
 ·exact aUd
end
end Go.Am
