/- Texts of the proof, joined and shortened. -/
import Derived.Test.YtgciegobebabfaaGreatDoorPk0
import Derived.WalkLawsBesides
set_option linter.unusedVariables false
set_option linter.unusedSimpArgs false
namespace Go.Am
open Go Go.RowKit
def HR:TypeDesc->Bool
 | .struct _=>true
 | .array _ _=>true
 | _=>false
def nn (P:Program):Nat->List Field->List PV->Bool
 | _,[],[]=>true
 | n,f::r,.int k _::z=>f.name != "_" &&Nat.beq f.offset n&&(match P.underlying f.type with | some (.int a)=>xz k a | _=>false)&&nn P (n+1) r z
 | n,f::r,.bool _::z=>f.name != "_" &&Nat.beq f.offset n&&(match P.underlying f.type with | some .bool=>true | _=>false)&&nn P (n+1) r z
 | n,f::r,.str _::z=>f.name != "_" &&Nat.beq f.offset n&&(match P.underlying f.type with | some .string=>true | _=>false)&&nn P (n+1) r z
 | _,_,_=>false
def MA (P:Program) (t:Nat) (z:List PV):Bool:=match P.underlying t with
 | some (.struct fs)=>!(P.stoodInHeld t)&&!(P.eqGuardType P.depth t)&&nn P 0 fs.toList z
 | _=>false
structure fH (P:Program) (T:vE):Prop where
 flat:∀t sz fl z,T.get t=.struct sz fl z->E7 z=true->MA P t z=true
 int:∀t k,T.get t=.int k->P.underlying t=some (.int k)
 bool:∀t,T.get t=.bool->P.underlying t=some .bool
 str:∀t,T.get t=.str->P.underlying t=some .string
 ptr:∀t e,T.get t=.ptr e->P.underlying t=some (.pointer e)
 slice:∀t e sz WM z,T.get t=.slice e sz WM z->P.underlying t=some (.slice e)/\0<sz/\∃i zv,P.info? e=some i/\i.size=sz/\i.bytes=WM/\i.zero=some zv/\zv.cells.size=sz/\z.length=sz/\
  ∀(j:Nat) (u:Value),zv.cells[j]? =some u->∃pv:PV,z[j]? =some pv/\u.oneCell'=true/\∀S w,bN S w pv u
 map:∀t k e z,T.get t=.map k e z->P.underlying t=some (.map k e)/\∃i zv,P.info? e=some i/\i.zero=some zv/\xA z zv/\oD z=true/\storable z=true
 bytes:∀t e sz WM z,T.get t=.slice e sz WM z->0<WM
 one:∀t,qk (T.get t)=1->(∀sz fl z,T.get t≠.struct sz fl z)->∃i,P.info? t=some i/\i.size=1
 zero:∀t z,HS (T.get t)=some z->∃i zv,P.info? t=some i/\i.zero=some zv/\zv.cells.size=qk (T.get t)/\z.length=qk (T.get t)/\
  ∀(j:Nat) (u:Value),zv.cells[j]? =some u->∃pv:PV,z[j]? =some pv/\u.oneCell'=true/\∀S w,bN S w pv u
 struct:∀t sz fl z,T.get t=.struct sz fl z->∃fs i,P.underlying t=some (.struct fs)/\P.info? t=some i/\i.size=sz/\fl.length=fs.size/\
  (∃zv,i.zero=some zv/\zv.cells.size=sz/\z.length=sz/\∀(j:Nat) (u:Value),zv.cells[j]? =some u->∃pv:PV,z[j]? =some pv/\u.oneCell'=true/\∀S w,bN S w pv u)/\
  ∀(k:Nat) (off size:Nat) (ag:Bool),fl[k]? =some (off,size,ag)->∃f j d,fs[k]? =some f/\f.offset=off/\P.info? f.type=some j/\j.size=size/\0<size/\
   P.underlying f.type=some d/\ag=HR d
section
variable {P:Program}{T:vE}{μ:Mu}{h:List au}{S:Nat->Prop}{w:World}
theorem da.p7 {k:IntKind} {n:Int} {v:Value} (hv:da μ h S w (.int k n) v):v=.int k n:=by
 have hv:bN S w (.int k n) v:=hv;cases hv;rfl
theorem da.rX {b:Bool} {v:Value} (hv:da μ h S w (.bool b) v):v=.bool b:=by
 have hv:bN S w (.bool b) v:=hv;cases hv;rfl
theorem da.sT {s:List UInt8} {v:Value} (hv:da μ h S w (.str s) v):v=.string ⟨⟨s⟩⟩:=by
 have hv:bN S w (.str s) v:=hv;cases hv;rfl
theorem da.wh {v:Value} (hv:da μ h S w .bn v):v=.slice none 0 0:=by
 have hv:bN S w .bn v:=hv;cases hv;rfl
theorem da.WN {f:Nat} {v:Value} (hv:da μ h S w (.fn f) v):v=.func (.func f) #[] #[]:=by
 have hv:bN S w (.fn f) v:=hv;cases hv;rfl
theorem da.AR {sz n:Nat} {f:Nat->List PV} {v:Value} (hv:da μ h S w (.jk sz n f) v):
  (∃a c,v=.slice a n c/\n=0)\/∃(b off c:Nat) (d:Nat->Nat->Value),v=.slice (some ⟨b,off,none⟩) n c/\S b/\(∀i,i<n->(f i).length=sz)/\n<=c/\
   (∀(i j:Nat) (pv:PV),i<n->(f i)[j]? =some pv->w.cell? ⟨b,off+i*sz+j,none⟩=some (d i j))/\(∀(i j:Nat) (pv:PV),i<n->(f i)[j]? =some pv->bN S w pv (d i j)):=by
 have hv:bN S w (.jk sz n f) v:=hv;cases hv with
 | uW _ _ a c=>exact .inl ⟨a,c,rfl,rfl⟩
 | jk _ _ _ b off c d h1 h2 h3 h4 h5=>exact .inr ⟨b,off,c,d,rfl,h1,h2,h3,h4,h5⟩
theorem da.Dh {cs:List PV} {v:Value} (hv:da μ h S w (.iV cs) v):
  ∃(b off:Nat) (a:Nat->Value),v=.pointer (some ⟨b,off,none⟩)/\S b/\(∀(j:Nat) (pv:PV),cs[j]? =some pv->w.cell? ⟨b,off+j,none⟩=some (a j))/\(∀(j:Nat) (pv:PV),cs[j]? =some pv->bN S w pv (a j)):=by
 have hv:bN S w (.iV cs) v:=hv;cases hv with
 | iV _ b off a h1 h4 h5=>exact⟨b,off,a,rfl,h1,h4,h5⟩
theorem WO {v:Value} {p:PV} (h:adw v=some p):bN S w p v:=by
 cases v with
 | int k n=>cases h;exact bN.int k n
 | bool b=>cases h;exact bN.bool b
 | string s=>
  obtain⟨⟨l⟩⟩:=s;cases h;exact bN.str l
 | slice a n c=>
  cases a with
  | none=>
   cases n with
   | zero=>
    cases c with
    | zero=>cases h;exact bN.bn
    | succ c=>cases h
   | succ n=>cases h
  | some a=>cases h
 | pointer a=>
  cases a with
  | none=>cases h;exact bN.lJ
  | some a=>cases h
 | _=>cases h
theorem OV:∀{vs:List Value} {l:List PV},Uj vs=some l->vs.length=l.length/\∀(j:Nat) (pv:PV),l[j]? =some pv->∃u,vs[j]? =some u/\bN S w pv u
 | [],l,h=>by
  cases h;exact⟨rfl,λj pv hj=>by simp at hj⟩
 | v::r,l,h=>by
  unfold Uj at h;cases h1:adw v with
  | none=>rw[h1]at h;cases h
  | some p=>
   cases h2:Uj r with
   | none=>rw[h1,h2]at h;cases h
   | some q=>
    rw[h1,h2]at h;cases h;obtain⟨q1,q2⟩:=OV h2;refine⟨by simp [q1],λj pv hj=>?_⟩;cases j with
    | zero=>simp at hj;subst hj;exact⟨v,rfl,WO h1⟩
    | succ j=>obtain⟨u,r1,a⟩:=q2 j pv aos;exact⟨u,by simpa using r1,a⟩
theorem OW (v:Value):da μ h S w (ofValue v) v:=by
 cases v with
 | int k n=>exact bN.int k n
 | bool b=>exact bN.bool b
 | string s=>
  obtain⟨⟨l⟩⟩:=s;exact bN.str l
 | slice a n c=>
  cases a with
  | none=>
   cases n with
   | zero=>
    cases c with
    | zero=>exact bN.bn
    | succ c=>trivial
   | succ n=>trivial
  | some a=>trivial
 | pointer a=>
  cases a with
  | none=>exact bN.lJ
  | some a=>trivial
 | agg vs=>
  simp only[ofValue];cases hl:Uj vs.toList with
  | none=>trivial
  | some l=>
   obtain⟨q1,q2⟩:=OV (S:=S) (w:=w) hl;exact⟨vs,rfl,by simpa using q1,λj pv hj=>by obtain⟨u,r1,d⟩:=q2 j pv hj;exact⟨u,by simpa using r1,dA.pP d⟩⟩
 | _=>trivial
theorem dF {env:Env} {a:Act} (b:∀t,da μ h S w (env t) (a.tmps.getD t undef)) (x:Operand):da μ h S w (ev env x) (a.eval x):=by
 cases x with
 | tmp t=>exact b t
 | const v=>exact OW v
 | global g=>trivial
 | func f=>exact bN.fn f
def fF (P:Program) (o:Oper) (a:Act) (μ:Mu) (h:List au) (S:Nat->Prop) (w:World) (K:PV->Prop):Prop:=
 ∃v val,K v/\da μ h S w v val/\∀w',dV w w'->(execOp a.eval o).run P w'=.ok (.value val) w'
theorem fF.mk {o:Oper} {a:Act} {K:PV->Prop} {v:PV} {val:Value} (b:K v) (hv:da μ h S w v val) (c:∀w',dV w w'->(execOp a.eval o).run P w'=.ok (.value val) w'):fF P o a μ h S w K:=⟨v,val,b,hv,c⟩
variable {a:Act}{env:Env}{K:PV->Prop}{dst:Option Tmp}{ty:TypeId}{pos:String}{after:Array Edge}{guard:Option (Nat×Bool)}
theorem E8 {s:Sem Value} {w' a:World} {val:Value} (hs:s.run P w'=.ok val a):(do pure (Next.value (<-s)):Sem Next).run P w'=.ok (.value val) a:=by
 simp [hs]
theorem toList_mk (l:List UInt8):(ByteArray.mk ⟨l⟩).toList=l:=by
 have h:(ByteArray.mk ⟨l⟩).toList=(ByteArray.mk ⟨l⟩).data.toList:=by simp
 rw[h]
theorem S7 {a:BinOp} {t:TypeId} {x y:Operand} {u b val:Value} {w':World} (hg:eqGuard a t x y u b=pure ()) (c:(binOp a t u b).run P w'=.ok val w'):
  (do eqGuard a t x y u b;binOp a t u b:Sem Value).run P w'=.ok val w':=by
 rw[hg];simp [c]
theorem yH {P:Program} {t:TypeId} {d:TypeDesc} (hu:P.underlying t=some d) (hd:HR d=false) (cs:Array Value) (off:Nat) (v:Value) (hc:cs[off]? =some v) (w:World):(part t cs off).run P w=.ok v w:=by
 have:(isAgg t).run P w=.ok false w:=by
  unfold isAgg;simp only[Sem.run_bind,run_underlying hu,Result.andThen];cases d<;>first | rfl | cases hd
 simp [part,this,hc]
theorem dS {g q:Bool} {o:Option Bool} {b:Bool} (h:OX g q o=some b):g=true/\∃c,o=some c/\b=(q&&c):=by
 cases o with
 | none=>cases h
 | some c=>cases g with
  | true=>exact⟨rfl,c,rfl,(alb h).symm⟩
  | false=>cases h
theorem xB {P:Program} {μ:Mu} {h:List au} {S:Nat->Prop} {w w':World} {xs p:Array Value} (d:Nat):∀(fs:List Field) (z l m:List PV) (n:Nat) (b:Bool),nn P n fs z=true->
  (∀(j:Nat) (pv:PV),l[j]? =some pv->∃u,xs[n+j]? =some u/\dA μ h S w pv u)->(∀(j:Nat) (pv:PV),m[j]? =some pv->∃u,p[n+j]? =some u/\dA μ h S w pv u)->
  KE z l m=some b->(Op.eqFields (d+1) xs p fs).run P w'=.ok b w'
 | [],z,l,m,n,b,hf,_,_,g=>by
  cases z with
  | nil=>
   cases l with
   | nil=>cases m with
    | nil=>cases g;rfl
    | cons _ _=>cases g
   | cons _ _=>cases g
  | cons _ _=>simp [nn]at hf
 | f::fs,z,l,m,n,b,hf,E,hy,g=>by
  have go:∀(s t:PV) (v x:Value) (q c:Bool) (dd:TypeDesc) (z r i:List PV),l=s::r->m=t::i->(∀u,dA μ h S w s u->u=v)->(∀u,dA μ h S w t u->u=x)->f.name≠ "_" ->f.offset=n->P.underlying f.type=some dd->HR dd=false->
    (Op.equalIn (d+1) f.type v x).run P w'=.ok q w'->nn P (n+1) fs z=true->KE z r i=some c->(Op.eqFields (d+1) xs p (f::fs)).run P w'=.ok (q&&c) w':=by
   intro s t v x q c dd z r i I e2 y A J o hu hd hq B K;subst I e2;obtain⟨F,L,C⟩:=E 0 s rfl;obtain⟨G,M,D⟩:=hy 0 t rfl;obtain rfl:=y F C;obtain rfl:=A G D
   have N:=xB (w':=w') d fs z r i (n+1) c B (λj pv hj=>by
     obtain⟨u,q1,q2⟩:=E (j+1) pv aos;exact⟨u,by rw[<-q1];congr 1;omega,q2⟩) (λj pv hj=>by
     obtain⟨u,q1,q2⟩:=hy (j+1) pv aos;exact⟨u,by rw[<-q1];congr 1;omega,q2⟩) K
   have p1:=yH hu hd xs f.offset F (by rw[o];exact L) w';have p2:=yH hu hd p f.offset G (by rw[o];exact M) w';unfold Op.eqFields;rw[an J];simp only[Sem.run_bind,p1,p2,hq,Result.andThen_ok];cases q with
   | true=>simpa using N
   | false=>simp
  unfold KE at g;split at g
  ·simp [nn]at hf
  ·rename_i k H z O a r Q e i;simp only[nn,An,ams]at hf;obtain⟨⟨⟨h1,h2⟩,h3⟩,h4⟩:=hf;have h2:=abF h2;obtain⟨hg,c,hc,rfl⟩:=dS g;simp only[An]at hg;obtain rfl:=gZ hg.1;obtain rfl:=gZ hg.2;split at h3
   ·rename_i R hu;exact go _ _ (.int k a) (.int k e) (a==e) c _ z r i rfl rfl (λu hu=>by have hu:bN S w (.int k a) u:=hu;cases hu;rfl) (λu hu=>by have hu:bN S w (.int k e) u:=hu;cases hu;rfl) h1 h2 hu rfl (run_equalIn_int w' d _ _ _ _ _ hu) h4 hc
   ·cases h3
  ·rename_i H z a r e i;simp only[nn,An,ams]at hf;obtain⟨⟨⟨h1,h2⟩,h3⟩,h4⟩:=hf;have h2:=abF h2;obtain⟨hg,c,hc,rfl⟩:=dS g;split at h3
   ·rename_i hu;exact go _ _ (.bool a) (.bool e) (a==e) c _ z r i rfl rfl (λu hu=>by have hu:bN S w (.bool a) u:=hu;cases hu;rfl) (λu hu=>by have hu:bN S w (.bool e) u:=hu;cases hu;rfl) h1 h2 hu rfl (run_equalIn_bool w' d _ _ _ hu) h4 hc
   ·cases h3
  ·rename_i H z a r e i;simp only[nn,An,ams]at hf;obtain⟨⟨⟨h1,h2⟩,h3⟩,h4⟩:=hf;have h2:=abF h2;obtain⟨hg,c,hc,rfl⟩:=dS g;split at h3
   ·rename_i hu
    exact go _ _ (.string ⟨⟨a⟩⟩) (.string ⟨⟨e⟩⟩) (a==e) c _ z r i rfl rfl (λu hu=>by have hu:bN S w (.str a) u:=hu;cases hu;rfl) (λu hu=>by have hu:bN S w (.str e) u:=hu;cases hu;rfl) h1 h2 hu rfl (by
     rw[run_equalIn_string w' d _ _ _ hu,toList_mk,toList_mk]) h4 hc
   ·cases h3
  ·cases g
theorem Uk (p:fH P T) (d:BinOp) (t q:TypeId) (x y:Operand) (C D:PV) (m:da μ h S w C (a.eval x)) (hy:da μ h S w D (a.eval y)) (hp:Ul (T.get t) d C D K):
  fF P ⟨dst,.binOp d t x y q,ty,pos,after,guard⟩ a μ h S w K:=by
 have key:∀(v:PV) (val:Value),K v->da μ h S w v val->eqGuard d t x y (a.eval x) (a.eval y)=pure ()->(∀w',(binOp d t (a.eval x) (a.eval y)).run P w'=.ok val w')->
   fF P ⟨dst,.binOp d t x y q,ty,pos,after,guard⟩ a μ h S w K:=λv val e hv hg r=>.mk e hv λw' _=>E8 (S7 hg (r w'))
 unfold Ul at hp;split at hp
 ·rename_i k n Q E;have ex:=m.p7;have c:=hy.p7;have hg:eqGuard d t x y (a.eval x) (a.eval y)=pure ():=by rw[ex];apply eqGuard_at_int
  cases d<;>simp only at hp
  case shl=>
   have h0:¬E<0:=by omega
   exact key _ _ hp.2 (bN.int _ _) hg λw'=>by rw[ex,c,binOp_shl];simp only[Op.shift,mg h0];rfl
  case shr=>
   have h0:¬E<0:=by omega
   exact key _ _ hp.2 (bN.int _ _) hg λw'=>by rw[ex,c,binOp_shr];simp only[Op.shift,mg h0];rfl
  all_goals
   replace hp:=cO hp;obtain⟨u,hp⟩:=hp;obtain rfl:=gZ u
  case and=>exact key _ _ hp (bN.int _ _) hg λw'=>by rw[ex,c,binOp_and,intBits_and];rfl
  case or=>exact key _ _ hp (bN.int _ _) hg λw'=>by rw[ex,c,binOp_or,intBits_or];rfl
  case xor=>exact key _ _ hp (bN.int _ _) hg λw'=>by rw[ex,c,binOp_xor,intBits_xor];rfl
  case andNot=>exact key _ _ hp (bN.int _ _) hg λw'=>by rw[ex,c,binOp_andNot,intBits_andNot];rfl
  case add=>exact key _ _ hp (bN.int _ _) hg λw'=>by rw[ex,c,binOp_add];rfl
  case sub=>exact key _ _ hp (bN.int _ _) hg λw'=>by rw[ex,c,binOp_sub];rfl
  case mul=>exact key _ _ hp (bN.int _ _) hg λw'=>by rw[ex,c,binOp_mul];rfl
  case quo=>exact key _ _ hp.2 (bN.int _ _) hg λw'=>by rw[ex,c,binOp_quo];simp [Op.intDiv,hp.1]
  case rem=>exact key _ _ hp.2 (bN.int _ _) hg λw'=>by rw[ex,c,binOp_rem];simp [Op.intDiv,hp.1]
  case eql=>exact key _ _ hp (bN.bool _) hg λw'=>by rw[ex,c,binOp_eql];rfl
  case neq=>exact key _ _ hp (bN.bool _) hg λw'=>by rw[ex,c,binOp_neq];rfl
  case lss=>exact key _ _ hp (bN.bool _) hg λw'=>by rw[ex,c,binOp_lss];rfl
  case leq=>exact key _ _ hp (bN.bool _) hg λw'=>by rw[ex,c,binOp_leq];rfl
  case gtr=>exact key _ _ hp (bN.bool _) hg λw'=>by rw[ex,c,binOp_gtr];rfl
  case geq=>exact key _ _ hp (bN.bool _) hg λw'=>by rw[ex,c,binOp_geq];rfl
 ·rename_i b R;have ex:=m.rX;have c:=hy.rX;have hg:eqGuard d t x y (a.eval x) (a.eval y)=pure ():=by rw[ex];apply eqGuard_at_bool
  split at hp
  ·rename_i f;exact key _ _ hp (bN.bool _) hg λw'=>by rw[ex,c];exact run_eql_bool w' t _ _ (p.bool _ f)
  ·rename_i f;exact key _ _ hp (bN.bool _) hg λw'=>by rw[ex,c];exact run_neq_bool w' t _ _ (p.bool _ f)
  ·exact anA
 ·rename_i s g;have ex:=m.sT;have c:=hy.sT;have hg:eqGuard d t x y (a.eval x) (a.eval y)=pure ():=by rw[ex];apply eqGuard_at_string
  cases d<;>simp only at hp
  case add=>
   obtain⟨L,_,rfl,M⟩:=hp;refine key _ _ M (bN.str _) hg λw'=>?_;rw[ex,c,binOp_string_add]
   have h1:¬(((ByteArray.mk ⟨s⟩).size+(ByteArray.mk ⟨g⟩).size:Nat):Int)>IntKind.i64.max:=by
    have N:(ByteArray.mk ⟨s⟩).size=s.length:=rfl;have e2:(ByteArray.mk ⟨g⟩).size=g.length:=rfl;rw[N,e2,IntKind.max_i64];omega
   simp only[Op.stringOp,mg h1]
   have h2:ByteArray.mk ⟨s⟩++ByteArray.mk ⟨g⟩=ByteArray.mk ⟨s++g⟩:=by
    apply ByteArray.ext;simp [ByteArray.data_append]
   rw[h2];rfl
  case eql=>exact key _ _ hp (bN.bool _) hg λw'=>by rw[ex,c,binOp_string_eql,toList_mk,toList_mk];rfl
  case neq=>exact key _ _ hp (bN.bool _) hg λw'=>by rw[ex,c,binOp_string_neq,toList_mk,toList_mk];rfl
  case lss=>exact key _ _ hp (bN.bool _) hg λw'=>by rw[ex,c,binOp_string_lss,toList_mk,toList_mk];rfl
  case leq=>exact key _ _ hp (bN.bool _) hg λw'=>by rw[ex,c,binOp_string_leq,toList_mk,toList_mk];rfl
  case gtr=>exact key _ _ hp (bN.bool _) hg λw'=>by rw[ex,c,binOp_string_gtr,toList_mk,toList_mk];rfl
  case geq=>exact key _ _ hp (bN.bool _) hg λw'=>by rw[ex,c,binOp_string_geq,toList_mk,toList_mk];rfl
  all_goals exact hp.elim
 ·rename_i F G;split at hp
  ·rename_i sz fl z f;replace hp:=cO hp;obtain⟨O,hp⟩:=hp;have i:=p.flat _ _ _ _ f O;unfold MA at i;split at i
   ·rename_i fs hu;simp only[An,akY]at i;obtain⟨⟨h1,h2⟩,h3⟩:=i;obtain⟨xs,ex,_,A⟩:=m;obtain⟨o,c,_,B⟩:=hy;have H:P.fieldsOf t=fs:=by simp [Program.fieldsOf,hu]
    have I:∀b,KE z F G=some b->∀w',(Op.equalIn 10000 t (.agg xs) (.agg o)).run P w'=.ok b w':=λb u w'=>by
     rw[run_equalIn_struct w' 9999 t xs o (by rw[H];exact hu) h1,H];exact xB (μ:=μ) (h:=h) (S:=S) (w:=w) 9998 fs.toList z F G 0 b h3 (λj pv hj=>by rw[so];exact A j pv hj) (λj pv hj=>by rw[so];exact B j pv hj) u
    have l:∀(b:Bool),K (.bool b)->(∀w',(binOp d t (.agg xs) (.agg o)).run P w'=.ok (.bool b) w')->fF P ⟨dst,.binOp d t x y q,ty,pos,after,guard⟩ a μ h S w K:=λb e r=>.mk e (bN.bool b) λw' _=>E8 (by
     rw[ex,c];simp [run_eqGuard_agg w' d t x y xs o h2,r w'])
    split at hp
    ·rename_i b J;split at hp
     ·obtain⟨_,rfl,e⟩:=hp;exact l _ e λw'=>by rw[run_eql_struct,I b J w'];rfl
     ·obtain⟨_,rfl,e⟩:=hp;exact l _ e λw'=>by rw[run_neq_struct,I b J w'];rfl
     ·exact anA
    ·exact anA
   ·cases i
  ·exact anA
 ·exact anA
theorem Di {t:TypeId} {d:TypeDesc} (hu:P.underlying t=some d) (w':World):(isAgg t).run P w'=.ok (HR d) w':=by
 unfold isAgg;simp only[Sem.run_bind,run_underlying hu,Result.andThen];cases d<;>rfl
def ZK (μ:Mu) (h:List au) (S:Nat->Prop) (w:World) (cells:List PV) (b off:Nat):Prop:=
 ∀(j:Nat) (pv:PV),cells[j]? =some pv->∃u,w.cell? ⟨b,off+j,none⟩=some u/\dA μ h S w pv u
theorem HT (m:fH P T) (t:Nat) (x:Operand) (cells:List PV) (b off:Nat) (p:a.eval x=.pointer (some ⟨b,off,none⟩)) (hc:ZK μ h S w cells b off) (hp:Et T t cells K)
  (q:∀pv u,pv∈cells->dA μ h S w pv u->da μ h S w pv u):
  fF P ⟨dst,.load t x,ty,pos,after,guard⟩ a μ h S w K:=by
 have key:∀(v:PV) (val:Value),K v->da μ h S w v val->(∀w',dV w w'->(loadVar t ⟨b,off,none⟩).run P w'=.ok val w')->
   fF P ⟨dst,.load t x,ty,pos,after,guard⟩ a μ h S w K:=λv val n hv s=>.mk n hv λw' o=>by
  refine E8 ?_;rw[p];simp [Instr.loadAt,Instr.sureAddr,s w' o]
 have one:∀d,P.underlying t=some d->HR d=false->(∃c r,cells=c::r/\K c)->
   fF P ⟨dst,.load t x,ty,pos,after,guard⟩ a μ h S w K:=λd hu hd ⟨c,r,l,n⟩=>by
  obtain⟨u,y,A⟩:=hc 0 c (by rw[l];rfl);refine key c u n (q c u (by rw[l];simp) A) λw' o=>?_;have h0:=o.cell y;rw[alz]at h0;unfold loadVar;simp only[Sem.run_bind,Di hu,hd,Result.andThen];simp [run_load,h0]
 unfold Et at hp;split at hp
 ·rename_i sz fl B g;obtain⟨fs,i,hu,hi,C,_⟩:=m.struct _ _ _ _ g;replace hp:=wi _ _ _ hp;obtain⟨hle,n⟩:=hp;simp only[amA,alD]at n
  have hf:∃f:Nat->Value,∀(j:Nat) (pv:PV),cells[j]? =some pv->w.cell? ⟨b,off+j,none⟩=some (f j)/\dA μ h S w pv (f j):=by
   refine⟨λj=>(w.cell? ⟨b,off+j,none⟩).getD undef,λj pv hj=>?_⟩;obtain⟨u,h1,h2⟩:=hc j pv hj;simp only[h1,amB];exact⟨trivial,h2⟩
  obtain⟨f,hf⟩:=hf;refine key _ (.agg ((List.range sz).map f).toArray) n ⟨_,rfl,by simp [Nat.min_eq_left hle],λj pv hj=>?_⟩ λw' o=>?_
  ·rw[amh]at hj;split at hj
   ·rename_i D;obtain⟨h1,h2⟩:=hf j pv hj;exact⟨f j,by simp [D],h2⟩
   ·cases hj
  ·unfold loadVar;have hd:HR (.struct fs)=true:=rfl;simp only[Sem.run_bind,Di hu,hd,Result.andThen]
   have hl:=run_loadCells (P:=P) w' ⟨b,off,none⟩ sz f (λj hj=>by
    rw[Addr.add_lit];have E:j<cells.length:=akK hj hle;exact o.cell (hf j _ (Is E)).1)
   simp [sizeOf,typeInfo,hi,C,hl]
 ·exact anA
 ·rename_i h1 h2
  have l:∃c r,cells=c::r/\K c:=by
   cases cells with
   | nil=>exact hp.elim
   | cons c r=>exact⟨c,r,rfl,dG hp⟩
  cases g:T.get t with
  | int k=>exact one _ (m.int _ _ g) rfl l
  | bool=>exact one _ (m.bool _ g) rfl l
  | str=>exact one _ (m.str _ g) rfl l
  | slice e sz F z=>exact one _ (m.slice _ _ _ _ _ g).1 rfl l
  | struct sz fl B=>exact(h1 _ _ _ g).elim
  | map k e z=>exact one _ (m.map _ _ _ _ g).1 rfl l
  | ptr e=>exact one _ (m.ptr _ _ g) rfl l
  | other=>exact(h2 g).elim
theorem gn {id:Nat} {g sz n:Nat} {e:TypeId} {f:Nat->List PV} (hh:gg h id=.row g sz n e f):h[id]? =some (au.row g sz n e f):=by
 unfold gg at hh;rw[akv]at hh;cases a:h[id]? with
 | none=>rw[a]at hh;cases hh
 | some o=>rw[a]at hh;simp at hh;rw[hh]
theorem da.vj {id gen off len:Nat} {v:Value} (hv:da μ h S w (.own id gen off len) v):cK μ h w id gen off len v:=hv
theorem da.Ah {id gen i off:Nat} {v:Value} (hv:da μ h S w (.bc id gen i off) v):dE μ h w id gen i off v:=hv
theorem da.MB {id:Nat} {v:Value} (hv:da μ h S w (.pZ id) v):jq μ h w id v:=hv
theorem HU (p:dT μ h S w) {id g sz n:Nat} {e:TypeId} {f:Nat->List PV} {v:Value} (hh:h[id]? =some (au.row g sz n e f)) (a:jq μ h w id v):
  ∃b base es c,μ id=some (b,base)/\v=.map (some b)/\w.heap[b]? =some (.map es c)/\es.size=n/\
   ∀i,i<n->∃(d j:PV) (en:MapEntry),f i=[d,j]/\oD d=true/\oD j=true/\es[i]? =some en/\xA d en.key/\xA j en.val:=by
 unfold jq at a;rw[hh]at a;obtain⟨_,b,base,k,⟨es,c,l⟩,rfl⟩:=a;obtain⟨_,m⟩:=p id g sz n e f hh;rw[k]at m;obtain⟨o,h1,h2⟩:=m;obtain rfl:=alb (l.symm.trans h1);exact⟨b,base,es,c,k,rfl,l,h2.1,h2.2⟩
theorem Dj:∀(z xs d:List PV) (b:Bool),KE z xs d=some b->∀(j:Nat) (pv:PV),d[j]? =some pv->∀u,zi pv u->dA μ h S w pv u
 | z,xs,d,b,a,j,pv,hj,u,hu=>by
  unfold KE at a;split at a
  ·simp at hj
  ·obtain⟨_,c,hc,_⟩:=dS a;cases j with
   | zero=>simp at hj;subst hj;have hu:u=_:=hu;subst hu;exact bN.int _ _
   | succ j=>exact Dj _ _ _ c hc j pv aos u hu
  ·obtain⟨_,c,hc,_⟩:=dS a;cases j with
   | zero=>simp at hj;subst hj;have hu:u=_:=hu;subst hu;exact bN.bool _
   | succ j=>exact Dj _ _ _ c hc j pv aos u hu
  ·obtain⟨_,c,hc,_⟩:=dS a;cases j with
   | zero=>simp at hj;subst hj;have hu:u=_:=hu;subst hu;exact bN.str _
   | succ j=>exact Dj _ _ _ c hc j pv aos u hu
  ·cases a
theorem Gx:∀(z xs d:List PV) (b:Bool),KE z xs d=some b->xs.length=z.length
 | z,xs,d,b,a=>by
  unfold KE at a;split at a
  ·rfl
  ·obtain⟨_,c,hc,_⟩:=dS a;simp [Gx _ _ _ c hc]
  ·obtain⟨_,c,hc,_⟩:=dS a;simp [Gx _ _ _ c hc]
  ·obtain⟨_,c,hc,_⟩:=dS a;simp [Gx _ _ _ c hc]
  ·cases a
theorem RG {kt:TypeId} {fs:Array Field} {z xs:List PV} {a:Array Value} (hu:P.underlying kt=some (.struct fs)) (hf:nn P 0 fs.toList z=true)
  (b:∀(j:Nat) (pv:PV),xs[j]? =some pv->∃u,a[j]? =some u/\dA μ h S w pv u) (hl:xs.length=z.length) (em:Bool) (w':World):(Instr.checkKey em 10000 kt (.agg a)).run P w'=.ok () w':=by
 rw[show 10000=9999+1 from rfl,Instr.checkKey];simp only[Sem.run_bind,run_underlying hu,Result.andThen_ok];rw[<-Array.forIn_toList];replace b:∀(j:Nat) (pv:PV),xs[j]? =some pv->∃u,a[0+j]? =some u/\dA μ h S w pv u:=λj pv hj=>by rw[so];exact b j pv hj
 generalize(0:Nat)=n at hf b;generalize fs.toList=L at hf;clear hu;induction L generalizing n z xs with
 | nil=>simp
 | cons f L i=>
  cases z with
  | nil=>simp [nn]at hf
  | cons c z=>
   cases xs with
   | nil=>simp at hl
   | cons p xs=>
    have g:nn P (n+1) L z=true->(∀(j:Nat) (pv:PV),xs[j]? =some pv->∃u,a[n+1+j]? =some u/\dA μ h S w pv u):=λ_ j pv hj=>by
     obtain⟨u,q1,q2⟩:=b (j+1) pv aos;exact⟨u,by rw[<-q1];congr 1;omega,q2⟩
    obtain⟨u,l,_⟩:=b 0 p rfl
    have key:∃d,P.underlying f.type=some d/\HR d=false/\f.name≠ "_" /\f.offset=n/\nn P (n+1) L z=true/\∀u,(Instr.checkKey em 9999 f.type u).run P w'=.ok () w':=by
     cases c with
     | int k q=>
      simp only[nn,An,ams]at hf;obtain⟨⟨⟨h1,h2⟩,h3⟩,h4⟩:=hf;split at h3
      ·rename_i r hu;exact anH
      ·cases h3
     | bool s=>
      simp only[nn,An,ams]at hf;obtain⟨⟨⟨h1,h2⟩,h3⟩,h4⟩:=hf;split at h3
      ·rename_i hu;exact anH
      ·cases h3
     | str t=>
      simp only[nn,An,ams]at hf;obtain⟨⟨⟨h1,h2⟩,h3⟩,h4⟩:=hf;split at h3
      ·rename_i hu;exact anH
      ·cases h3
     | _=>simp [nn]at hf
    obtain⟨d,hu,hd,hn,m,e,o⟩:=key;have p1:=yH hu hd a f.offset u (by rw[m];exact l) w';have p2:=o u;simp only[List.forIn_cons,Sem.run_bind,hn,ne_eq,not_false_eq_true,akU,Result.andThen_ok,p1,p2,Sem.run_pure];exact i (by simpa using hl) (n+1) (g e) e
def Ai (P:Program) (kt:TypeId) (d:TypeDesc) (s:Bool) (key a:Value) (q:Bool):Prop:=
 match s with
 | false=>Instr.sameNow d key a=some q
 | true=>Instr.sameNow d key a=none/\∀w',(Op.equal kt key a).run P w'=.ok q w'
theorem Ta (n:fH P T) {kt:Nat} {kv:PV} {key:Value} {t:Bool} (o:da μ h S w kv key) (h0:pt (T.get kt) kv kv=some t):
  ∃d s,P.underlying kt=some d/\(∀(em:Bool) (w':World),(Instr.checkKey em 10000 kt key).run P w'=.ok () w')/\∀(a:PV) (b:Value) (q:Bool),xA a b->pt (T.get kt) kv a=some q->Ai P kt d s key b q:=by
 cases e:T.get kt with
 | int k=>
  rw[e]at h0;cases kv<;>simp only[pt]at h0<;>try cases h0
  rename_i C x;have hu:=n.int _ _ e;obtain⟨f,_⟩:=dS h0;simp only[An]at f;obtain rfl:=gZ f.1;obtain rfl:=o.p7;refine⟨_,false,hu,λem w'=>by rw[show 10000=9999+1 from rfl,Instr.checkKey];simp [run_underlying hu],λa b q hs hq=>?_⟩;cases a<;>simp only[pt]at hq<;>try cases hq
  rename_i D p;obtain⟨hg,c,hc,rfl⟩:=dS hq;injection hc with hc;subst hc;simp only[An]at hg;obtain rfl:=gZ hg.2;obtain rfl:b=_:=hs;simp [Ai,Instr.sameNow]
 | str=>
  rw[e]at h0;cases kv<;>simp only[pt]at h0<;>try cases h0
  rename_i x;have hu:=n.str _ e;obtain rfl:=o.sT;refine⟨_,false,hu,λem w'=>by rw[show 10000=9999+1 from rfl,Instr.checkKey];simp [run_underlying hu],λa b q hs hq=>?_⟩;cases a<;>simp only[pt]at hq<;>try cases hq
  obtain rfl:b=_:=hs;rename_i p;simp only[Ai,Instr.sameNow];congr 1;show((Array.mk x)==(Array.mk p))=(x==p);rw[akX,alk,alk,Array.mk.injEq]
 | struct sz fl z=>
  rw[e]at h0;cases kv<;>simp only[pt]at h0<;>try cases h0
  rename_i xs;split at h0
  ·rename_i v;have g:=n.flat _ _ _ _ e v;unfold MA at g;split at g
   ·rename_i fs hu;simp only[An,akY]at g;obtain⟨⟨h1,h2⟩,h3⟩:=g;obtain⟨y,ex,_,i⟩:=(show mh μ h S w (.agg xs) key from o);subst ex;have A:P.fieldsOf kt=fs:=by simp [Program.fieldsOf,hu]
    refine⟨_,true,hu,λem w'=>RG hu h3 i (Gx z xs xs t h0) em w',λa b q hs hq=>?_⟩;cases a<;>simp only[pt,v]at hq<;>try cases hq
    rename_i m;obtain⟨l,rfl,_,r⟩:=(show ∃vs:Array Value,b=.agg vs/\vs.size=m.length/\∀(j:Nat) (pv:PV),m[j]? =some pv->∃u:Value,vs[j]? =some u/\zi pv u from hs);refine⟨rfl,λw'=>?_⟩;show(Op.equalIn 10000 kt (.agg y) (.agg l)).run P w'=_;rw[run_equalIn_struct w' 9999 kt y l (by rw[A];exact hu) h1,A]
    exact xB (μ:=μ) (h:=h) (S:=S) (w:=w) 9998 fs.toList z xs m 0 q h3 (λj pv hj=>by rw[so];exact i j pv hj) (λj pv hj=>by
     rw[so];obtain⟨u,hu,B⟩:=r j pv hj;exact⟨u,hu,Dj z xs m q hq j pv hj u B⟩) hq
   ·cases g
  ·cases h0
 | _=>
  rw[e]at h0;cases kv<;>simp [pt]at h0
theorem HV {d:TypeDesc} {key:Value}:∀(l:List MapEntry) (i s:Nat) (en:MapEntry),(∀j,j<i->∀x:MapEntry,l[j]? =some x->Instr.sameNow d key x.key=some false)->l[i]? =some en->Instr.sameNow d key en.key=some true->
  Instr.findNow d key l s=some (some (s+i,en.val))
 | [],i,s,en,_,h,_=>by simp at h
 | x::l,0,s,en,_,h,hq=>by
  simp at h;subst h;simp [Instr.findNow,hq]
 | x::l,i+1,s,en,hf,h,hq=>by
  have h0:=hf 0 aol x rfl;have:=HV l i (s+1) en (λj hj y hy=>hf (j+1) aol y aoV) aow hq;simp only[Instr.findNow,h0,this];congr 3;omega
theorem Dk {d:TypeDesc} {key:Value}:∀(l:List MapEntry) (s:Nat),(∀(j:Nat) (x:MapEntry),l[j]? =some x->Instr.sameNow d key x.key=some false)->Instr.findNow d key l s=some none
 | [],s,_=>rfl
 | x::l,s,hf=>by
  have h0:=hf 0 x rfl;simp only[Instr.findNow,h0];exact Dk l (s+1) (λj y hy=>hf (j+1) y aoV)
theorem HW {kt:TypeId} {key:Value} {w':World}:∀(l:List MapEntry) (i s:Nat) (en:MapEntry),(∀j,j<i->∀x:MapEntry,l[j]? =some x->(Op.equal kt key x.key).run P w'=.ok false w')->l[i]? =some en->(Op.equal kt key en.key).run P w'=.ok true w'->
  (Instr.findAsking kt key l s).run P w'=.ok (some (s+i,en.val)) w'
 | [],i,s,en,_,h,_=>by simp at h
 | x::l,0,s,en,_,h,hq=>by
  simp at h;subst h;simp [Instr.findAsking,hq]
 | x::l,i+1,s,en,hf,h,hq=>by
  have h0:=hf 0 aol x rfl;have:=HW l i (s+1) en (λj hj y hy=>hf (j+1) aol y aoV) aow hq;simp only[Instr.findAsking,Sem.run_bind,h0,Result.andThen_ok,alN,alf,this];congr 3;omega
theorem Dl {kt:TypeId} {key:Value} {w':World}:∀(l:List MapEntry) (s:Nat),(∀(j:Nat) (x:MapEntry),l[j]? =some x->(Op.equal kt key x.key).run P w'=.ok false w')->(Instr.findAsking kt key l s).run P w'=.ok none w'
 | [],s,_=>rfl
 | x::l,s,hf=>by
  have h0:=hf 0 x rfl;simp only[Instr.findAsking,Sem.run_bind,h0,Result.andThen_ok,alN,alf];exact Dl l (s+1) (λj y hy=>hf (j+1) y aoV)
theorem HX {kt:TypeId} {d:TypeDesc} {s:Bool} {key:Value} {w':World} (hu:P.underlying kt=some d) (l:List MapEntry) (i:Nat) (en:MapEntry) (hf:∀j,j<i->∀x:MapEntry,l[j]? =some x->Ai P kt d s key x.key false)
  (hi:l[i]? =some en) (hq:Ai P kt d s key en.key true):(Instr.findKey kt key l).run P w'=.ok (some (i,en.val)) w':=by
 unfold Instr.findKey;cases s with
 | false=>
  have:=HV l i 0 en hf hi hq;rw[so]at this;simp [run_underlying hu,this]
 | true=>
  have h1:=HW (P:=P) (w':=w') l i 0 en (λj hj x a=>(hf j hj x a).2 w') hi (hq.2 w');rw[so]at h1
  have h2:Instr.findNow d key l 0=none:=by
   cases l with
   | nil=>simp at hi
   | cons x l=>
    have h3:Instr.sameNow d key x.key=none:=by
     cases i with
     | zero=>simp at hi;subst hi;exact hq.1
     | succ i=>exact(hf 0 aol x rfl).1
    simp [Instr.findNow,h3]
  simp [run_underlying hu,h2,h1]
theorem Dm {kt:TypeId} {d:TypeDesc} {s:Bool} {key:Value} {w':World} (hu:P.underlying kt=some d) (l:List MapEntry) (hf:∀(j:Nat) (x:MapEntry),l[j]? =some x->Ai P kt d s key x.key false):
  (Instr.findKey kt key l).run P w'=.ok none w':=by
 unfold Instr.findKey;cases s with
 | false=>simp [run_underlying hu,Dk l 0 hf]
 | true=>
  have h1:=Dl (P:=P) (w':=w') (kt:=kt) (key:=key) l 0 (λj x a=>(hf j x a).2 w');cases l with
  | nil=>simp [run_underlying hu,Instr.findNow]
  | cons x l=>
   have h3:Instr.sameNow d key x.key=none:=(hf 0 x rfl).1;simp [run_underlying hu,Instr.findNow,h3,h1]
theorem dA.v {pv:PV} {u:Value} (hc:dA μ h S w pv u):da μ h S w pv u:=by
 cases pv<;>first | exact(show False from hc).elim | trivial | exact hc
theorem HY (k:fH P T) (o:dT μ h S w) (t:Nat) (x:Operand) (l:PV) (m:da μ h S w l (a.eval x)) (hp:Dn T t l h K):
  fF P ⟨dst,.load t x,ty,pos,after,guard⟩ a μ h S w K:=by
 unfold Dn at hp;split at hp
 ·rename_i cells;obtain⟨b,off,p,q,_,h2,h3⟩:=m.Dh;exact HT k t x cells b off q (λj pv hj=>⟨p j,h2 j pv hj,dA.pP (h3 j pv hj)⟩) hp λpv u _ hc=>hc.v
 ·rename_i id gen i off;split at hp
  ·rename_i g sz n e f hg;obtain⟨rfl,_,rfl,hp⟩:=hp;have hh:=gn hg;have d:=m.Ah;unfold dE at d;rw[hh]at d;obtain⟨_,_,d⟩:=d;obtain⟨r,b,base,s,y,hv⟩:=d rfl;obtain⟨hl,hc⟩:=o id g sz n e f hh;rw[s]at hc;obtain⟨cur,z,B,A⟩:=dT.cells y.1 hc;refine HT k t x _ b (base+i*sz+off) hv (λj pv hj=>?_) hp λpv u _ hc=>hc.v;rw[alU]at hj;obtain⟨v,h1,h2⟩:=A i (off+j) pv r hj;refine⟨v,?_,h2.c⟩;rw[cell_of_row w b (base+i*sz+off+j) cur e (0,0) z,<-h1];congr 1;omega
  ·exact anA
 ·exact anA
theorem qZ {e:TypeId} {i:TypeInfo} (hi:P.info? e=some i) (w':World):(sizeOf e).run P w'=.ok i.size w':=by
 simp [sizeOf,typeInfo,hi]
theorem E9 {t e:TypeId} {i:TypeInfo} (hu:P.underlying t=some (.slice e)) (hi:P.info? e=some i) (a:Addr) (n c:Nat) (k:IntKind) (x:Int) (h0:0<=x) (h1:x<n) (w':World):
  (Instr.indexAt t (.slice (some a) n c) (.int k x)).run P w'=.ok (.pointer (some (a.add (x.toNat*i.size)))) w':=by
 have he:P.elem t=e:=by simp [Program.elem,hu]
 rw[run_indexAt_slice w' t a n c k x aoX,an ⟨h0,h1⟩,he,qZ hi];rfl
theorem OY (G:fH P T) (I:dT μ h S w) (H:∀t,da μ h S w (env t) (a.tmps.getD t undef)) (t:Nat) (x i:Operand) (hp:dN T (.indexAddr t x i) env h K):
  fF P ⟨dst,.indexAddr t x i,ty,pos,after,guard⟩ a μ h S w K:=by
 have s:=dF H x;have hi:=dF H i;unfold dN at hp;simp only at hp;split at hp
 ·rename_i e sz J z L n f k d y hex m;rw[hex]at s;rw[m]at hi;replace hp:=cO hp;obtain⟨o,⟨h0,h1⟩,_,rfl,A⟩:=hp;obtain rfl:=abF o;have B:=hi.p7;obtain⟨hu,_,inf,zv,C,D,_⟩:=G.slice _ _ _ _ _ y;rcases s.AR with⟨_,_,_,rfl⟩ | ⟨b,off,c,M,ex,N,hl,hc,O,Q⟩
  ·omega
  ·have q:d.toNat<n:=by omega
   refine .mk A (bN.iV (f d.toNat) b (off+d.toNat*sz) (M d.toNat) N (λj pv hj=>O _ j pv q hj) (λj pv hj=>Q _ j pv q hj)) λw' _=>E8 ?_;rw[ex,B,E9 hu C _ _ _ _ _ h0 h1,D,Addr.add_lit]
 ·rename_i e sz J z id gen off len k d y hex m;rw[hex]at s;rw[m]at hi;have B:=hi.p7;obtain⟨hu,_,inf,zv,C,D,_⟩:=G.slice _ _ _ _ _ y;split at hp
  ·rename_i g L n W f R;obtain⟨rfl,hp⟩:=hp;replace hp:=cO hp;obtain⟨o,⟨h0,h1⟩,_,rfl,A⟩:=hp;obtain⟨o,r⟩:=Bool.and_eq_true_iff.1 o;obtain rfl:=abF o;have hh:=gn R;have l:=s.vj;unfold cK at l;rw[hh]at l;obtain⟨_,_,l⟩:=l;obtain⟨hle,l⟩:=l rfl;cases u:μ id with
   | none=>
    rw[u]at l;obtain⟨_,E⟩:=I id _ _ _ _ _ hh;rw[u]at E;have E:n=0:=E;omega
   | some p=>
    obtain⟨b,base⟩:=p;rw[u]at l;obtain⟨X,cap,ex,Y,F,U⟩:=l;have F:=F aol;subst F;refine .mk A (v:=.bc id g (off+d.toNat) 0) (val:=.pointer (some ⟨b,base+(off+d.toNat)*sz+0,none⟩)) ?_ λw' _=>E8 ?_
    ·show dE μ h w id g (off+d.toNat) 0 _;unfold dE;rw[hh];exact⟨⟨_,rfl⟩,No _,λ_=>⟨by omega,b,base,u,⟨U.least,λV=>by rw[V]at r;cases r⟩,rfl⟩⟩
    ·rw[ex,B,E9 hu C _ _ _ _ _ h0 h1,D,Addr.add_lit];have:base+off*sz+d.toNat*sz=base+(off+d.toNat)*sz+0:=by rw[akH];omega
     rw[this]
  ·exact anA
 ·exact anA
theorem HZ (g:fH P T) (d:∀t,da μ h S w (env t) (a.tmps.getD t undef)) (t:Nat) (x i:Operand) (hp:dN T (.index t x i) env h K):
  fF P ⟨dst,.index t x i,ty,pos,after,guard⟩ a μ h S w K:=by
 have e:=dF d x;have hi:=dF d i;unfold dN at hp;simp only at hp;split at hp
 ·rename_i s k b j hex c;rw[hex]at e;rw[c]at hi;obtain⟨⟨h0,h1⟩,_,rfl,l⟩:=hp;have m:=hi.p7;have ex:=e.sT;have hu:=g.str _ j;refine .mk l (bN.int _ _) λw' _=>E8 ?_;rw[ex,m]
  have n:(ByteArray.mk ⟨s⟩)[b.toNat]? =some (s.getD b.toNat 0):=by
   have f:b.toNat<s.length:=by omega
   rw[akv,Is f];rw[getElem?_pos (ByteArray.mk ⟨s⟩) b.toNat f];rfl
  simp only[Instr.index,asIntOf,Sem.run_bind,Sem.run_pure,Result.andThen,run_underlying hu,an h0,n]
 ·exact anA
theorem Un (k:fH P T) (y:dT μ h S w) (C:∀t,da μ h S w (env t) (a.tmps.getD t undef)) (args:Array Operand) (l:Array TypeId) (hp:dN T (.call ⟨.builtin .len,args,l⟩) env h K):
  fF P ⟨dst,.call ⟨.builtin .len,args,l⟩,ty,pos,after,guard⟩ a μ h S w K:=by
 obtain⟨args⟩:=args;obtain⟨l⟩:=l;unfold dN at hp;simp only at hp;split at hp
 ·rename_i x t;have i:=dF C x
  have fin:∀(n:Int) (val:Value),a.eval x=val->K (.int .i64 n)->(∀w',(Builtin.len_ #[t] ty #[val]).run P w'=.ok (goInt n) w')->
    fF P ⟨dst,.call ⟨.builtin .len,#[x],#[t]⟩,ty,pos,after,guard⟩ a μ h S w K:=λn val o q d=>.mk q (bN.int _ _) λw' _=>by
   simp only[execOp,resolve,invoke,builtin,Sem.run_bind,Sem.run_pure,Result.andThen_ok,amC,akB,akE,o,d];rfl
  split at hp
  ·rename_i e sz A z D n f j hex;rw[hex]at i;obtain⟨hu,_⟩:=k.slice _ _ _ _ _ j;have he:P.elem t=e:=by simp [Program.elem,hu]
   rcases i.AR with⟨r,c,ex,rfl⟩ | ⟨b,off,c,H,ex,_⟩
   ·exact fin _ _ ex hp λw'=>run_len_slice w' t ty _ _ _ aoX
   ·exact fin _ _ ex hp λw'=>run_len_slice w' t ty _ _ _ aoX
  ·rename_i e sz A z j hex;rw[hex]at i;obtain⟨hu,_⟩:=k.slice _ _ _ _ _ j;have he:P.elem t=e:=by simp [Program.elem,hu]
   exact fin _ _ i.wh hp λw'=>run_len_slice w' t ty _ _ _ aoX
  ·rename_i e sz A z id gen off n j hex;rw[hex]at i;obtain⟨hu,_⟩:=k.slice _ _ _ _ _ j;have he:P.elem t=e:=by simp [Program.elem,hu]
   split at hp
   ·rename_i g D E I f u;obtain⟨rfl,q⟩:=hp;have hh:=gn u;have d:=i.vj;unfold cK at d;rw[hh]at d;obtain⟨_,_,d⟩:=d;obtain⟨hle,d⟩:=d rfl
    have o:∃r c,a.eval x=.slice r n c:=by
     cases m:μ id with
     | none=>
      rw[m]at d;obtain⟨_,v⟩:=y id _ _ _ _ _ hh;rw[m]at v;have v:E=0:=v;have:n=0:=by omega
      subst this;exact⟨_,_,d⟩
     | some p=>
      rw[m]at d;obtain⟨J,cap,ex,_⟩:=d;exact⟨_,_,ex⟩
    obtain⟨r,c,ex⟩:=o;exact fin _ _ ex q λw'=>run_len_slice w' t ty _ _ _ aoX
   ·exact anA
  ·rename_i s j hex;rw[hex]at i;have hu:=k.str _ j;refine fin _ _ i.sT hp λw'=>?_;simp [Builtin.len_,run_underlying hu];rfl
  ·rename_i L M z0 id j hex;rw[hex]at i;obtain⟨hu,_⟩:=k.map _ _ _ _ j;split at hp
   ·rename_i g sz n e f u;obtain⟨b,base,es,c,m,ex,B,hn,_⟩:=HU y (gn u) i.MB;refine .mk hp (bN.int _ _) λw' F=>?_;have G:w'.heap[b]? =some (.map es c):=(F.blocks b (akw.1 B).1).trans B;simp only[execOp,resolve,invoke,builtin,Sem.run_bind,Sem.run_pure,Result.andThen_ok,amC,akB,akE,ex];rw[show(Builtin.len_ #[t] ty #[.map (some b)]).run P w'=.ok (goInt es.size) w' by simp [Builtin.len_,run_underlying hu,run_getObj_map w' b es c G]];rw[hn];rfl
   ·exact anA
  ·exact anA
 ·exact anA
theorem Fa (s:List UInt8) (l m:Nat):(ByteArray.mk ⟨s⟩).extract l m=ByteArray.mk ⟨(s.take m).drop l⟩:=by
 apply ByteArray.ext;rw[ByteArray.data_extract];apply Array.ext';rw[List.drop_take];simp [Array.toList_extract,List.extract]
theorem Uo (C:fH P T) (x:dT μ h S w) (id g off len sz n:Nat) (e:TypeId) (f:Nat->List PV) (hh:h[id]? =some (au.row g sz n e f)) (v:Value) (hv:da μ h S w (.own id g off len) v) (l m:Nat) (hl:l<=m) (hm:m<=len):
  ∃j c,v=.slice j len c/\len<=c/\∀(d:Nat),m<=d->d<=c->da μ h S w (.own id g (off+l) (m - l)) (.slice (if d=l then j else j.map (·.add (l*sz))) (m - l) (d - l)):=by
 have a:=hv.vj;unfold cK at a;rw[hh]at a;obtain⟨_,_,a⟩:=a;obtain⟨hle,a⟩:=a rfl;cases i:μ id with
 | none=>
  rw[i]at a;obtain⟨_,k⟩:=x id _ _ _ _ _ hh;rw[i]at k;have k:n=0:=k;have h0:len=0:=by omega
  subst h0;have a:v=.slice none 0 0:=a;refine⟨none,0,a,No _,λd h1 h2=>?_⟩;have o:m=0:=by omega
  have y:l=0:=by omega
  have A:d=0:=by omega
  subst o;subst y;subst A;show cK μ h w id g (off+0) (0 - 0) _;unfold cK;rw[hh];refine⟨⟨_,_,_,rfl⟩,No _,λ_=>⟨by omega,?_⟩⟩;rw[i];rfl
 | some p=>
  obtain⟨b,base⟩:=p;rw[i]at a;obtain⟨t,cap,ex,B,q,u⟩:=a;refine⟨some t,cap,ex,B,λd h1 h2=>?_⟩;show cK μ h w id g (off+l) (m - l) _;unfold cK;rw[hh];refine⟨⟨_,_,_,rfl⟩,No _,λ_=>⟨by omega,?_⟩⟩;rw[i];by_cases r:d=l
  ·refine⟨t,0,by rw[an r];subst r;simp,by omega,λh=>absurd h aol,?_⟩;obtain⟨cur,s,z,q1,q2⟩:=u;refine⟨cur,s,z,q1,alg ?_ q2⟩;have:(off+l+0)*sz<=(off+cap)*sz:=akJ _ aol;omega
  ·have q:=q aol;subst q;refine⟨⟨b,base+(off+l)*sz,none⟩,d - l,?_,by omega,λ_=>rfl,?_⟩
   ·rw[mg r,Option.map_some,Addr.add_lit,akH,Nat.add_assoc]
   ·obtain⟨cur,s,z,q1,q2⟩:=u;refine⟨cur,s,z,q1,alg ?_ q2⟩;have:(off+l+(d - l))*sz<=(off+cap)*sz:=akJ _ aol;omega
theorem Up (sz n:Nat) (f:Nat->List PV) (v:Value) (hv:da μ h S w (.jk sz n f) v) (l m:Nat) (hl:l<=m) (hm:m<=n):
  ∃d c,v=.slice d n c/\((n<=c\/n=0)/\∀(a:Nat),m<=a->(a<=c\/m=0)->da μ h S w (.jk sz (m - l) (λi=>f (l+i))) (.slice (if a=l then d else d.map (·.add (l*sz))) (m - l) (a - l))):=by
 rcases hv.AR with⟨d,c,ex,rfl⟩ | ⟨b,off,c,g,ex,k,hlen,hc,o,p⟩
 ·have e:m=0:=by omega
  subst e;have q:l=0:=by omega
  subst q;exact⟨d,c,ex,.inr rfl,λa _ _=>bN.uW _ _ _ _⟩
 ·refine⟨_,c,ex,.inl hc,λa h1 h2=>?_⟩;by_cases r:m=l
  ·subst r;rw[alK];exact bN.uW _ _ _ _
  ·rw[mg aol,Option.map_some,Addr.add_lit];refine bN.jk sz (m - l) _ b (off+l*sz) (a - l) (λi j=>g (l+i) j) k (λi hi=>hlen _ aol) aol (λi j pv hi hj=>?_) (λi j pv hi hj=>p _ j pv aol hj);have:=o (l+i) j pv aol hj;rw[akH]at this;rw[<-this];congr 2;omega
theorem eT {o:Oper} {s:Sem Value} {val:Value} {w' b:World} (he:execOp a.eval o=(do pure (Next.value (<-s)):Sem Next)) (hs:s.run P w'=.ok val b):(execOp a.eval o).run P w'=.ok (.value val) b:=by
 rw[he];exact E8 hs
theorem Ca (b:∀x,da μ h S w (ev env x) (a.eval x)) {lo:Option Operand}:(lo.map (ev env)=none->lo.map a.eval=none)/\∀k n,lo.map (ev env)=some (.int k n)->lo.map a.eval=some (.int k n):=by
 cases lo with
 | none=>exact⟨λ_=>rfl,λk n h=>(by cases h)⟩
 | some x=>
  refine⟨λh=>(by cases h),λk n hh=>?_⟩;have hh:ev env x=.int k n:=by injection hh
  have:=b x;rw[hh]at this;show some (a.eval x)=_;rw[this.p7]
theorem RI {t e:TypeId} {i:TypeInfo} (hu:P.underlying t=some (.slice e)) (hi:P.info? e=some i) (a:Option Addr) (n c:Nat) (hc:n<=c) (w':World):
  ((Instr.sliceAt t (.slice a n c) none none none).run P w'=.ok (sliced a 0 n c i.size) w')/\
  (∀(k:IntKind) (l:Int),0<=l->l<=n->(Instr.sliceAt t (.slice a n c) (some (.int k l)) none none).run P w'=.ok (sliced a l.toNat n c i.size) w')/\
  (∀(k:IntKind) (m:Int),0<=m->m<=n->(Instr.sliceAt t (.slice a n c) none (some (.int k m)) none).run P w'=.ok (sliced a 0 m.toNat c i.size) w')/\
  (∀(k:IntKind) (l:Int) (d:IntKind) (m:Int),0<=l->l<=m->m<=n->(Instr.sliceAt t (.slice a n c) (some (.int k l)) (some (.int d m)) none).run P w'=.ok (sliced a l.toNat m.toNat c i.size) w')/\
  (∀(k:IntKind) (m:Int) (d:IntKind) (q:Int),0<=m->m<=q->q<=n->(Instr.sliceAt t (.slice a n c) none (some (.int k m)) (some (.int d q))).run P w'=.ok (sliced a 0 m.toNat q.toNat i.size) w')/\
  (∀(k:IntKind) (l:Int) (d:IntKind) (m:Int) (f:IntKind) (q:Int),0<=l->l<=m->m<=q->q<=n->(Instr.sliceAt t (.slice a n c) (some (.int k l)) (some (.int d m)) (some (.int f q))).run P w'=.ok (sliced a l.toNat m.toNat q.toNat i.size) w'):=by
 have he:P.elem t=e:=by simp [Program.elem,hu]
 have b:P.underlying t=some (.slice (P.elem t)):=by rw[he];exact hu
 have g:(n:Int)<=c:=by omega
 refine⟨?_,λk l h0 h1=>?_,λk m h0 h1=>?_,λk l d m h0 h1 h2=>?_,λk m d q h0 h1 h2=>?_,λk l d m f q h0 h1 h2 h3=>?_⟩<;>rw[run_sliceAt_slice w' _ _ _ _ _ b]
 ·rw[run_slice_all w' t a n c b,he,qZ hi];rfl
 ·rw[run_slice_l w' t a n c b k l h0 h1,he,qZ hi];rfl
 ·rw[run_slice_h w' t a n c b k m h0 aol,he,qZ hi];rfl
 ·rw[run_slice_lh w' t a n c b k d l m h0 h1 aol,he,qZ hi];rfl
 ·rw[run_slice_hm w' t a n c b k d m q h0 h1 aol,he,qZ hi];rfl
 ·rw[run_slice_lhm w' t a n c b k d f l m q h0 h1 h2 aol,he,qZ hi];rfl
theorem fF.choose {o:Oper} (hs:fF P o a μ h S w (OZ K)):fF P o a μ h S w K:=by
 obtain⟨v,val,d,hv,e⟩:=hs;cases v with
 | jk sz n f=>
  obtain⟨k,l,rfl,hf,d⟩:=d;refine⟨_,val,d,?_,e⟩;rcases hv.AR with⟨a,c,rfl,rfl⟩ | ⟨b,off,c,m,rfl,h1,h2,h3,h4,h5⟩
  ·exact bN.uW _ _ _ _
  ·exact bN.jk sz k l b off c m h1 (λi hi=>by rw[hf i hi];exact h2 i hi) h3 (λi j pv hi hj=>h4 i j pv hi aoU) (λi j pv hi hj=>h5 i j pv hi aoU)
 | str s=>
  obtain⟨_,rfl,d⟩:=d;exact⟨_,val,d,hv,e⟩
 | own id g off n=>
  obtain⟨_,_,rfl,rfl,d⟩:=d;exact⟨_,val,d,hv,e⟩
 | _=>exact⟨_,val,d,hv,e⟩
theorem O0 (I:fH P T) (Z:dT μ h S w) (J:∀t,da μ h S w (env t) (a.tmps.getD t undef)) (t:Nat) (x:Operand) (lo hi j:Option Operand) (hp:dN T (.slice t x lo hi j) env h K):
  fF P ⟨dst,.slice t x lo hi j,ty,pos,after,guard⟩ a μ h S w K:=by
 have y:=dF J x;have r:=Ca (λx=>dF J x) (lo:=lo);have u:=Ca (λx=>dF J x) (lo:=hi);have B:=Ca (λx=>dF J x) (lo:=j);unfold dN at hp;simp only at hp
 have key:∀(K:PV->Prop) (e:TypeId) (i:TypeInfo) (sz n:Nat) (o:Option Addr) (c:Nat) (R:Nat->Nat->PV),P.underlying t=some (.slice e)->P.info? e=some i->i.size=sz->a.eval x=.slice o n c->n<=c->
   (∀l m j,l<=m->m<=n->m<=j->j<=c->da μ h S w (R l m) (.slice (if j=l then o else o.map (·.add (l*sz))) (m - l) (j - l)))->ZN n (hi.map (ev env)) (j.map (ev env))->
   (match lo.map (ev env),hi.map (ev env)with
    | none,none=>K (R 0 n)
    | some (.int _ l),none=>(0<=l/\l<=n)/\K (R l.toNat n)
    | none,some (.int _ m)=>(0<=m/\m<=n)/\K (R 0 m.toNat)
    | some (.int _ l),some (.int _ m)=>(0<=l/\l<=m/\m<=n)/\K (R l.toNat m.toNat)
    | _,_=>False)->fF P ⟨dst,.slice t x lo hi j,ty,pos,after,guard⟩ a μ h S w K:=by
  intro K e i sz n o c R hu C D ex hc E hm hp;subst D;have A:=λw'=>RI (P:=P) hu C o n c hc w'
  have fin:∀(l m q:Nat),l<=m->m<=n->m<=q->q<=c->K (R l m)->(∀w',(Instr.sliceAt t (.slice o n c) (lo.map a.eval) (hi.map a.eval) (j.map a.eval)).run P w'=.ok (sliced o l m q i.size) w')->
    fF P ⟨dst,.slice t x lo hi j,ty,pos,after,guard⟩ a μ h S w K:=λl m q h1 h2 h3 h4 L M=>.mk L (E l m q h1 h2 h3 h4) λw' _=>eT rfl (by rw[ex];exact M w')
  unfold ZN at hm;split at hm
  ·rename_i d;have d:=B.1 d;split at hp
   ·rename_i b e2;exact fin 0 n c aol aol hc aol hp λw'=>by rw[r.1 b,u.1 e2,d];exact(A w').1
   ·rename_i k l b e2;obtain⟨⟨h0,h1⟩,hp⟩:=hp;exact fin l.toNat n c aol aol hc aol hp λw'=>by rw[r.2 _ _ b,u.1 e2,d];exact(A w').2.1 _ _ h0 h1
   ·rename_i k m b e2;obtain⟨⟨h0,h1⟩,hp⟩:=hp;exact fin 0 m.toNat c aol aol aol aol hp λw'=>by rw[r.1 b,u.2 _ _ e2,d];exact(A w').2.2.1 _ _ h0 h1
   ·rename_i k l N m b e2;obtain⟨⟨h0,h1,h2⟩,hp⟩:=hp;exact fin l.toNat m.toNat c aol aol aol aol hp λw'=>by rw[r.2 _ _ b,u.2 _ _ e2,d];exact(A w').2.2.2.1 _ _ _ _ h0 h1 h2
   ·exact anA
  ·rename_i ad q d;have d:=B.2 _ _ d;split at hm
   ·rename_i k3 m v;obtain⟨F,Y⟩:=hm;rw[v]at hp;split at hp
    ·rename_i b e2;cases e2
    ·rename_i b e2;cases e2
    ·rename_i k m' b e2;injection e2 with e2;injection e2 with O Q;subst O;subst Q;obtain⟨⟨h0,h1⟩,hp⟩:=hp;exact fin 0 m.toNat q.toNat aol aol aol aol hp λw'=>by rw[r.1 b,u.2 _ _ v,d];exact(A w').2.2.2.2.1 _ _ _ _ h0 F Y
    ·rename_i k l N m' b e2;injection e2 with e2;injection e2 with O Q;subst O;subst Q;obtain⟨⟨h0,h1,h2⟩,hp⟩:=hp;exact fin l.toNat m.toNat q.toNat aol aol aol aol hp λw'=>by rw[r.2 _ _ b,u.2 _ _ v,d];exact(A w').2.2.2.2.2 _ _ _ _ _ _ h0 h1 F Y
    ·exact anA
   ·exact hm.elim
  ·exact hm.elim
 split at hp
 ·rename_i e sz bt z dk n f G hex;rw[hex]at y;replace hp:=cO hp;obtain⟨U,hm,hp⟩:=hp;obtain rfl:=abF U;obtain⟨hu,_,inf,zv,C,D,_⟩:=I.slice _ _ _ _ _ G;have e0:(λi=>f (0+i))=f:=by funext i;rw[so]
  have H:=λl m (h1:l<=m) (h2:m<=n)=>Up sz n f _ y l m h1 h2;obtain⟨o,c,ex,hc,_⟩:=H 0 0 (No _) (alc _);have hc:n<=c:=by rcases hc with hc | hc<;>omega
  refine fF.choose ?_;refine key (OZ K) e inf sz n o c (λl m=>.jk sz (m - l) (λi=>f (l+i))) hu C D ex hc (λl m q h1 h2 h3 h4=>?_) hm ?_
  ·obtain⟨V,c',p,_,E⟩:=H l m h1 h2;rw[ex]at p;injection p with b e2 d;subst b;subst d;exact E q h3 (.inl h4)
  ·simp only[e0,Nat.sub_zero];exact hp
 ·rename_i e sz bt z id gen off len G hex;rw[hex]at y;obtain⟨hu,_,inf,zv,C,D,_⟩:=I.slice _ _ _ _ _ G;split at hp
  ·rename_i g dk n' e' f KF;obtain⟨rfl,hp⟩:=hp;replace hp:=cO hp;obtain⟨U,hm,hp⟩:=hp;obtain rfl:=abF U;have hh:=gn KF;have H:=λl m (h1:l<=m) (h2:m<=len)=>Uo I Z id g off len sz n' e' f hh _ y l m h1 h2;obtain⟨o,c,ex,hc,_⟩:=H 0 0 (No _) (alc _);refine fF.choose ?_;refine key (OZ K) e inf sz len o c (λl m=>.own id g (off+l) (m - l)) hu C D ex hc (λl m q h1 h2 h3 h4=>?_) hm ?_
   ·obtain⟨V,c',p,_,E⟩:=H l m h1 h2;rw[ex]at p;injection p with b e2 d;subst b;subst d;exact E q h3 h4
   ·exact hp
  ·exact anA
 ·rename_i s G hex;rw[hex]at y;replace hp:=cO hp;obtain⟨W,hp⟩:=hp;obtain rfl:j=none:=by simpa using W
  refine fF.choose ?_;generalize OZ K=K at*;have ex:=y.sT;have hu:=I.str _ G;have oA:(ByteArray.mk ⟨s⟩).size=s.length:=rfl
  have fin:∀(l m:Nat) (X:List UInt8),X=(s.take m).drop l->K (.str X)->(∀w',(Instr.sliceAt t (.string ⟨⟨s⟩⟩) (lo.map a.eval) (hi.map a.eval) none).run P w'=.ok (.string ((ByteArray.mk ⟨s⟩).extract l m)) w')->
    fF P ⟨dst,.slice t x lo hi none,ty,pos,after,guard⟩ a μ h S w K:=λl m X hs L M=>.mk L (bN.str _) λw' _=>eT rfl (by rw[ex,hs,<-Fa];exact M w')
  simp only[H0]at hp;split at hp
  ·rename_i b e2;exact fin 0 s.length s aon hp λw'=>by rw[r.1 b,u.1 e2,run_sliceAt_string w' _ _ _ _ _ hu,run_slice_string_all w' t ⟨⟨s⟩⟩ hu];rfl
  ·rename_i k l b e2;obtain⟨⟨h0,h1⟩,hp⟩:=hp;exact fin l.toNat s.length _ aon hp λw'=>by rw[r.2 _ _ b,u.1 e2,run_sliceAt_string w' _ _ _ _ _ hu,run_slice_string_l w' t ⟨⟨s⟩⟩ hu k l h0 h1];rfl
  ·rename_i k m b e2;obtain⟨⟨h0,h1⟩,hp⟩:=hp;exact fin 0 m.toNat _ aon hp λw'=>by rw[r.1 b,u.2 _ _ e2,run_sliceAt_string w' _ _ _ _ _ hu,run_slice_string_h w' t ⟨⟨s⟩⟩ hu k m h0 h1]
  ·rename_i k l N m b e2;obtain⟨⟨h0,h1,h2⟩,hp⟩:=hp;exact fin l.toNat m.toNat _ rfl hp λw'=>by rw[r.2 _ _ b,u.2 _ _ e2,run_sliceAt_string w' _ _ _ _ _ hu,run_slice_string w' t ⟨⟨s⟩⟩ k N l m hu h0 h1 h2]
  ·exact anA
 ·exact anA
theorem wY:∀(cs l:List PV) (off j:Nat),off+cs.length<=l.length->(fJ l off cs)[j]? =if off<=j/\j<off+cs.length then cs[j - off]? else l[j]?
 | [],l,off,j,_=>by
  simp only[fJ,akD,alz];rw[mg aol]
 | c::r,l,off,j,hl=>by
  simp only[fJ,akz]at hl ⊢;rw[wY r (l.set off c) (off+1) j aoq];by_cases h1:j=off
  ·subst h1;rw[mg aol,an aol,alK,alr aol];rfl
  ·rw[akQ aol];by_cases h2:off+1<=j/\j<off+1+r.length
   ·rw[an h2,an aol];have:j - off=(j - (off+1))+1:=by omega
    rw[this,aln]
   ·rw[mg h2,mg aol]
theorem sU:∀(cs l:List PV) (off:Nat),(fJ l off cs).length=l.length
 | [],_,_=>rfl
 | c::r,l,off=>by simp only[fJ];rw[sU r];simp
theorem bN.no {pv:PV} {v:Value} (h:bN S w pv v):fI pv=false:=by cases h<;>rfl
theorem Tc {c:PV} (h:rM c=true):fI c=false:=by cases c<;>first | rfl | cases h
theorem RJ {v:PV} (h:storable v=true) {j:Nat} {pv:PV} (hj:(cellsOf v)[j]? =some pv):fI pv=false:=by
 have hm:=akF hj;cases v with
 | agg cs=>exact Tc (akA.1 h pv hm)
 | _=>exact Tc (by rw[ali.1 hm];exact h)
theorem sW {pv:PV} {v:Value} (hs:storable pv=true) (hv:da μ h S w pv v):
  v.cells.toList.length=(cellsOf pv).length/\∀(j:Nat) (p:PV),(cellsOf pv)[j]? =some p->∃u,v.cells.toList[j]? =some u/\dA μ h S w p u:=by
 have one:∀(hc:dA μ h S w pv v),cellsOf pv=[pv]->v.cells.toList.length=(cellsOf pv).length/\∀(j:Nat) (p:PV),(cellsOf pv)[j]? =some p->∃u,v.cells.toList[j]? =some u/\dA μ h S w p u:=by
  intro hc he;have h1:=hc.one;have h2:v.cells=#[v]:=by cases v<;>first | rfl | cases h1
  rw[h2,he];refine⟨rfl,λj p hj=>?_⟩;cases j with
  | zero=>
   simp at hj;subst hj;exact⟨v,rfl,hc⟩
  | succ j=>simp at hj
 cases pv with
 | agg cs=>
  obtain⟨vs,rfl,h2,h3⟩:=hv;refine⟨by simpa[Value.cells,cellsOf]using h2,λj p hj=>?_⟩;obtain⟨u,hu,a⟩:=h3 j p hj;exact⟨u,by simpa[Value.cells]using hu,a⟩
 | kc vs=>cases hs
 | aX sz n e f F=>cases hs
 | mj=>cases hs
 | pZ id=>exact one hv rfl
 | vg f dp=>exact one hv rfl
 | int k n=>exact one hv rfl
 | bool b=>exact one hv rfl
 | str s=>exact one hv rfl
 | bn=>exact one hv rfl
 | lJ=>exact one hv rfl
 | jk sz n f=>exact one hv rfl
 | iV cs=>exact one hv rfl
 | own id gen off len=>exact one hv rfl
 | bc id gen i off=>exact one hv rfl
 | fn f=>exact one hv rfl
theorem KG:∀(l:List Value) (s off:Nat) (cs:Array Value),off+s+l.length<=cs.size->
  ((l.zipIdx s).foldl (λ(cs:Array Value) (p:Value×Nat)=>cs.setIfInBounds (off+p.2) p.1) cs).size=cs.size/\
  ∀q,((l.zipIdx s).foldl (λ(cs:Array Value) (p:Value×Nat)=>cs.setIfInBounds (off+p.2) p.1) cs)[q]? =if off+s<=q/\q<off+s+l.length then l[q - (off+s)]? else cs[q]?
 | [],s,off,cs,_=>by
  refine⟨rfl,λq=>?_⟩;simp only[List.zipIdx_nil,List.foldl_nil,akD,alz];rw[mg aol]
 | v::r,s,off,cs,hl=>by
  simp only[akz]at hl;obtain⟨h1,h2⟩:=KG r (s+1) off (cs.setIfInBounds (off+s) v) aoq;simp only[List.zipIdx_cons,List.foldl_cons,akz];refine⟨by rw[h1];simp,λq=>?_⟩;rw[h2 q];by_cases hq:q=off+s
  ·subst hq;rw[mg aol,an aol,alK];simp [Array.getElem?_setIfInBounds,show off+s<cs.size from by omega]
  ·by_cases a:off+(s+1)<=q/\q<off+(s+1)+r.length
   ·rw[an a,an aol];have:q - (off+s)=(q - (off+(s+1)))+1:=by omega
    rw[this,aln]
   ·rw[mg a,mg aol,amq aol]
theorem zj (v:Value) (off:Nat) (cs:Array Value) (hl:off+v.cells.size<=cs.size):
  (v.cells.zipIdx.foldl (λ(cs:Array Value) (p:Value×Nat)=>cs.setIfInBounds (off+p.2) p.1) cs).size=cs.size/\
  ∀q,(v.cells.zipIdx.foldl (λ(cs:Array Value) (p:Value×Nat)=>cs.setIfInBounds (off+p.2) p.1) cs)[q]? =if off<=q/\q<off+v.cells.size then v.cells[q - off]? else cs[q]?:=by
 have h:=KG v.cells.toList 0 off cs (by simpa using hl);rw[<-Array.foldl_toList];simp only[Array.toList_zipIdx,alz,als,akR]at h ⊢;exact h
theorem RK {l:List PV} (a:isByte l=true):∃v,l=[.int .u8 v]:=by
 unfold isByte at a;split at a
 ·exact⟨_,rfl⟩
 ·cases a
theorem H2 {g:Nat->List PV} {s:List UInt8} {n:Nat} (hl:s.length=n) (hf:∀i,i<n->g i=[.int .u8 (s.getD i 0).toNat]):(∀i,i<n->isByte (g i)=true)/\(List.range n).map (λi=>byteOf (g i))=s:=by
 refine⟨λi hi=>by rw[hf i hi];rfl,?_⟩;apply amD (by simp [hl]);intro i h1 h2;simp only[alC,List.length_range]at h1;rw[List.getElem_map,List.getElem_range,hf i h1];simp [byteOf,akv,Is h2]
theorem J9 (A:fH P T) (M:dT μ h S w) (N:∀t,da μ h S w (env t) (a.tmps.getD t undef)) (s d:Nat) (x:Operand) (hp:dN T (.convert s d x) env h K):
  fF P ⟨dst,.convert s d x,ty,pos,after,guard⟩ a μ h S w K:=by
 have y:=dF N x;unfold dN at hp;simp only at hp;split at hp
 ·rename_i k0 k k1 n hs hd hex;rw[hex]at y
  exact .mk hp (bN.int _ _) λw' _=>eT rfl (by
   rw[y.p7];simp [convert,run_underlying (A.int _ _ hs),run_underlying (A.int _ _ hd),Conv.intToInt])
 ·rename_i e sz bt z hs hd;split at hp
  ·rename_i F;have hu:=(A.slice _ _ _ _ _ hs).1;have l:=A.int _ _ F;have m:=A.str _ hd
   have key:∀(b off c n:Nat) (g:Nat->List PV),a.eval x=.slice (some ⟨b,off,none⟩) n c->(∀i,i<n->isByte (g i)=true)->K (.str ((List.range n).map λi=>byteOf (g i)))->
     (∀i v,i<n->g i=[.int .u8 v]->w.cell? ⟨b,off+i,none⟩=some (.int .u8 v))->fF P ⟨dst,.convert s d x,ty,pos,after,guard⟩ a μ h S w K:=by
    intro b off c n g ex B j C;have num:∀i,i<n->∃v,g i=[.int .u8 v]:=λi hi=>RK (B i hi)
    let val:Nat->Int:=λi=>match g i with | [.int _ v]=>v | _=>0
    have J:∀i,i<n->g i=[.int .u8 (val i)]:=λi hi=>by
     obtain⟨v,hv⟩:=num i hi;simp only[val,hv]
    refine .mk j (bN.str _) λw' O=>eT rfl ?_;rw[ex,run_convert_bytes_arg w' s e hu l b off n c ((List.range n).map val) aon (λi hi=>?_) d m]
    ·congr 2;simp only[strOfNums]
     have:((List.range n).map val).map (λq=>UInt8.ofNat q.toNat)=(List.range n).map λi=>byteOf (g i):=by
      rw[List.map_map];apply List.map_congr_left;intro i hi;rw[J i (amk.1 hi)];rfl
     rw[this]
    ·rw[O.cell (C i _ hi (J i hi))];simp [akv,hi]
   unfold Cb at hp;split at hp
   ·rename_i hex;rw[hex]at y;refine .mk hp (bN.str _) λw' _=>eT rfl ?_;rw[y.wh,run_convert_bytes_nil w' s e hu l 0 0 d m];rfl
   ·rename_i Q n f hex;rw[hex]at y;replace hp:=cO hp;obtain⟨h1,G,D,E,j⟩:=hp;obtain⟨B,o⟩:=H2 D E;replace j:K (.str G):=j;rw[<-o]at j;clear D E o;obtain rfl:=abF h1;rcases y.AR with⟨R,c,ex,rfl⟩ | ⟨b,off,c,U,ex,hS,hl,hc,C,V⟩
    ·cases R with
     | none=>
      refine .mk j (bN.str _) λw' _=>eT rfl ?_;rw[ex,run_convert_bytes_nil w' s e hu l 0 c d m];rfl
     | some H=>
      refine .mk j (bN.str _) λw' _=>eT rfl ?_;rw[ex,run_convert_bytes_string w' s d e _ 0 c hu l m,run_bytesToString w' H 0 c [] (by simp [loadCells,loadCellsFrom])];rfl
    ·refine key b off c n f ex B j λi v hi hv=>?_;have q1:=C i 0 (.int .u8 v) hi (by rw[hv];rfl);have q2:=V i 0 (.int .u8 v) hi (by rw[hv];rfl);rw[Nat.mul_one,alz]at q1;rw[q1];generalize U i 0=u at q2;cases q2;rfl
   ·rename_i id gen off n hex;rw[hex]at y;split at hp
    ·rename_i g Q W L f X;obtain⟨rfl,hp⟩:=hp;replace hp:=cO hp;obtain⟨h1,G,D,E,j⟩:=hp;obtain⟨B,o⟩:=H2 (g:=λi=>f (off+i)) D E;replace j:K (.str G):=j;rw[<-o]at j;clear D E o;obtain rfl:=abF h1;have hh:=gn X;have r:=y.vj;unfold cK at r;rw[hh]at r;obtain⟨⟨a0,l0,c0,e0⟩,_,r⟩:=r;obtain⟨rN,r⟩:=r rfl;obtain⟨hl,hc⟩:=M id g 1 W L f hh;cases hm:μ id with
     | none=>
      rw[hm]at r hc;have I:n=0:=by omega
      subst I;refine .mk j (bN.str _) λw' _=>eT rfl ?_;rw[show a.eval x=.slice none 0 0 from r,run_convert_bytes_nil w' s e hu l 0 0 d m];rfl
     | some p=>
      obtain⟨b,base⟩:=p;rw[hm]at r hc;obtain⟨H,cap,ex,iK,Y,Z⟩:=r;obtain⟨cur,rU,Be,C⟩:=dT.cells Z hc;rcases alp n with h0 | h0
      ·subst h0;refine .mk j (bN.str _) λw' _=>eT rfl ?_;rw[ex,run_convert_bytes_string w' s d e _ 0 cap hu l m,run_bytesToString w' H 0 cap [] (by simp [loadCells,loadCellsFrom])];rfl
      ·rw[Y aol,Nat.mul_one]at ex;refine key b (base+off) cap n (λi=>f (off+i)) ex B j λi v hi hv=>?_;obtain⟨u,q1,q2⟩:=C (off+i) 0 (.int .u8 v) aol (by rw[hv];rfl);have q2:bN S w (.int .u8 v) u:=q2;cases q2;rw[cell_of_row w b (base+off+i) cur L (0,0) rU,<-q1];congr 1;omega
    ·exact anA
   ·exact anA
  ·exact anA
 ·exact anA
theorem H3 (j:∀t,da μ h S w (env t) (a.tmps.getD t undef)) (x:Operand) (hp:dN T (.nilCheck x) env h K):
  fF P ⟨dst,.nilCheck x,ty,pos,after,guard⟩ a μ h S w K:=by
 have c:=dF j x;unfold dN at hp;simp only at hp;split at hp
 ·rename_i cs hex;rw[hex]at c;obtain⟨b,off,l,ex,_⟩:=c.Dh;exact .mk hp c λw' _=>by simp [execOp,ex]
 ·rename_i id gen i off hex;rw[hex]at c;split at hp
  ·rename_i g sz n e f k;obtain⟨rfl,hp⟩:=hp;have hh:=gn k;have d:=c.Ah;unfold dE at d;rw[hh]at d;obtain⟨_,_,d⟩:=d;obtain⟨m,b,base,o,p,hv⟩:=d rfl;exact .mk hp c λw' _=>by simp [execOp,hv]
  ·exact anA
 ·exact anA
theorem Fb (c:fH P T) {s sz k o size:Nat} {fl:List (Nat×Nat×Bool)} {z:List PV} {a:Bool} (e:T.get s=.struct sz fl z) (g:fl[k]? =some (o,size,a)) (b off:Nat) (w':World):
  (Instr.fieldAt s (.pointer (some ⟨b,off,none⟩)) k).run P w'=.ok (.pointer (some ⟨b,off+o,none⟩)) w':=by
 obtain⟨fs,i,hu,hi,h,l,_,hf⟩:=c.struct _ _ _ _ e;obtain⟨f,j,d,h1,h2,h3,h4,h5,h6,h7⟩:=hf k o size a g;have h0:¬j.size=0:=by omega
 simp [Instr.fieldAt,run_underlying hu,h1,Instr.sureAddr,fieldPlace,qZ h3,h0,Addr.add_lit,h2]
theorem Ga (l:fH P T) (q:∀t,da μ h S w (env t) (a.tmps.getD t undef)) (s:Nat) (x:Operand) (k:Nat) (hp:dN T (.fieldAddr s x k) env h K):
  fF P ⟨dst,.fieldAddr s x k,ty,pos,after,guard⟩ a μ h S w K:=by
 have d:=dF q x;unfold dN at hp;simp only at hp;split at hp
 ·rename_i sz fl z m;split at hp
  ·rename_i o size E p;split at hp
   ·rename_i cs hex;rw[hex]at d;obtain⟨b,off,r,ex,u,v,y⟩:=d.Dh;refine .mk hp (bN.iV (cs.drop o) b (off+o) (λj=>r (o+j)) u (λj pv hj=>?_) (λj pv hj=>?_)) λw' _=>eT rfl (by rw[ex];exact Fb l m p b off w')
    ·rw[alU]at hj;rw[Nat.add_assoc];exact v _ _ hj
    ·rw[alU]at hj;exact y _ _ hj
   ·rename_i id gen i off hex;rw[hex]at d;split at hp
    ·rename_i g F n e f A;obtain⟨rfl,hp⟩:=hp;have hh:=gn A;have c:=d.Ah;unfold dE at c;rw[hh]at c;obtain⟨_,_,c⟩:=c;obtain⟨B,b,base,C,D,hv⟩:=c rfl;refine .mk hp ?_ λw' _=>eT rfl (by rw[hv];exact Fb l m p b _ w');show dE _ _ _ _ _ _ _ _;unfold dE;rw[hh];exact⟨⟨_,rfl⟩,No _,λ_=>⟨B,b,base,C,D,by simp only[Nat.add_assoc]⟩⟩
    ·exact anA
   ·exact anA
  ·exact anA
 ·exact anA
theorem Dp (i:∀t,da μ h S w (env t) (a.tmps.getD t undef)) (sz:Nat) (fl:List (Nat×Nat×Bool)) (place:Nat->Option (Nat×Nat)) (b:∀(k o size:Nat) (e:Bool),fl[k]? =some (o,size,e)->place k=some (o,size)) {K:List PV->Prop}:
  ∀(l:List (Nat×Operand)) (acc:List PV) (cells:Array Value),wj env sz fl K l acc->cells.size=sz->acc.length=sz->(∀(j:Nat) (pv:PV),acc[j]? =some pv->∃u,cells[j]? =some u/\dA μ h S w pv u)->
  ∃c d,K c/\Instr.fill place cells (l.map λp=>(p.1,a.eval p.2))=some d/\d.size=sz/\c.length=sz/\∀(j:Nat) (pv:PV),c[j]? =some pv->∃u,d[j]? =some u/\dA μ h S w pv u
 | [],acc,cells,hp,hs,hl,f=>⟨acc,cells,hp,rfl,hs,hl,f⟩
 | (k,x)::r,acc,cells,hp,hs,hl,f=>by
  unfold wj at hp;split at hp
  ·rename_i o size e q;replace hp:=cO (dG hp);obtain⟨m,hp⟩:=hp;simp only[An]at m;obtain⟨⟨s,hlen⟩,n⟩:=m;have hlen:=abF hlen;have n:=akS n;obtain⟨h3,h4⟩:=sW s (dF i x);simp only[als,akR]at h3 h4;have g:(a.eval x).cells.size=size:=h3.trans hlen;obtain⟨v,g2⟩:=zj (a.eval x) o cells aol
   obtain⟨c,d,q1,q2,q3⟩:=Dp i sz fl place b r (fJ acc o (cellsOf (ev env x))) ((a.eval x).cells.zipIdx.foldl (λ(cs:Array Value) (p:Value×Nat)=>cs.setIfInBounds (o+p.2) p.1) cells) hp (v.trans hs) (by rw[sU];exact hl)
    (λj pv hj=>by
     rw[wY _ _ _ _ aol]at hj;rw[g2 j];by_cases hc:o<=j/\j<o+size
     ·rw[an aol]at hj;rw[an aol];exact h4 _ _ hj
     ·rw[mg aol]at hj;rw[mg aol];exact f j pv hj)
   refine⟨c,d,q1,?_,q3⟩;simp only[akB,Instr.fill,b k o size e q];rw[mg (by simp only[g,ne_eq,not_true_eq_false,false_or];simp only[alw,akO,not_or];simp;omega)];exact q2
  ·exact anA
theorem KH:∀(fs:List Field) (n:Nat) (fl:List (Nat×Nat×Bool)),fl.length=fs.length->
  (∀(k o size:Nat) (a:Bool),fl[k]? =some (o,size,a)->∃f j,fs[k]? =some f/\f.offset=o/\P.info? f.type=some j/\j.size=size)->
  fs.mapM (λf=>(P.info? f.type).map λi=>(f.offset,i.size))=some (fl.map λq=>(q.1,q.2.1))
 | [],n,[],_,_=>rfl
 | f::fs,n,(o,size,a)::fl,hl,hf=>by
  obtain⟨d,j,h1,h2,h3,h4⟩:=hf 0 o size a rfl;simp at h1;subst h1
  have b:=KH fs n fl (by simpa using hl) (λk o size a c=>by
   obtain⟨f,j,q⟩:=hf (k+1) o size a (by simpa using c);exact⟨f,j,by simpa using q⟩)
  simp only[List.mapM_cons,akB,h3,Option.map_some,Option.bind_eq_bind,amE,b,h2,h4];rfl
theorem O1 (m:fH P T) (n:∀t,da μ h S w (env t) (a.tmps.getD t undef)) (t:Nat) (parts:Array (Nat×Operand)) (hp:dN T (.build t parts) env h K):
  fF P ⟨dst,.build t parts,ty,pos,after,guard⟩ a μ h S w K:=by
 unfold dN at hp;simp only at hp;split at hp
 ·rename_i sz fl z r;obtain⟨fs,i,hu,hi,B,s,⟨zv,u,v,x,y⟩,hf⟩:=m.struct _ _ _ _ r
  have b:=KH (P:=P) fs.toList 0 fl (by simpa using s) (λk o size e c=>by
   obtain⟨f,j,d,h1,h2,h3,h4,_⟩:=hf k o size e c;exact⟨f,j,by simpa using h1,h2,h3,h4⟩)
  obtain⟨C,g,q1,q2,q3,q4,A⟩:=Dp (a:=a) (μ:=μ) (h:=h) (S:=S) (w:=w) n sz fl ((fl.map λq=>(q.1,q.2.1)).toArray[·]?) (λk o size e c=>by simp [c]) parts.toList z zv.cells hp v x (λj pv hj=>by
   have l:j<zv.cells.size:=by
    have:=(As.1 hj).1;omega
   obtain⟨D,h5,_,h6⟩:=y j zv.cells[j] (akV l);rw[hj]at h5;injection h5 with h5;subst h5;exact⟨_,akV l,dA.pP (h6 S w)⟩)
  refine .mk q1 ⟨g,rfl,by omega,A⟩ λw' _=>eT rfl (run_build w' t _ g ?_);unfold Program.built;simp only[hi,hu,u,b];have:(parts.map λp=>(p.1,a.eval p.2)).toList=parts.toList.map λp=>(p.1,a.eval p.2):=by simp
  rw[this];exact q2
 ·exact anA
theorem O2 {P:Program} {t:TypeId} {d:TypeDesc} {j:TypeInfo} (hu:P.underlying t=some d) (hi:P.info? t=some j) (cs:Array Value) (off:Nat) (w:World):
  (part t cs off).run P w=if HR d then .ok (.agg (cs.extract off (off+j.size))) w else match cs[off]? with | some v=>.ok v w | none=>(part t cs off).run P w:=by
 cases hd:HR d with
 | true=>simp [part,Di hu,hd,qZ hi]
 | false=>
  simp only[alN,alf];cases hc:cs[off]? with
  | none=>rfl
  | some v=>simp [part,Di hu,hd,hc]
theorem O3 (n:fH P T) (p:∀t,da μ h S w (env t) (a.tmps.getD t undef)) (s:Nat) (x:Operand) (k:Nat) (hp:dN T (.field s x k) env h K):
  fF P ⟨dst,.field s x k,ty,pos,after,guard⟩ a μ h S w K:=by
 have g:=dF p x;unfold dN at hp;simp only at hp;split at hp
 ·rename_i sz fl z y;split at hp
  ·rename_i o size A B;split at hp
   ·rename_i cs hex;rw[hex]at g;obtain⟨vs,ex,D,hv⟩:=g;obtain⟨fs,i,hu,hi,E,F,_,hf⟩:=n.struct _ _ _ _ y;obtain⟨f,j,d,h1,h2,h3,h4,h5,h6,h7⟩:=hf k o size A B
    have l:∀w' v,(part f.type vs f.offset).run P w'=.ok v w'->(execOp a.eval ⟨dst,.field s x k,ty,pos,after,guard⟩).run P w'=.ok (.value v) w':=λw' v C=>eT rfl (by
     rw[ex];simp [Instr.field,run_underlying hu,h1,C,asAgg])
    split at hp
    ·obtain⟨hle,m⟩:=wi _ _ _ hp;simp only[amA,alD,amF]at m hle;refine .mk m (val:=.agg (vs.extract o (o+size))) ⟨_,rfl,by simp;omega,λq pv hq=>?_⟩ λw' _=>l w' _ (by rw[O2 h6 h3,<-h7,an rfl,h2,h4]);rw[amh]at hq;split at hq
     ·rename_i G;rw[alU]at hq;obtain⟨u,b,e⟩:=hv _ _ hq;refine⟨u,?_,e⟩;rw[Array.getElem?_extract];have:o+q<vs.size:=(akw.1 b).1;rw[an aol];exact b
     ·cases hq
    ·split at hp
     ·rename_i c r hd
      have h0:cs[o]? =some c:=by
       have:=congrArg (·[0]?) hd;simpa using this
      obtain⟨u,b,e⟩:=hv _ _ h0;exact .mk (dG hp) e.v λw' _=>l w' _ (by rw[O2 h6 h3,<-h7,h2];simp [b])
     ·exact anA
   ·exact anA
  ·exact anA
 ·exact anA
theorem xA.Ur {pv:PV} {v:Value} (hs:oD pv=true) (a:xA pv v):da μ h S w pv v:=by
 have one:∀(pv:PV) (v:Value),Aj pv=true->zi pv v->dA μ h S w pv v:=λpv v hs a=>by
  cases pv<;>first | (cases hs;done) | (have a:v=_:=a;subst a;first | exact bN.int _ _ | exact bN.bool _ | exact bN.str _) | exact a
 cases pv with
 | agg cs=>
  obtain⟨vs,h1,h2,h3⟩:=a;exact⟨vs,h1,h2,λj pv hj=>let⟨u,hu,hc⟩:=h3 j pv hj;⟨u,hu,one pv u (akA.1 hs _ (akF hj)) hc⟩⟩
 | mj=>trivial
 | int k n=>exact one (.int k n) v rfl a
 | bool b=>exact one (.bool b) v rfl a
 | str s=>exact one (.str s) v rfl a
 | _=>cases hs
theorem xA.af9 {pv:PV} {v:Value} (hs:oD pv=true) (a:xA pv v):mh μ h S w pv v:=by
 have:=xA.Ur (μ:=μ) (h:=h) (S:=S) (w:=w) hs a;cases pv with
 | kc _=>cases hs
 | _=>exact this
theorem MC (I:fH P T) (V:dT μ h S w) (J:∀t,da μ h S w (env t) (a.tmps.getD t undef)) (t:Nat) (x i:Operand) (ok:Bool) (hp:dN T (.lookup t x i ok) env h K):
  fF P ⟨dst,.lookup t x i ok,ty,pos,after,guard⟩ a μ h S w K:=by
 have L:=dF J x;have hi:=dF J i;simp only[dN]at hp;split at hp
 ·rename_i kt et zv id W hex;rw[hex]at L;split at hp
  ·rename_i g sz n e f X;replace hp:=cO (dG hp);obtain⟨Y,r,b,hm,M⟩:=hp;obtain⟨hu,inf,z,Z,hz,oA,v,Jt⟩:=I.map _ _ _ _ W;obtain⟨k,base,es,c,ky,ex,u,hn,N⟩:=HU V (gn X) L.MB;obtain⟨q0,h0⟩:=Option.isSome_iff_exists.1 Y;obtain⟨d,s,hd,O,Q⟩:=Ta I hi h0
   have R:∀m,m<=n->KI (T.get kt) f m (ev env i)->∀j,j<m->∀y:MapEntry,es.toList[j]? =some y->Ai P kt d s (a.eval i) y.key false:=λm aa o j hj y hy=>by
    obtain⟨A,vp,h1,h2⟩:=o j hj;obtain⟨B,C,en,h3,_,_,h4,h5,_⟩:=N j aol;rw[h1]at h3;injection h3 with D e2;subst D;have:y=en:=by rw[akR]at hy;exact alb (hy.symm.trans h4)
    subst this;exact Q A y.key false h5 h2
   have run:∃val,xA r val/\oD r=true/\∀w',dV w w'->(Instr.lookup t (.map (some k)) (a.eval i) ok).run P w'=.ok (if ok then .tuple #[val,.bool b]else val) w':=by
    rcases hm with⟨rfl,E,F,o,A,hf,hq⟩ | ⟨rfl,rfl,o⟩
    ·obtain⟨B,C,en,h3,_,h6,h4,h5,h7⟩:=N E F;rw[hf]at h3;injection h3 with D e2;injection e2 with e2 _;subst D e2;refine⟨en.val,h7,h6,λw' l=>?_⟩;have G:w'.heap[k]? =some (.map es c):=(l.blocks k (akw.1 u).1).trans u;have H:=HX (P:=P) (w':=w') hd es.toList E en (R E aol o) (by rw[akR];exact h4) (Q A en.key true h5 hq);simp [Instr.lookup,run_underlying hu,run_getObj_map w' k es c G,O,H]
    ·refine⟨z,oA,v,λw' l=>?_⟩;have G:w'.heap[k]? =some (.map es c):=(l.blocks k (akw.1 u).1).trans u
     have H:=Dm (P:=P) (w':=w') hd es.toList (λj y hy=>R n (No _) o j (by
      have:=(As.1 hy).1;rw[<-hn];simpa using this) y hy)
     simp [Instr.lookup,run_underlying hu,run_getObj_map w' k es c G,O,H,zeroValue,typeInfo,Z,hz]
   obtain⟨val,p,q,U⟩:=run;cases ok with
   | true=>
    refine .mk M ?_ λw' l=>eT rfl (by rw[ex];exact U w' l)
    exact⟨_,rfl,rfl,λj pv hj=>by
     rcases j with _ | _ | j
     ·cases hj;exact⟨_,rfl,p.af9 q⟩
     ·cases hj;exact⟨_,rfl,bN.bool _⟩
     ·simp at hj⟩
   | false=>exact .mk (dG M) (p.Ur q) λw' l=>eT rfl (by rw[ex];exact U w' l)
  ·exact anA
 ·exact anA
theorem H5 {env:Env} {K:List (Nat×Nat)->Prop}:∀(l:List Operand) (acc:List (Nat×Nat)),Ak env K l acc->∃dp,K (acc.reverse++dp)/\dp.length=l.length/\∀(j:Nat) (x:Operand) (p:Nat×Nat),l[j]? =some x->dp[j]? =some p->ev env x=.bc p.1 p.2 0 0
 | [],acc,h=>⟨[],by rw[alv];exact h,rfl,λj x p a=>by simp at a⟩
 | x::r,acc,h=>by
  unfold Ak at h;split at h
  ·rename_i id gen he;obtain⟨dp,h1,h2,h3⟩:=H5 r _ h;refine⟨(id,gen)::dp,by simpa using h1,by simp [h2],λj y p hy hp=>?_⟩;cases j with
   | zero=>simp at hy hp;subst hy;subst hp;exact he
   | succ j=>exact h3 j y p aoV aoN
  ·exact h.elim
theorem H6 (c:∀t,da μ h S w (env t) (a.tmps.getD t undef)) (fn:Fn) (first captured:Array Operand) (hp:dN T (.makeFunc fn first captured) env h K):
  fF P ⟨dst,.makeFunc fn first captured,ty,pos,after,guard⟩ a μ h S w K:=by
 simp only[dN]at hp;split at hp
 ·rename_i f;obtain⟨hf,hp⟩:=cO hp;obtain⟨dp,d,hl,hc⟩:=H5 _ _ hp;have e:first=#[]:=by simpa[Array.isEmpty]using hf
  subst e;refine .mk (val:=.func (.func f) #[] (captured.map a.eval)) (by simpa using d) ?_ λw' i=>by first | rfl | simp [execOp,Instr.makeFunc]
  show uJ μ h w f dp _;refine⟨_,rfl,by simpa using hl.symm,λj p hj=>?_⟩;have g:j<captured.toList.length:=by rw[<-hl];exact(As.1 hj).1
  have b:=Is g;refine⟨a.eval captured.toList[j],by rw[ami,<-akR,b];rfl,?_⟩;have he:=hc j _ p b hj;have hv:=dF c captured.toList[j];rw[he]at hv;exact hv
 ·exact anA
theorem tL (f:fH P T) (j:dT μ h S w) (e:∀t,da μ h S w (env t) (a.tmps.getD t undef)) {op:Op} (hp:dN T op env h K):
  fF P ⟨dst,op,ty,pos,after,guard⟩ a μ h S w K:=by
 cases op with
 | lookup t x i ok=>exact MC f j e t x i ok hp
 | makeFunc fn first captured=>exact H6 e fn first captured hp
 | move x=>exact .mk (dG hp) (dF e x) λ_ _=>rfl
 | assign x=>exact .mk (dG hp) (dF e x) λ_ _=>rfl
 | pick c x y=>
  have hc:=dF e c;simp only[dN]at hp;split at hp
  ·rename_i b hex;rw[hex]at hc;have o:=hc.rX;obtain⟨h1,h2⟩:=pz hp;cases b with
   | true=>exact .mk (dG (h1 rfl)) (dF e x) λw' _=>by simp [execOp,o,asBool]
   | false=>exact .mk (dG (h2 rfl)) (dF e y) λw' _=>by simp [execOp,o,asBool]
  ·exact anA
 | binOp q t x y r=>exact Uk f q t r x y _ _ (dF e x) (dF e y) hp
 | unOp u t x=>
  have g:=dF e x;simp only[dN]at hp;split at hp
  ·rename_i b hex;rw[hex]at g;exact .mk hp (bN.bool _) λw' _=>eT rfl (by rw[g.rX,unary_not];rfl)
  ·rename_i k n hex;rw[hex]at g;exact .mk hp (bN.int _ _) λw' _=>eT rfl (by rw[g.p7,unary_neg];rfl)
  ·exact anA
 | load t x=>exact HY f j t x _ (dF e x) hp
 | convert s d x=>exact J9 f j e s d x hp
 | nilCheck x=>exact H3 e x hp
 | fieldAddr s x k=>exact Ga f e s x k hp
 | build t parts=>exact O1 f e t parts hp
 | field s x k=>exact O3 f e s x k hp
 | indexAddr t x i=>exact OY f j e t x i hp
 | index t x i=>exact HZ f e t x i hp
 | extract x i=>
  have g:=dF e x;simp only[dN]at hp;split at hp
  ·rename_i vs hex;rw[hex]at g;split at hp
   ·rename_i v hv;obtain⟨us,z,e2,A⟩:=g;obtain⟨u,hu,p⟩:=A i v hv
    have l:da μ h S w v u:=by
     cases v with
     | kc ps=>exact(show False from p).elim
     | _=>exact p
    exact .mk (dG hp) l λw' _=>eT rfl (by rw[z];simp [Instr.extract,hu])
   ·exact anA
  ·exact anA
 | slice t x lo hi B=>exact O0 f j e t x lo hi B hp
 | call c=>
  obtain⟨m,args,C⟩:=c;cases m with
  | builtin b=>cases b with
   | len=>exact Un f j e args C hp
   | _=>exact(show False from hp).elim
  | _=>exact(show False from hp).elim
 | _=>exact(show False from hp).elim
end
section
variable {P:Program}{T:vE}{μ:Mu}{h:List au}{S:Nat->Prop}{w w1:World}
def tv (μ:Mu) (id:Nat) (p:Option (Nat×Nat)):Mu:=λj=>if j=id then p else μ j
theorem cG (μ:Mu) (id:Nat) (p:Option (Nat×Nat)):tv μ id p id=p:=by simp [tv]
theorem eg (μ:Mu) {id j:Nat} (p:Option (Nat×Nat)) (hj:j≠id):tv μ id p j=μ j:=by simp [tv,hj]
structure Core (μ:Mu) (h:List au) (S:Nat->Prop) (w:World):Prop where
 heap:dT μ h S w
 ok:yI μ h S w
theorem H7 (hc:Core μ h S w) (id g E sz n r:Nat) (e:TypeId) (f t:Nat->List PV) (hh:h[id]? =some (au.row g sz n e f)) (d I:Nat) (J:Array Value)
  (hg:g<=E) (aa:E=g->μ id=some (d,I)/\r=n)
  (l:w.heap.size<=d\/∃base cur,μ id=some (d,base)/\w.heap[d]? =some (.cells cur e (0,0))/\cur.size=J.size)
  (hw:w1.heap[d]? =some (.cells J e (0,0))) (Be:I+r*sz<=J.size)
  (H:∀b,b<w.heap.size->b≠d->w1.heap[b]? =w.heap[b]?) (zk:w.heap.size<=w1.heap.size) (ad:w1.os=w.os) (O4:w1.tape=w.tape) (RM:w1.output=w.output)
  (hl:∀i,i<r->(t i).length=sz) (Vd:∀b base,μ id=some (b,base)->¬xC w b)
  (cn:∀(i j:Nat) (pv:PV),i<r->(t i)[j]? =some pv->∃v:Value,J[I+i*sz+j]? =some v/\uK μ h S w pv v) (O5:Nat)
  (Al:∀(i j O P:Nat) (K:TypeId) (Q:Nat->List PV) (R:Nat->Prop),i<r->(t i)[j]? =some (.aX O P K Q R)->O5+i<n/\(f (O5+i))[j]? =some (.aX O P K Q R)):
  Fr μ h S w (tv μ id (some (d,I))) (h.set id (.row E sz r e t)) S w1/\Core (tv μ id (some (d,I))) (h.set id (.row E sz r e t)) S w1:=by
 have hid:id<h.length:=(As.1 hh).1;have jy:(h.set id (au.row E sz r e t))[id]? =some (au.row E sz r e t):=by simp [hid]
 have s:∀j,j≠id->(h.set id (au.row E sz r e t))[j]? =h[j]?:=λj hj=>by rw[akQ (alJ hj)]
 have WU:d<w1.heap.size:=(akw.1 hw).1
 have Ao:d<w.heap.size->dX μ h d:=λF=>by
  rcases l with l | ⟨base,cur,hm,_,_⟩
  ·omega
  ·exact .inl ⟨id,g,sz,n,e,f,base,hh,hm⟩
 have L:∀j x y b,fg (h.set id (au.row E sz r e t)) j x y b->fg h j (if j=id then O5+x else x) y b:=λj x y b ⟨u,A,B,C,D,O,P,K,Q,R,q1,q2,q3,q4⟩=>by
  by_cases a:j=id
  ·subst a;rw[jy]at q1;injection q1 with q1;injection q1 with T e2 U V W;subst T e2 U V W;obtain⟨r1,X⟩:=Al x y _ _ _ _ _ q2 q3;rw[an rfl];exact⟨_,_,_,_,_,_,_,_,_,_,hh,r1,X,q4⟩
  ·rw[s j a]at q1;rw[mg a];exact aoe
 have yd:∀j x y b,fg h j x y b->b<w.heap.size/\b≠d:=λj x y b m=>by
  have F:=hc.ok.lt b (.inr ⟨j,x,y,m⟩);refine⟨F,?_⟩;rintro rfl;rcases l with l | ⟨base,cur,hm,_,_⟩
  ·omega
  ·exact hc.ok.hv b ⟨id,g,sz,n,e,f,base,hh,hm⟩ j x y m
 have Y:Fr μ h S w (tv μ id (some (d,I))) (h.set id (.row E sz r e t)) S w1:=by
  refine⟨by simp,λb F xH=>?_,λ_ l=>l,λ_ l=>.inl l,λb Z=>?_,zk,ad,O4,RM,λj u A B C D hj=>?_,λj hj=>?_,λb k D2 iK=>?_,λj u A B C D b base hj hm rO=>?_,λb j x y m rO=>?_⟩;rotate_right
  ·obtain⟨q1,q2⟩:=yd j x y b m;obtain⟨es,c,q⟩:=rO;exact⟨es,c,(H b q1 q2).trans q⟩
  ·by_cases G:b=d
   ·subst G;exact(xH (Ao F)).elim
   ·exact H b F G
  ·rcases Z with⟨j,u,A,B,C,D,tw,hj,hm⟩ | ⟨j,x,y,m⟩;rotate_left
   ·exact .inl (.inr ⟨_,_,_,L j x y b m⟩)
   by_cases a:j=id
   ·subst a;rw[cG]at hm;injection hm with hm;injection hm with h1 h2;subst h1;rcases alm d w.heap.size with F | Td
    ·exact .inl (Ao F)
    ·exact .inr Td
   ·rw[s j a]at hj;rw[eg μ _ a]at hm;exact .inl (.inl ⟨j,u,A,B,C,D,tw,hj,hm⟩)
  ·by_cases a:j=id
   ·subst a;rw[hh]at hj;injection hj with hj;injection hj with T e2 U V W;subst T e2 U V W;rw[jy];refine⟨hg,λhe=>?_⟩;obtain⟨h1,h2⟩:=aa he;exact⟨by rw[cG,h1],rfl,h2,rfl⟩
   ·rw[s j a,hj];exact⟨No _,λ_=>⟨eg μ _ a,rfl,rfl,rfl⟩⟩
  ·have a:j≠id:=by rintro rfl;rw[hh]at hj;cases hj
   rw[s j a];exact hj
  ·by_cases G:b=d
   ·subst G;obtain⟨cur,K,z,q1,q2⟩:=iK;rcases l with l | ⟨base,Gb,hm,sZ,oA⟩
    ·have:=(akw.1 q1).1;omega
    ·rw[sZ]at q1;injection q1 with q1;injection q1 with q1 _ _;subst q1;exact⟨J,e,_,hw,by omega⟩
   ·exact oE.of_same (H b iK.lt G) iK
  ·have a:j≠id:=by rintro rfl;exact Vd b base hm rO
   have G:b≠d:=by
    rintro rfl;obtain⟨es,c,q⟩:=rO;rcases l with l | ⟨uT,Gb,M,sZ,_⟩
    ·have:=(akw.1 q).1;omega
    ·rw[sZ]at q;cases q
   obtain⟨es,c,q⟩:=rO;exact⟨⟨es,c,(H b (akw.1 q).1 G).trans q⟩,.inr ⟨⟨_,_,_,_,_,(s j a).trans hj⟩,by rw[eg μ _ a];exact hm⟩⟩
 refine⟨Y,⟨λj u A B C D hj=>?_,?_⟩⟩
 ·by_cases a:j=id
  ·subst a;rw[jy]at hj;injection hj with hj;injection hj with T e2 U V W;subst T e2 U V W;rw[cG];refine⟨hl,dT.H8 ⟨J,hw,Be,λi k pv hi N=>?_⟩⟩;obtain⟨v,h1,h2⟩:=cn i k pv hi N;refine⟨v,h1,h2.fr Y hc.ok (λO P K Q R he b Z=>?_)⟩;rw[he]at N;obtain⟨r1,X⟩:=Al i k _ _ _ _ _ hi N;obtain⟨q1,q2⟩:=yd j (O5+i) k b ⟨_,_,_,_,_,_,_,_,_,_,hh,r1,X,Z⟩;exact H b q1 q2
  ·rw[s j a]at hj;obtain⟨h1,h2⟩:=hc.heap j u A B C D hj;refine⟨h1,?_⟩;rw[eg μ _ a];cases hm:μ j with
   | none=>rw[hm]at h2;exact h2
   | some p=>
    obtain⟨b,base⟩:=p;rw[hm]at h2;obtain⟨o,q1,q2⟩:=h2;have F:b<w.heap.size:=(akw.1 q1).1
    have G:b≠d:=by
     rintro rfl;rcases l with l | ⟨uT,Gb,M,_⟩
     ·omega
     ·exact a (hc.ok.inj j id _ _ _ _ _ _ _ _ _ _ _ _ _ hj hh hm M)
    exact⟨o,(H b F G).trans q1,q2.mono (λi y pv v hi hy hr=>hr.fr Y hc.ok (λO P K Q R he b' Z=>by
     obtain⟨q1,q2⟩:=yd j i y b' ⟨_,_,_,_,_,_,_,_,_,_,hj,hi,by rw[hy,he],Z⟩;exact H b' q1 q2))⟩
 ·refine⟨λb D2 Te=>?_,λb D2=>?_,λb Te=>akK (hc.ok.slt b Te) zk,?_,hc.ok.Eu Y,λb ag j x y m=>?_,λb j x y j' x' y' m zw=>?_⟩;rotate_right 2
  ·obtain⟨q1,q2⟩:=yd _ _ _ b (L j x y b m);obtain⟨k,gk,ar,nk,ek,fk,O6,N,hm⟩:=ag;by_cases Cc:k=id
   ·subst Cc;rw[cG]at hm;injection hm with hm;injection hm with h1 h2;exact q2 h1.symm
   ·rw[s k Cc]at N;rw[eg μ _ Cc]at hm;exact hc.ok.hv b ⟨k,gk,ar,nk,ek,fk,O6,N,hm⟩ _ _ _ (L j x y b m)
  ·obtain⟨r1,X,r3⟩:=hc.ok.hh b _ _ _ _ _ _ (L j x y b m) (L j' x' y' b zw);subst r1;refine⟨rfl,?_,r3⟩;split at X<;>omega
  ·rcases Y.own b D2 with h1 | h1
   ·exact hc.ok.apart b h1 Te
   ·have:=hc.ok.slt b Te;omega
  ·rcases D2 with⟨j,u,A,B,C,D,tw,hj,hm⟩ | ⟨j,x,y,m⟩;rotate_left
   ·exact akK (hc.ok.lt b (.inr ⟨_,_,_,L j x y b m⟩)) zk
   by_cases a:j=id
   ·subst a;rw[cG]at hm;injection hm with hm;injection hm with h1 h2;subst h1;exact WU
   ·rw[s j a]at hj;rw[eg μ _ a]at hm;exact akK (hc.ok.lt b (.inl ⟨j,u,A,B,C,D,tw,hj,hm⟩)) zk
  ·intro i j gi Us ni ei fi u A B C D b o o' hi hj tm rS;by_cases O7:i=id
   ·by_cases a:j=id
    ·rw[O7,a]
    ·subst O7;rw[cG]at tm;injection tm with tm;injection tm with h1 h2;subst h1;rw[s j a]at hj;rw[eg μ _ a]at rS;rcases l with l | ⟨uT,Gb,M,_⟩
     ·have:=hc.ok.lt _ (.inl ⟨j,u,A,B,C,D,o',hj,rS⟩);omega
     ·exact hc.ok.inj i j _ _ _ _ _ _ _ _ _ _ _ _ _ hh hj M rS
   ·rw[s i O7]at hi;rw[eg μ _ O7]at tm;by_cases a:j=id
    ·subst a;rw[cG]at rS;injection rS with rS;injection rS with h1 h2;subst h1;rcases l with l | ⟨uT,Gb,M,_⟩
     ·have:=hc.ok.lt _ (.inl ⟨i,gi,Us,ni,ei,fi,o,hi,tm⟩);omega
     ·exact hc.ok.inj i j _ _ _ _ _ _ _ _ _ _ _ _ _ hi hh tm M
    ·rw[s j a]at hj;rw[eg μ _ a]at rS;exact anU
theorem KJ (hc:Core μ h S w) (sz n:Nat) (e:TypeId) (f:Nat->List PV) (p:Option (Nat×Nat))
  (hp:match p with
   | none=>n=0
   | some (b,base)=>w.heap.size<=b/\∃o:Obj,w1.heap[b]? =some o/\Cd (dA μ h S w) base sz n e f o)
  (a:dV w w1) (hl:∀i,i<n->(f i).length=sz) (R:∀(i j:Nat) (pv:PV),i<n->(f i)[j]? =some pv->fI pv=false):
  Fr μ h S w (tv μ h.length p) (h++[.row 0 sz n e f]) S w1/\Core (tv μ h.length p) (h++[.row 0 sz n e f]) S w1:=by
 have D:∀j o,h[j]? =some o->(h++[au.row 0 sz n e f])[j]? =some o:=λj o hj=>by
  rw[akW (As.1 hj).1];exact hj
 have W:(h++[au.row 0 sz n e f])[h.length]? =some (au.row 0 sz n e f):=by simp
 have t:∀j o,(h++[au.row 0 sz n e f])[j]? =some o->(h[j]? =some o/\j≠h.length)\/(j=h.length/\o=au.row 0 sz n e f):=λj o hj=>by
  rcases Nat.lt_trichotomy j h.length with u | heq | KF
  ·rw[akW u]at hj;exact .inl ⟨hj,by omega⟩
  ·subst heq;rw[W]at hj;injection hj with hj;exact .inr ⟨rfl,hj.symm⟩
  ·rw[akT aoq]at hj;cases hj
 have T:∀j o,h[j]? =some o->tv μ h.length p j=μ j:=λj o hj=>eg μ _ (by have:=(As.1 hj).1;omega)
 have z:∀j x y b,fg (h++[au.row 0 sz n e f]) j x y b->fg h j x y b:=λj x y b ⟨g,l,m,r,s,X,Y,Z,f',F',q1,q2,q3,q4⟩=>by
  rcases t j _ q1 with⟨h1,h2⟩ | ⟨h1,h2⟩
  ·exact⟨_,_,_,_,_,_,_,_,_,_,h1,q2,q3,q4⟩
  ·injection h2 with E e2 F G H;subst E e2 F G H;have:=R x y _ q2 q3;cases this
 have A:Fr μ h S w (tv μ h.length p) (h++[.row 0 sz n e f]) S w1:=by
  refine⟨by simp,λb u _=>a.blocks b u,λ_ I=>I,λ_ I=>.inl I,λb J=>?_,a.size,a.os,a.tape,a.output,λj g l m r s hj=>?_,λj hj=>D j _ hj,λb k B U=>oE.of_same (a.blocks b U.lt) U,λj g l m r s b base hj hm K=>⟨let⟨es,c,q⟩:=K;⟨es,c,(a.blocks b (akw.1 q).1).trans q⟩,.inr ⟨⟨_,_,_,_,_,D j _ hj⟩,by rw[T j _ hj];exact hm⟩⟩,λb j x y d K=>let⟨es,c,q⟩:=K;⟨es,c,(a.blocks b (akw.1 q).1).trans q⟩⟩
  ·rcases J with⟨j,g,l,m,r,s,L,hj,hm⟩ | ⟨j,x,y,d⟩;rotate_left
   ·exact .inl (.inr ⟨_,_,_,z j x y b d⟩)
   rcases t j _ hj with⟨h1,h2⟩ | ⟨h1,h2⟩
   ·rw[eg μ _ h2]at hm;exact .inl (.inl ⟨j,g,l,m,r,s,L,h1,hm⟩)
   ·subst h1;rw[cG]at hm;subst hm;exact .inr hp.1
  ·rw[D j _ hj];exact⟨No _,λ_=>⟨T j _ hj,rfl,rfl,rfl⟩⟩
 refine⟨A,⟨λj g l m r s hj=>?_,?_⟩⟩
 ·rcases t j _ hj with⟨h1,h2⟩ | ⟨h1,h2⟩
  ·obtain⟨q1,q2⟩:=hc.heap j g l m r s h1;refine⟨q1,?_⟩;rw[eg μ _ h2];cases hm:μ j with
   | none=>rw[hm]at q2;exact q2
   | some M=>
    obtain⟨b,base⟩:=M;rw[hm]at q2;obtain⟨o,r1,N⟩:=q2;have u:b<w.heap.size:=(akw.1 r1).1;exact⟨o,(a.blocks b u).trans r1,N.mono (λi y pv v hi hy O=>O.fr A hc.ok (λX Y Z f' F' he V J=>a.blocks V (hc.ok.lt V (.inr ⟨j,i,y,_,_,_,_,_,_,_,_,_,_,h1,hi,he▸hy,J⟩))))⟩
  ·subst h1;injection h2 with E e2 F G H;subst E e2 F G H;rw[cG];refine⟨hl,?_⟩;cases p with
   | none=>exact hp
   | some M=>
    obtain⟨b,base⟩:=M;obtain⟨_,o,r1,N⟩:=hp;exact⟨o,r1,N.mono (λi y pv v hi hy O=>(O.fr A hc.ok).k (R i y pv hi hy))⟩
 ·refine⟨λb B C=>?_,λb B=>?_,λb C=>akK (hc.ok.slt b C) a.size,?_,hc.ok.Eu A,λb P j x y d=>?_,λb j x y j' x' y' d zw=>hc.ok.hh b _ _ _ _ _ _ (z j x y b d) (z j' x' y' b zw)⟩;rotate_right
  ·have d:=z j x y b d;obtain⟨k,gk,Q,nk,ek,fk,O6,hk,hm⟩:=P;rcases t k _ hk with⟨h1,h2⟩ | ⟨h1,h2⟩
   ·rw[eg μ _ h2]at hm;exact hc.ok.hv b ⟨k,gk,Q,nk,ek,fk,O6,h1,hm⟩ _ _ _ d
   ·subst h1;rw[cG]at hm;subst hm;have:=hc.ok.lt b (.inr ⟨_,_,_,d⟩);have:=hp.1;omega
  ·rcases A.own b B with h1 | h1
   ·exact hc.ok.apart b h1 C
   ·have:=hc.ok.slt b C;omega
  ·rcases B with⟨j,g,l,m,r,s,L,hj,hm⟩ | ⟨j,x,y,d⟩;rotate_left
   ·exact akK (hc.ok.lt b (.inr ⟨_,_,_,z j x y b d⟩)) a.size
   rcases t j _ hj with⟨h1,h2⟩ | ⟨h1,h2⟩
   ·rw[eg μ _ h2]at hm;exact akK (hc.ok.lt b (.inl ⟨j,g,l,m,r,s,L,h1,hm⟩)) a.size
   ·subst h1;rw[cG]at hm;subst hm;obtain⟨_,o,r1,_⟩:=hp;exact(akw.1 r1).1
  ·intro i j gi Us ni ei fi g l m r s b o o' hi hj tm rS;rcases t i _ hi with⟨h1,h2⟩ | ⟨h1,h2⟩
   ·rw[eg μ _ h2]at tm;rcases t j _ hj with⟨h3,h4⟩ | ⟨h3,h4⟩
    ·rw[eg μ _ h4]at rS;exact hc.ok.inj i j _ _ _ _ _ _ _ _ _ _ _ _ _ h1 h3 tm rS
    ·subst h3;rw[cG]at rS;subst rS;have:=hc.ok.lt _ (.inl ⟨i,gi,Us,ni,ei,fi,o,h1,tm⟩);have:=hp.1;omega
   ·subst h1;rw[cG]at tm;rcases t j _ hj with⟨h3,h4⟩ | ⟨h3,h4⟩
    ·rw[eg μ _ h4]at rS;subst tm;have:=hc.ok.lt _ (.inl ⟨j,g,l,m,r,s,o',h3,rS⟩);have:=hp.1;omega
    ·exact h3.symm
theorem wk (hc:Core μ h S w) (sz n:Nat) (e:TypeId) (f:Nat->List PV) (p:Option (Nat×Nat))
  (hp:match p with
   | none=>n=0
   | some (b,base)=>w.heap.size<=b/\∃cur:Array Value,w1.heap[b]? =some (.cells cur e (0,0))/\base+n*sz<=cur.size/\
    ∀(i j:Nat) (pv:PV),i<n->(f i)[j]? =some pv->∃v:Value,cur[base+i*sz+j]? =some v/\dA μ h S w pv v)
  (a:dV w w1) (hl:∀i,i<n->(f i).length=sz) (c:∀(i j:Nat) (pv:PV),i<n->(f i)[j]? =some pv->fI pv=false):
  Fr μ h S w (tv μ h.length p) (h++[.row 0 sz n e f]) S w1/\Core (tv μ h.length p) (h++[.row 0 sz n e f]) S w1:=by
 refine KJ hc sz n e f p ?_ a hl c;cases p with
 | none=>exact hp
 | some q=>exact⟨hp.1,dT.H8 hp.2⟩
theorem oE.MD {b k:Nat} (h:oE w b k):¬xC w b:=by
 rintro⟨es,c,q⟩;obtain⟨cur,e,z,h1,_⟩:=h;rw[h1]at q;cases q
end
theorem rF.refl:∀(l:List PV),rF l l
 | []=>trivial
 | a::l=>⟨.same a,rF.refl l⟩
theorem rF.len:∀{l r:List PV},rF l r->r.length=l.length
 | [],[],_=>rfl
 | a::l,b::r,h=>by simp [rF.len h.2]
 | [],_::_,h=>h.elim
 | _::_,[],h=>h.elim
theorem rF.get:∀{l r:List PV},rF l r->∀{j:Nat} {b:PV},r[j]? =some b->∃a,l[j]? =some a/\Vg a b
 | [],[],_,j,b,hj=>by simp at hj
 | a::l,c::r,h,0,b,hj=>by simp at hj;subst hj;exact⟨a,rfl,h.1⟩
 | a::l,c::r,h,j+1,b,hj=>by
  obtain⟨x,q1,q2⟩:=rF.get h.2 (j:=j) aos;exact⟨x,by simpa using q1,q2⟩
 | [],_::_,h,_,_,_=>h.elim
 | _::_,[],h,_,_,_=>h.elim
theorem rF.aga:∀{l r:List PV},rF l r->∀{j:Nat} {a:PV},l[j]? =some a->∃b,r[j]? =some b/\Vg a b
 | [],[],_,j,b,hj=>by simp at hj
 | a::l,c::r,h,0,b,hj=>by simp at hj;subst hj;exact⟨c,rfl,h.1⟩
 | a::l,c::r,h,j+1,b,hj=>by
  obtain⟨x,q1,q2⟩:=rF.aga h.2 (j:=j) aos;exact⟨x,by simpa using q1,q2⟩
 | [],_::_,h,_,_,_=>h.elim
 | _::_,[],h,_,_,_=>h.elim
theorem Vg.adx {a b:PV} (h:Vg a b) {μ:Mu} {l:List au} {S:Nat->Prop} {w:World} {v:Value} (c:dA μ l S w a v):dA μ l S w b v:=by
 cases h with
 | same=>exact c
 | nil sz f=>
  have c:bN S w .bn v:=c;cases c;exact bN.uW _ _ _ _
 | tn sz e f=>exact dA.one c
def OEq:au->au->Prop
 | .row g sz n e f,.row a b c d h=>g=a/\sz=b/\n=c/\e=d/\∀i,i<n->rF (f i) (h i)
 | .dead,.dead=>True
 | _,_=>False
def gv:List au->List au->Prop
 | [],[]=>True
 | o::l,a::l'=>OEq o a/\gv l l'
 | _,_=>False
theorem gv.len:∀{l l':List au},gv l l'->l.length=l'.length
 | [],[],_=>rfl
 | o::l,a::l',h=>by simp [gv.len h.2]
 | [],_::_,h=>h.elim
 | _::_,[],h=>h.elim
theorem gv.get:∀{l l':List au},gv l l'->∀{j:Nat} {g sz n:Nat} {e:TypeId} {f:Nat->List PV},l[j]? =some (au.row g sz n e f)->∃a,l'[j]? =some (au.row g sz n e a)/\∀i,i<n->rF (f i) (a i)
 | o::l,b::l',h,0,g,sz,n,e,f,hj=>by
  simp at hj;subst hj;cases b with
  | dead=>exact h.1.elim
  | row c d k m a=>
   obtain⟨rfl,rfl,rfl,rfl,hf⟩:=h.1;exact⟨a,rfl,hf⟩
 | o::l,b::l',h,j+1,g,sz,n,e,f,hj=>by
  simp at hj;obtain⟨a,h1,h2⟩:=gv.get h.2 hj;exact⟨a,by simpa using h1,h2⟩
 | [],[],_,_,_,_,_,_,_,hj=>by simp at hj
 | [],_::_,h,_,_,_,_,_,_,_=>h.elim
 | _::_,[],h,_,_,_,_,_,_,_=>h.elim
theorem gv.Ut:∀{l l':List au},gv l l'->∀{j:Nat} {g sz n:Nat} {e:TypeId} {a:Nat->List PV},l'[j]? =some (au.row g sz n e a)->∃f,l[j]? =some (au.row g sz n e f)/\∀i,i<n->rF (f i) (a i)
 | o::l,b::l',h,0,g,sz,n,e,a,hj=>by
  simp at hj;subst hj;cases o with
  | dead=>exact h.1.elim
  | row c d k m f=>
   obtain⟨rfl,rfl,rfl,rfl,hf⟩:=h.1;exact⟨f,rfl,hf⟩
 | o::l,b::l',h,j+1,g,sz,n,e,a,hj=>by
  simp at hj;obtain⟨f,h1,h2⟩:=gv.Ut h.2 hj;exact⟨f,by simpa using h1,h2⟩
 | [],[],_,_,_,_,_,_,_,hj=>by simp at hj
 | [],_::_,h,_,_,_,_,_,_,_=>h.elim
 | _::_,[],h,_,_,_,_,_,_,_=>h.elim
theorem gv.getD:∀{l l':List au},gv l l'->∀{j:Nat},l[j]? =some au.dead->l'[j]? =some au.dead
 | o::l,a::l',h,0,hj=>by
  simp at hj;subst hj;cases a with
  | dead=>rfl
  | row b c d e f=>exact h.1.elim
 | o::l,a::l',h,j+1,hj=>by
  simp at hj;simpa using gv.getD h.2 hj
 | [],[],_,_,hj=>by simp at hj
 | [],_::_,h,_,_=>h.elim
 | _::_,[],h,_,_=>h.elim
theorem gv.ZP {l l':List au} (h:gv l l') {id i j b:Nat} (c:fg l' id i j b):fg l id i j b:=by
 obtain⟨g,sz,n,e,m,o,p,q,f2,r,q1,q2,q3,q4⟩:=c;obtain⟨f,r1,d⟩:=h.Ut q1;obtain⟨a,k,hle⟩:=(d i q2).get q3;cases hle with
 | same=>exact⟨_,_,_,_,_,_,_,_,_,_,r1,q2,k,q4⟩
 | tn=>exact q4.elim
theorem gv.agb {l l':List au} (h:gv l l') {μ:Mu} {b:Nat} (a:H9 μ l' b):H9 μ l b:=by
 obtain⟨id,g,sz,n,e,f,base,h1,h2⟩:=a;obtain⟨c,h3,_⟩:=h.Ut h1;exact⟨id,g,sz,n,e,c,base,h3,h2⟩
theorem gv.Ev {l l':List au} (h:gv l l') {μ:Mu} {b:Nat} (a:dX μ l' b):dX μ l b:=by
 rcases a with a | ⟨id,i,j,a⟩
 ·exact .inl (h.agb a)
 ·exact .inr ⟨id,i,j,h.ZP a⟩
theorem gv.hid {l l':List au} (h:gv l l') {id i j b:Nat} (a:fg l id i j b):fg l' id i j b:=by
 obtain⟨g,sz,n,e,f,k,m,o,f2,p,q1,q2,q3,q4⟩:=a;obtain⟨q,r1,d⟩:=h.get q1;obtain⟨c,hc,hle⟩:=(d i q2).aga q3;cases hle;exact⟨_,_,_,_,_,_,_,_,_,_,r1,q2,hc,q4⟩
theorem gv.owned {l l':List au} (h:gv l l') {μ:Mu} {b:Nat} (a:dX μ l b):dX μ l' b:=by
 rcases a with⟨id,g,sz,n,e,f,base,h1,h2⟩ | ⟨x,y,z,a⟩
 ·obtain⟨c,h3,_⟩:=h.get h1;exact .inl ⟨id,g,sz,n,e,c,base,h3,h2⟩
 ·exact .inr ⟨_,_,_,h.hid a⟩
theorem gv.own {l l':List au} (h:gv l l') {μ:Mu} {w:World} {id gen off len:Nat} {v:Value} (a:cK μ l w id gen off len v):cK μ l' w id gen off len v:=by
 unfold cK at*;refine⟨a.1,?_⟩;have a:=a.2;cases b:l[id]? with
 | none=>rw[b]at a;exact a.elim
 | some o=>
  cases o with
  | dead=>rw[h.getD b];trivial
  | row g sz n e f=>
   obtain⟨c,h1,_⟩:=h.get b;rw[b]at a;rw[h1];exact a
theorem gv.bc {l l':List au} (h:gv l l') {μ:Mu} {id gen i off:Nat} {v:Value} {w:World} (a:dE μ l w id gen i off v):dE μ l' w id gen i off v:=by
 unfold dE at*;refine⟨a.1,?_⟩;have a:=a.2;cases b:l[id]? with
 | none=>rw[b]at a;exact a.elim
 | some o=>
  cases o with
  | dead=>rw[h.getD b];trivial
  | row g sz n e f=>
   obtain⟨c,h1,_⟩:=h.get b;rw[b]at a;rw[h1];exact a
theorem Vg.ZQ {a b:PV} (h:Vg a b) (c:oD a=true):b=a:=by
 cases h with
 | same=>rfl
 | _=>cases c
theorem rF.ZQ {d e:PV} {l:List PV} (h:rF [d,e] l) (h1:oD d=true) (h2:oD e=true):l=[d,e]:=by
 rcases l with _ | ⟨a,_ | ⟨b,_ | ⟨c,l⟩⟩⟩
 ·exact h.elim
 ·exact h.2.elim
 ·rw[h.1.ZQ h1,h.2.1.ZQ h2]
 ·exact h.2.2.elim
theorem gv.pZ {l l':List au} (h:gv l l') {μ:Mu} {w:World} {id:Nat} {v:Value} (a:jq μ l w id v):jq μ l' w id v:=by
 unfold jq at*;refine⟨a.1,?_⟩;have a:=a.2;cases b:l[id]? with
 | none=>rw[b]at a;exact a.elim
 | some o=>
  cases o with
  | dead=>rw[h.getD b];trivial
  | row g sz n e f=>
   obtain⟨c,h1,_⟩:=h.get b;rw[b]at a;rw[h1];exact a
theorem gv.vg {l l':List au} (h:gv l l') {μ:Mu} {w:World} {f:Nat} {dp:List (Nat×Nat)} {v:Value} (a:uJ μ l w f dp v):uJ μ l' w f dp v:=zx.mono a (λid g u hu=>h.bc hu)
theorem gv.adx {l l':List au} (h:gv l l') {μ:Mu} {S:Nat->Prop} {w:World} {pv:PV} {v:Value} (a:dA μ l S w pv v):dA μ l' S w pv v:=by
 cases pv with
 | own id gen off len=>exact h.own a
 | bc id gen i off=>exact h.bc a
 | pZ id=>exact h.pZ a
 | vg f dp=>exact h.vg a
 | _=>exact a
theorem gv.ady {l l':List au} (h:gv l l') {μ:Mu} {S:Nat->Prop} {w:World} {pv:PV} {v:Value} (a:uK μ l S w pv v):uK μ l' S w pv v:=by
 cases pv with
 | aX sz n e f F=>exact a
 | _=>exact dA.k (h.adx (uK.c a)) rfl
theorem Vg.ady {a b:PV} (h:Vg a b) {μ:Mu} {l:List au} {S:Nat->Prop} {w:World} {v:Value} (c:uK μ l S w a v):uK μ l S w b v:=by
 cases h with
 | same=>exact c
 | nil sz f=>
  have c:bN S w .bn v:=c;cases c;exact bN.uW _ _ _ _
 | tn sz e f=>
  have c:bN S w .bn v:=c;cases c;exact rz.nil _ _ _ _ (λ_ h=>h)
theorem gv.Ur {l l':List au} (h:gv l l') {μ:Mu} {S:Nat->Prop} {w:World} {pv:PV} {v:Value} (a:mh μ l S w pv v):mh μ l' S w pv v:=by
 cases pv with
 | own id gen off len=>exact h.own a
 | bc id gen i off=>exact h.bc a
 | pZ id=>exact h.pZ a
 | vg f dp=>exact h.vg a
 | agg cs=>
  obtain⟨vs,h1,h2,h3⟩:=a;exact⟨vs,h1,h2,λj pv hj=>by obtain⟨u,hu,hc⟩:=h3 j pv hj;exact⟨u,hu,h.adx hc⟩⟩
 | _=>exact a
theorem gv.refl:∀(l:List au),gv l l
 | []=>trivial
 | .row g sz n e f::l=>⟨⟨rfl,rfl,rfl,rfl,λ_ _=>rF.refl _⟩,gv.refl l⟩
 | .dead::l=>⟨trivial,gv.refl l⟩
theorem gv.set:∀(l:List au) (id g sz n:Nat) (e:TypeId) (f a:Nat->List PV),(∀i,i<n->rF (f i) (a i))->gv (l.set id (.row g sz n e f)) (l.set id (.row g sz n e a))
 | [],_,_,_,_,_,_,_,_=>trivial
 | o::l,0,g,sz,n,e,f,a,hf=>⟨⟨rfl,rfl,rfl,rfl,hf⟩,gv.refl l⟩
 | o::l,id+1,g,sz,n,e,f,a,hf=>⟨by cases o;exact⟨rfl,rfl,rfl,rfl,λ_ _=>rF.refl _⟩;exact trivial,gv.set l id g sz n e f a hf⟩
theorem gv.snoc:∀(l:List au) (g sz n:Nat) (e:TypeId) (f a:Nat->List PV),(∀i,i<n->rF (f i) (a i))->gv (l++[.row g sz n e f]) (l++[.row g sz n e a])
 | [],g,sz,n,e,f,a,hf=>⟨⟨rfl,rfl,rfl,rfl,hf⟩,trivial⟩
 | o::l,g,sz,n,e,f,a,hf=>⟨by cases o;exact⟨rfl,rfl,rfl,rfl,λ_ _=>rF.refl _⟩;exact trivial,gv.snoc l g sz n e f a hf⟩
theorem gv.ajp {l l':List au} (h:gv l l') {μ:Mu} {S:Nat->Prop} {w:World} {pv:PV} {v:Value} (a:da μ l S w pv v):da μ l' S w pv v:=by
 cases pv with
 | kc ps=>
  obtain⟨vs,h1,h2,h3⟩:=a;exact⟨vs,h1,h2,λj pv hj=>by obtain⟨u,hu,hc⟩:=h3 j pv hj;exact⟨u,hu,h.Ur hc⟩⟩
 | own id gen off len=>exact h.own a
 | bc id gen i off=>exact h.bc a
 | pZ id=>exact h.pZ a
 | vg f dp=>exact h.vg a
 | agg cs=>exact h.Ur (pv:=.agg cs) a
 | _=>exact a
theorem gv.core {l l':List au} (he:gv l l') {μ:Mu} {S:Nat->Prop} {w:World} (hc:Core μ l S w):Core μ l' S w:=by
 refine⟨λid g sz n e f hid=>?_,⟨λb h=>hc.ok.apart b (he.Ev h),λb h=>hc.ok.lt b (he.Ev h),hc.ok.slt,λi j g sz n e f x y A r s b o B hi hj h1 h3=>?_,hc.ok.known,λb h id i j k=>hc.ok.hv b (he.agb h) id i j (he.ZP k),λb _ _ _ _ _ _ k hy=>hc.ok.hh b _ _ _ _ _ _ (he.ZP k) (he.ZP hy)⟩⟩
 ·obtain⟨s,h1,h3⟩:=he.Ut hid;obtain⟨q1,q2⟩:=hc.heap id g sz n e s h1;refine⟨λi hi=>by rw[(h3 i hi).len];exact q1 i hi,?_⟩;cases hm:μ id with
  | none=>rw[hm]at q2;exact q2
  | some p=>
   obtain⟨b,base⟩:=p;rw[hm]at q2;obtain⟨o,r1,d⟩:=q2;refine⟨o,r1,?_⟩;cases o with
   | cells cur r z=>
    obtain⟨d,m,C,D⟩:=d;refine⟨d,m,C,λi j pv hi hj=>?_⟩;obtain⟨a,E,hle⟩:=(h3 i hi).get hj;obtain⟨v,hv,q⟩:=D i j a hi E;exact⟨v,hv,he.ady (hle.ady q)⟩
   | map es c=>
    obtain⟨d,m⟩:=d;refine⟨d,λi hi=>?_⟩;obtain⟨F,G,en,H,t,u,I⟩:=m i hi;have hle:=h3 i hi;rw[H]at hle;exact⟨F,G,en,hle.ZQ t u,t,u,I⟩
   | _=>exact d.elim
 ·obtain⟨J,q1,_⟩:=he.Ut hi;obtain⟨K,q2,_⟩:=he.Ut hj;exact hc.ok.inj i j g sz n e J x y A r K b o B q1 q2 h1 h3
theorem gv.fr {l l':List au} (he:gv l l') {μ0 μ:Mu} {h0:List au} {S0 S:Nat->Prop} {h w:World} (a:Fr μ0 h0 S0 h μ l S w):Fr μ0 h0 S0 h μ l' S w:=by
 refine⟨by rw[<-he.len];exact a.len,a.blocks,a.sub,a.new,λb i=>a.own b (he.Ev i),a.size,a.os,a.tape,a.output,λid g sz n e f hid=>?_,λid hid=>he.getD (a.dead id hid),a.dp,λid g sz n e f b base hj hm j=>?_,a.Bs⟩;rotate_left
 ·obtain⟨r1,c⟩:=a.maps id g sz n e f b base hj hm j;refine⟨r1,?_⟩;rcases c with c | ⟨⟨k,m,p,q,r,c⟩,s⟩
  ·exact .inl (he.getD c)
  ·obtain⟨f2,h1,_⟩:=he.get c;exact .inr ⟨⟨_,_,_,_,_,h1⟩,s⟩
 have hg:=a.Ia id g sz n e f hid;cases d:l[id]? with
 | none=>rw[d]at hg;exact hg.elim
 | some o=>
  cases o with
  | dead=>rw[he.getD d];trivial
  | row k m p q r=>
   obtain⟨f2,h1,_⟩:=he.get d;rw[d]at hg;rw[h1];exact hg
section
variable {P:Program}{T:vE}{μ:Mu}{h:List au}{S:Nat->Prop}{w:World}
def jr (P:Program) (o:Oper) (a:Act) (μ:Mu) (h:List au) (S:Nat->Prop) (w:World) (K:PV->List au->Prop):Prop:=
 ∀(next:Act->World->Prop) (Q:Exit->Act->World->Prop),
  (∀v val h' μ' S' w',K v h'->da μ' h' S' w' v val->Core μ' h' S' w'->Fr μ h S w μ' h' S' w'->next (a.put o.dst val) w')->o.wp P a w next Q
theorem jr.rows {o:Oper} {a:Act} {K:PV->List au->Prop} (b:jr P o a μ h S w (λv h1=>∃h2,gv h1 h2/\K v h2)):jr P o a μ h S w K:=by
 intro next Q hn
 refine b next Q λv val h' μ' S' w' ⟨h2,he,c⟩ hv hc hf=>?_
 exact hn v val h2 μ' S' w' c (he.ajp hv) (he.core hc) (he.fr hf)
theorem jr.ye {o:Oper} {a:Act} {K:PV->List au->Prop} (hc:Core μ h S w) (hs:fF P o a μ h S w (λv=>K v h)):jr P o a μ h S w K:=by
 obtain⟨v,val,b,hv,c⟩:=hs;intro next Q hn
 unfold Oper.wp;rw[c w (dV.refl w)];exact hn v val h μ S w b hv hc Fr.refl
theorem jr.lK {o:Oper} {a:Act} {K:PV->List au->Prop} {v:PV} {val:Value} {h':List au} {μ':Mu} {S':Nat->Prop} {w':World} (b:(execOp a.eval o).run P w=.ok (.value val) w') (c:K v h') (hv:da μ' h' S' w' v val)
  (hc:Core μ' h' S' w') (hf:Fr μ h S w μ' h' S' w'):jr P o a μ h S w K:=by
 intro next Q hn
 unfold Oper.wp;rw[b];exact hn v val h' μ' S' w' c hv hc hf
theorem jr.Tf {o:Oper} {a:Act} {K:PV->List au->Prop} {h':List au} {μ':Mu} {S':Nat->Prop} {w':World} (b:(execOp a.eval o).run P w=.ok .skip w') (c:K .mj h')
  (hc:Core μ' h' S' w') (hf:Fr μ h S w μ' h' S' w'):jr P o a μ h S w K:=by
 intro next Q hn
 unfold Oper.wp;rw[b];exact hn .mj undef h' μ' S' w' c trivial hc hf
theorem ZR (b:fH P T) {t:Nat} {n:Nat} (hn:qk (T.get t)=n) (d:0<n):∃i,P.info? t=some i/\i.size=n:=by
 cases a:T.get t with
 | struct sz fl z=>
  obtain⟨fs,i,_,hi,c,_⟩:=b.struct _ _ _ _ a;rw[a]at hn;exact⟨i,hi,c.trans hn⟩
 | other=>rw[a]at hn;simp [qk]at hn;omega
 | _=>
  rw[a]at hn;have h1:n=1:=hn.symm;subst h1;refine b.one t ?_ ?_
  ·rw[a];rfl
  ·intro sz fl z hh;rw[a]at hh;cases hh
variable {a:Act}{env:Env}{K:PV->List au->Prop}{dst:Option Tmp}{ty:TypeId}{pos:String}{after:Array Edge}{guard:Option (Nat×Bool)}
theorem Ce (cur vs:List Value) (o q:Nat) (hl:o+vs.length<=cur.length):
  (cur.take o++vs++cur.drop (o+vs.length))[q]? =if o<=q/\q<o+vs.length then vs[q - o]? else cur[q]?:=by
 have h1:(cur.take o).length=o:=by simp;omega
 by_cases a:q<o
 ·rw[mg aol,alA,akW aol,amh,an a]
 ·by_cases b:q<o+vs.length
  ·rw[an ⟨by omega,b⟩,akW aoq,akN aol,h1]
  ·rw[mg aol,akN aoq,alU];congr 1;simp;omega
theorem O8 (V:fH P T) (hc:Core μ h S w) (G:∀t,da μ h S w (env t) (a.tmps.getD t undef)) (t:Nat) (o x:Operand) (hp:pop P T (.store t o x) env h K):
  jr P ⟨dst,.store t o x,ty,pos,after,guard⟩ a μ h S w K:=by
 have W:=dF G x;have H:=dF G o;simp only[pop]at hp;split at hp
 ·rename_i id gen i off A;rw[A]at H;split at hp
  ·rename_i g sz n e f hg;obtain⟨rfl,hp⟩:=hp;replace hp:=cO (dG hp);obtain⟨I,B⟩:=hp;simp only[An]at I;obtain⟨⟨⟨J,r⟩,m⟩,hle⟩:=I;have r:=akS r;have m:=abF m;have hle:=akS hle;have hh:=gn hg;have d:=H.Ah;unfold dE at d;rw[hh]at d;obtain⟨_,_,d⟩:=d;obtain⟨L,b,base,s,M,C⟩:=d rfl;obtain⟨hl,N⟩:=hc.heap id g sz n e f hh;rw[s]at N;obtain⟨cur,D,Be,O⟩:=dT.cells M.1 N;obtain⟨E,Q⟩:=sW J W;have p:∀(j:Nat) (pv:PV),(cellsOf (ev env x))[j]? =some pv->fI pv=false:=λj pv hj=>RJ J hj;generalize YV:cellsOf (ev env x)=cs at*;generalize q:(a.eval x).cells.toList=vs at*;have r:0<cs.length:=by omega
   obtain⟨inf,X,Y⟩:=ZR V m r;have hmul:(i+1)*sz<=n*sz:=akJ _ L;rw[akH]at hmul
   have R:(storeCells ⟨b,base+i*sz+off,none⟩ vs 0).run P w=.ok () (w.setRow b (cur.toList.take (base+i*sz+off+0)++vs++cur.toList.drop (base+i*sz+off+0+vs.length)).toArray):=
    run_storeCells_at P b (base+i*sz+off) e vs 0 cur w D aol (λv hv=>by
     obtain⟨j,hj,rfl⟩:=alq.1 hv;have Z:j<cs.length:=by omega
     obtain⟨u,hu,d⟩:=Q j cs[j] (Is Z);rw[Is hj]at hu;injection hu with hu;rw[hu];exact d.one)
   rw[alz]at R
   have y:∀k,(bz f i (fJ (f i) off cs) k)=if k=i then fJ (f i) off cs else f k:=λk=>by
    unfold bz;by_cases c:k=i
    ·subst c;simp
    ·have:Nat.beq k i=false:=by
      cases hb:Nat.beq k i with
      | true=>exact(c (abF hb)).elim
      | false=>rfl
     simp [this,c]
   have uq:=H7 (w1:=w.setRow b (cur.toList.take (base+i*sz+off)++vs++cur.toList.drop (base+i*sz+off+vs.length)).toArray) hc id g g sz n n e f (bz f i (fJ (f i) off cs)) hh b base
    (cur.toList.take (base+i*sz+off)++vs++cur.toList.drop (base+i*sz+off+vs.length)).toArray (No _) (λ_=>⟨s,rfl⟩)
    (.inr ⟨base,cur,s,D,by simp;omega⟩) (setRow_heap w b cur _ e _ D) aoq
    (λU _ uX=>setRow_other w b U _ uX) aon rfl rfl rfl
    (λk c=>by
     rw[y];split
     ·rename_i l;subst l;rw[sU];exact hl _ c
     ·exact hl k c)
    (λU uT z=>by rw[s]at z;injection z with z;injection z with h1 _;subst h1;exact M.1.MD)
    (λk j pv c hj=>by
     have RF:j<sz:=by
      have h1:=(As.1 hj).1;rw[y]at h1;split at h1
      ·rw[sU,hl i L]at h1;exact h1
      ·rw[hl k c]at h1;exact h1
     have ZT:(cur.toList.take (base+i*sz+off)++vs++cur.toList.drop (base+i*sz+off+vs.length)).toArray[base+k*sz+j]? =if base+i*sz+off<=base+k*sz+j/\base+k*sz+j<base+i*sz+off+vs.length then vs[base+k*sz+j - (base+i*sz+off)]? else cur[base+k*sz+j]?:=by
      have F:=Ce cur.toList vs (base+i*sz+off) (base+k*sz+j) aoq;rw[amp,F];simp only[akR]
     rw[ZT];rw[y]at hj;by_cases l:k=i
     ·subst l;rw[an rfl,wY cs (f k) off j (by rw[hl k c];exact hle)]at hj;by_cases d:off<=j/\j<off+cs.length
      ·rw[an d]at hj;rw[an aol];obtain⟨u,hu,tA⟩:=Q _ _ hj;exact⟨u,by rw[<-hu];congr 1;omega,tA.k (p _ _ hj)⟩
      ·rw[mg d]at hj;rw[mg aol];exact O k j pv c hj
     ·rw[mg l]at hj
      have RM:¬(base+i*sz+off<=base+k*sz+j/\base+k*sz+j<base+i*sz+off+vs.length):=by
       rcases Nat.lt_or_gt_of_ne l with dh | KF
       ·have:(k+1)*sz<=i*sz:=akJ _ dh;rw[akH]at this;omega
       ·have:(i+1)*sz<=k*sz:=akJ _ KF;rw[akH]at this;omega
      rw[mg RM];exact O k j pv c hj) 0 (λk j dk n' e' f' F' c hj=>by
    rw[so];refine⟨c,?_⟩;rw[y]at hj;by_cases l:k=i
    ·subst l;rw[an rfl,wY cs (f k) off j (by rw[hl k c];exact hle)]at hj;by_cases d:off<=j/\j<off+cs.length
     ·rw[an d]at hj;have:=p _ _ hj;cases this
     ·rw[mg d]at hj;exact hj
    ·rw[mg l]at hj;exact hj)
   obtain⟨nq,xI⟩:=uq;obtain⟨_,f',rfl,ND,B⟩:=B;refine jr.rows (jr.Tf ?_ ⟨_,gv.set _ _ _ _ _ _ _ _ ND,B⟩ xI nq);have e1:(execOp a.eval ⟨dst,.store t o x,ty,pos,after,guard⟩)=(do Instr.storeAt t (a.eval o) (a.eval x);pure .skip:Sem Next):=rfl;rw[e1,C]
   have oA:¬(a.eval x).cells.size≠inf.size:=by
    rw[Y];simp only[ne_eq,amz];rw[<-E,<-q];simp
   simp only[Instr.storeAt,Instr.sureAddr,storeVar,Sem.run_bind,Sem.run_pure,Result.andThen,qZ X,mg oA,q,R]
  ·exact anA
 ·exact anA
theorem Ka (z:Array Value) (n q:Nat) (hq:q<n) (a:0<z.size):(madeCells z n)[q]? =z[q % z.size]?:=by
 have h1:q % z.size<z.size:=Nat.mod_lt _ a;simp [madeCells,hq,h1]
theorem ZU (i j sz:Nat) (hj:j<sz):(i*sz+j) % sz=j:=by
 rw[amG,Nat.mul_add_mod];exact Nat.mod_eq_of_lt hj
theorem rP (w:World) (o:Obj):dV w (w.alloc o):=
 ⟨λb a=>Below.heap_alloc w o b a,by simp,rfl,rfl,rfl⟩
theorem RN (s:fH P T) (hc:Core μ h S w) (o:∀t,da μ h S w (env t) (a.tmps.getD t undef)) (t:Nat) (l c:Operand) (hp:pop P T (.makeSlice t l c) env h K):
  jr P ⟨dst,.makeSlice t l c,ty,pos,after,guard⟩ a μ h S w K:=by
 have hl:=dF o l;have p:=dF o c;simp only[pop]at hp;split at hp
 ·rename_i e sz bytes zero k n u m v d f;rw[d]at hl;rw[f]at p;obtain⟨⟨h0,h1,h2,h3⟩,_,M,rfl,x,y⟩:=hp;obtain⟨hu,N,inf,zv,z,A,g,B,C,q,r⟩:=s.slice _ _ _ _ _ v;subst A g
  have hm:(inf.bytes:Int)*m<=281474976710656:=by
   have D:(m.toNat:Int)=m:=Int.toNat_of_nonneg aol;have e2:((m.toNat*inf.bytes:Nat):Int)<=140737488355328:=by omega
   rw[Int.natCast_mul,D,Int.mul_comm]at e2;omega
  have E:=run_make (P:=P) w t e inf zv hu z B k u n m h0 h1 hm aol
  have F:=wk (w1:=w.alloc (.cells (madeCells zv.cells (m.toNat*inf.size)) e)) hc inf.size n.toNat e (λ_=>zero) (some (w.heap.size,0))
   ⟨No _,_,heap_alloc_new w _,by
    rw[size_madeCells,so];exact akJ _ aol,λi j pv hi hj=>by
    have G:j<inf.size:=by rw[<-q];exact(As.1 hj).1
    have H:0+i*inf.size+j<m.toNat*inf.size:=by
     have:(i+1)*inf.size<=m.toNat*inf.size:=akJ _ aol;rw[akH]at this;omega
    rw[Ka _ _ _ H aol,so,C,ZU i j _ G];have b:j<zv.cells.size:=by omega
    obtain⟨I,h5,_,h6⟩:=r j zv.cells[j] (akV b);rw[hj]at h5;injection h5 with h5;subst h5;exact⟨_,akV b,dA.pP (h6 S w)⟩⟩ (rP w _) (λi hi=>q) (λi j pv _ hj=>by
  have b:j<zv.cells.size:=by have:=(As.1 hj).1;omega
  obtain⟨I,h5,_,h6⟩:=r j zv.cells[j] (akV b);rw[hj]at h5;injection h5 with h5;rw[h5];exact bN.no (h6 S w))
  obtain⟨J,L⟩:=F;refine jr.rows (jr.lK (eT rfl (by rw[hl.p7,p.p7];exact E)) ⟨_,gv.snoc _ _ _ _ _ _ _ x,y⟩ ?_ L J);show cK _ _ _ _ _ _ _ _;unfold cK;rw[akN (No _),alK];refine⟨⟨_,_,_,rfl⟩,No _,λ_=>⟨by omega,?_⟩⟩;rw[cG];refine⟨_,m.toNat,rfl,by omega,λ_=>by simp,_,e,_,heap_alloc_new w _,?_⟩;rw[size_madeCells];simp
 ·exact anA
theorem O9 (sz len:Nat) (place:Nat->Option (Nat×Nat)) (m:∀i,place i=some (i*sz,sz)):∀(l:List (Nat×Operand)) (ρ:Operand->Value) (k:Nat) (cells:Array Value),Fc len k l=true->cells.size=len*sz->
  (∀p∈l,(ρ p.2).cells.size=sz)->
  ∃e,Instr.fill place cells (l.map λp=>(p.1,ρ p.2))=some e/\e.size=len*sz/\(∀q,q<k*sz->e[q]? =cells[q]?)/\
   ∀(i j:Nat) (p:Nat×Operand),l[i]? =some p->j<sz->e[(k+i)*sz+j]? =(ρ p.2).cells[j]?
 | [],ρ,k,cells,hi,hs,_=>⟨cells,rfl,hs,λ_ _=>rfl,λi j p hp=>by simp at hp⟩
 | (c,x)::r,ρ,k,cells,hi,hs,hv=>by
  simp only[Fc,An]at hi;have f:=abF hi.1;subst f
  have hlen:∀(l:List (Nat×Operand)) (k:Nat),Fc len k l=true->k<=len:=by
   intro l;induction l with
   | nil=>intro k h;exact Nat.le_of_eq (abF h)
   | cons p l n=>
    intro k h;obtain⟨a,b⟩:=p;simp only[Fc,An]at h;have:=n (k+1) h.2;omega
  have o:=hlen r (c+1) hi.2;have d:=hv (c,x) aon;have s:(c+1)*sz<=len*sz:=akJ _ o;have g:=s;rw[akH]at g;obtain⟨t,g2⟩:=zj (ρ x) (c*sz) cells (by rw[d];omega);obtain⟨e,h1,h2,h3,h4⟩:=O9 sz len place m r ρ (c+1) _ hi.2 (t.trans hs) (λp hp=>hv p (by simp [hp]));refine⟨e,?_,h2,λq hq=>?_,λi j p hp hj=>?_⟩
  ·simp only[akB,Instr.fill,m];rw[mg (by simp only[d,ne_eq,not_true_eq_false,false_or];simp only[alw,akO,not_or];simp;omega)];exact h1
  ·rw[h3 q (by rw[akH];omega),g2 q,mg aol]
  ·cases i with
   | zero=>
    simp at hp;subst hp;rw[alz,h3 _ (by rw[akH];omega),g2,d,an aol];congr 1;omega
   | succ i=>
    simp at hp;have:=h4 i j p hp hj;rw[show c+1+i=c+(i+1)from by omega]at this;exact this
theorem Ew (B:fH P T) (hc:Core μ h S w) (C:∀t,da μ h S w (env t) (a.tmps.getD t undef)) (t len:Nat) (parts:Array (Nat×Operand)) (hp:pop P T (.buildSlice t len parts) env h K):
  jr P ⟨dst,.buildSlice t len parts,ty,pos,after,guard⟩ a μ h S w K:=by
 simp only[pop]at hp;split at hp
 ·rename_i e sz bytes zero D;replace hp:=cO hp;obtain⟨v,d⟩:=hp;obtain⟨hu,V,inf,zv,n,E,F,G,W,X,Y⟩:=B.slice _ _ _ _ _ D;subst E;simp only[An]at v;obtain⟨z,hle⟩:=v;have hle:=akS hle;obtain⟨A,d⟩:=Fe _ _ d;simp only[amA,alD]at d
  have o:∀p∈parts.toList,(a.eval p.2).cells.size=inf.size/\(cellsOf (ev env p.2)).length=inf.size/\
    ∀(j:Nat) (q:PV),(cellsOf (ev env p.2))[j]? =some q->∃u,(a.eval p.2).cells[j]? =some u/\dA μ h S w q u:=λp hp=>by
   obtain⟨h1,h2⟩:=A p hp;have h2:=abF h2;obtain⟨h3,h4⟩:=sW h1 (dF C p.2);simp only[als,akR]at h3 h4;exact⟨h3.trans h2,h2,h4⟩
  obtain⟨g,H,f2,_,I⟩:=O9 inf.size len (λi=>some (i*inf.size,inf.size)) (λ_=>rfl) parts.toList a.eval 0
   ((Array.range (len*inf.size)).map (λq=>(if len*inf.size=0 then #[]else zv.cells)[q % (if len*inf.size=0 then #[]else zv.cells).size]!)) z aon (λp hp=>(o p hp).1)
  have hlen:parts.toList.length=len:=by
   have key:∀(l:List (Nat×Operand)) (k:Nat),Fc len k l=true->k+l.length=len:=by
    intro l;induction l with
    | nil=>intro k hh;exact abF hh
    | cons p l J=>
     intro k hh;obtain⟨x,y⟩:=p;simp only[Fc,An]at hh;have:=J (k+1) hh.2;simp only[akz];omega
   have:=key parts.toList 0 z;omega
  have gg:∀i,i<len->∃p,parts.toList[i]? =some p/\p∈parts.toList/\(parts.toList.map λp=>cellsOf (ev env p.2)).getD i []=cellsOf (ev env p.2):=λi hi=>by
   have r:i<parts.toList.length:=by omega
   refine⟨parts.toList[i],Is r,akx r,?_⟩;rw[akv,akL,Is r];rfl
  have L:=wk (w1:=w.alloc (.cells g e)) hc inf.size len e (λk=>(parts.toList.map λp=>cellsOf (ev env p.2)).getD k []) (some (w.heap.size,0))
   ⟨No _,g,heap_alloc_new w _,by omega,λi j pv hi hj=>by
    obtain⟨p,c,f,b⟩:=gg i hi;rw[b]at hj;obtain⟨_,q2,q3⟩:=o p f;have M:j<inf.size:=by rw[<-q2];exact(As.1 hj).1
    have:=I i j p c M;rw[so]at this;obtain⟨u,N,O⟩:=q3 j pv hj;exact⟨u,by rw[<-N,<-this,so],O⟩⟩ (rP w _)
   (λi hi=>by
    obtain⟨p,c,f,b⟩:=gg i hi;rw[b];exact(o p f).2.1) (λi j pv hi hj=>by
    obtain⟨p,c,f,b⟩:=gg i hi;rw[b]at hj;exact RJ (A p f).1 hj)
  obtain⟨Q,R⟩:=L;obtain⟨Z,U,d⟩:=d;refine jr.rows (jr.lK (val:=.slice (some ⟨w.heap.size,0,none⟩) len len) (eT rfl ?_) ⟨_,gv.snoc _ _ _ _ _ _ _ U,d⟩ ?_ R Q)
  ·have s:(parts.map λp=>(p.1,a.eval p.2)).toList=parts.toList.map λp=>(p.1,a.eval p.2):=by simp
   have hn:¬(16777216<len*inf.size):=by omega
   have m:Instr.fill (λi=>some (i*inf.size,inf.size)) (Array.map (λx=>(if len*inf.size=0 then #[]else zv.cells)[x % (if len*inf.size=0 then #[]else zv.cells).size]!) (Array.range (len*inf.size))) (parts.map λp=>(p.1,a.eval p.2)).toList=some g:=by
    rw[s];exact H
   by_cases h0:len*inf.size=0
   ·simp [h0]at m;simp only[Instr.buildSlice,Sem.run_bind,run_underlying hu,Result.andThen,qZ n];simp [h0,newRow];rw[m];rfl
   ·simp [h0]at m;simp only[Instr.buildSlice,Sem.run_bind,run_underlying hu,Result.andThen,qZ n];simp [h0,hn,newRow,zeroValue,typeInfo,n,G];rw[m];rfl
  ·show cK _ _ _ _ _ _ _ _;unfold cK;rw[akN (No _),alK];refine⟨⟨_,_,_,rfl⟩,No _,λ_=>⟨by omega,?_⟩⟩;rw[cG];exact⟨_,len,rfl,No _,λ_=>by simp,g,e,_,heap_alloc_new w _,by rw[so,so];omega⟩
 ·exact anA
theorem Uv (hc:Core μ h S w) (d:∀t,da μ h S w (env t) (a.tmps.getD t undef)) (t:Nat) (x:Operand) (hp:pop P T (.box t x) env h K):
  jr P ⟨dst,.box t x,ty,pos,after,guard⟩ a μ h S w K:=by
 simp only[pop]at hp;replace hp:=cO (dG hp);obtain⟨b,e⟩:=hp;simp only[An]at b;obtain⟨c,hlen⟩:=b;have hlen:=abF hlen;obtain⟨h3,h4⟩:=sW c (dF d x);simp only[als,akR]at h3 h4
 have f:=wk (w1:=w.alloc (.cells (a.eval x).cells t)) hc (qk (T.get t)) 1 t (λ_=>cellsOf (ev env x)) (some (w.heap.size,0))
  ⟨No _,_,heap_alloc_new w _,by omega,λi j pv hi hj=>by
   obtain⟨u,hu,g⟩:=h4 j pv hj;have:i=0:=by omega
   subst this;exact⟨u,by rw[<-hu];congr 1;omega,g⟩⟩ (rP w _) (λi hi=>hlen) (λi j pv _ hj=>RJ c hj)
 obtain⟨k,l⟩:=f;refine jr.lK (val:=.pointer (some ⟨w.heap.size,0,none⟩)) (eT rfl ?_) e ?_ l k
 ·simp [Instr.box,newVar,newRow]
 ·show dE _ _ _ _ _ _ _ _;unfold dE;rw[akN (No _),alK];refine⟨⟨_,rfl⟩,No _,λ_=>⟨by omega,w.heap.size,0,cG _ _ _,⟨⟨_,_,_,heap_alloc_new w _,alc _⟩,λ_=>rfl⟩,?_⟩⟩;simp
theorem Pa (d:fH P T) (hc:Core μ h S w) (t:Nat) (hp:pop P T (.alloc t) env h K):
  jr P ⟨dst,.alloc t,ty,pos,after,guard⟩ a μ h S w K:=by
 simp only[pop]at hp;split at hp
 ·rename_i z e;obtain⟨i,zv,hi,f,o,g,c⟩:=d.zero t z e;generalize p:qk (T.get t)=sz at*
  have k:=wk (w1:=w.alloc (.cells zv.cells t)) hc sz 1 t (λ_=>z) (some (w.heap.size,0))
   ⟨No _,_,heap_alloc_new w _,by omega,λi j pv hi hj=>by
    have b:j<zv.cells.size:=by
     have:=(As.1 hj).1;omega
    obtain⟨l,h5,_,h6⟩:=c j zv.cells[j] (akV b);rw[hj]at h5;injection h5 with h5;subst h5;have:i=0:=by omega
    subst this;exact⟨_,by rw[<-akV b];congr 1;omega,dA.pP (h6 S w)⟩⟩ (rP w _) (λi hi=>g) (λi j pv _ hj=>by
  have b:j<zv.cells.size:=by have:=(As.1 hj).1;omega
  obtain⟨l,h5,_,h6⟩:=c j zv.cells[j] (akV b);rw[hj]at h5;injection h5 with h5;rw[h5];exact bN.no (h6 S w))
  obtain⟨m,n⟩:=k;refine jr.lK (val:=.pointer (some ⟨w.heap.size,0,none⟩)) (eT rfl ?_) hp ?_ n m
  ·simp [Instr.alloc,zeroValue,typeInfo,hi,f,newVar,newRow]
  ·show dE _ _ _ _ _ _ _ _;unfold dE;rw[akN (No _),alK];refine⟨⟨_,rfl⟩,No _,λ_=>⟨by omega,w.heap.size,0,cG _ _ _,⟨⟨_,_,_,heap_alloc_new w _,alc _⟩,λ_=>rfl⟩,?_⟩⟩;simp
 ·exact anA
end
end Go.Am
