/- Texts of the proof, joined and shortened. -/
import Derived.Test.YtdongnkoilijjaaGreatDoorPk0
import Derived.WalkLawsBesides
set_option linter.unusedVariables false
set_option linter.unusedSimpArgs false
namespace Go.Am
open Go Go.RowKit
def xA:TypeDesc->Bool
 | .struct _=>true
 | .array _ _=>true
 | _=>false
def gV (P:Program):Nat->List Field->List PV->Bool
 | _,[],[]=>true
 | n,f::r,.int k _::z=>f.name != "_" &&Nat.beq f.offset n&&(match P.underlying f.type with | some (.int a)=>mY k a | _=>false)&&gV P (n+1) r z
 | n,f::r,.bool _::z=>f.name != "_" &&Nat.beq f.offset n&&(match P.underlying f.type with | some .bool=>true | _=>false)&&gV P (n+1) r z
 | n,f::r,.str _::z=>f.name != "_" &&Nat.beq f.offset n&&(match P.underlying f.type with | some .string=>true | _=>false)&&gV P (n+1) r z
 | _,_,_=>false
def Bg (P:Program) (t:Nat) (z:List PV):Bool:=match P.underlying t with
 | some (.struct fs)=>!(P.stoodInHeld t)&&!(P.eqGuardType P.depth t)&&gV P 0 fs.toList z
 | _=>false
structure df (P:Program) (T:lS):Prop where
 flat:∀t sz fl z,T.get t=.struct sz fl z->uW z=true->Bg P t z=true
 int:∀t k,T.get t=.int k->P.underlying t=some (.int k)
 bool:∀t,T.get t=.bool->P.underlying t=some .bool
 str:∀t,T.get t=.str->P.underlying t=some .string
 ptr:∀t e,T.get t=.ptr e->P.underlying t=some (.pointer e)
 slice:∀t e sz KA z,T.get t=.slice e sz KA z->P.underlying t=some (.slice e)/\0<sz/\∃i zv,P.info? e=some i/\i.size=sz/\i.bytes=KA/\i.zero=some zv/\zv.cells.size=sz/\z.length=sz/\
  ∀(j:Nat) (u:Value),zv.cells[j]? =some u->∃pv:PV,z[j]? =some pv/\u.oneCell'=true/\∀S w,aI S w pv u
 map:∀t k e z,T.get t=.map k e z->P.underlying t=some (.map k e)/\∃i zv,P.info? e=some i/\i.zero=some zv/\mZ z zv/\iq z=true/\storable z=true
 bytes:∀t e sz KA z,T.get t=.slice e sz KA z->0<KA
 one:∀t,jf (T.get t)=1->(∀sz fl z,T.get t≠.struct sz fl z)->∃i,P.info? t=some i/\i.size=1
 zero:∀t z,xB (T.get t)=some z->∃i zv,P.info? t=some i/\i.zero=some zv/\zv.cells.size=jf (T.get t)/\z.length=jf (T.get t)/\
  ∀(j:Nat) (u:Value),zv.cells[j]? =some u->∃pv:PV,z[j]? =some pv/\u.oneCell'=true/\∀S w,aI S w pv u
 struct:∀t sz fl z,T.get t=.struct sz fl z->∃fs i,P.underlying t=some (.struct fs)/\P.info? t=some i/\i.size=sz/\fl.length=fs.size/\
  (∃zv,i.zero=some zv/\zv.cells.size=sz/\z.length=sz/\∀(j:Nat) (u:Value),zv.cells[j]? =some u->∃pv:PV,z[j]? =some pv/\u.oneCell'=true/\∀S w,aI S w pv u)/\
  ∀(k:Nat) (off size:Nat) (ag:Bool),fl[k]? =some (off,size,ag)->∃f j d,fs[k]? =some f/\f.offset=off/\P.info? f.type=some j/\j.size=size/\0<size/\
   P.underlying f.type=some d/\ag=xA d
section
variable {P:Program}{T:lS}{μ:Mu}{h:List ai}{S:Nat->Prop}{w:World}
theorem bg.iX {k:IntKind} {n:Int} {v:Value} (hv:bg μ h S w (.int k n) v):v=.int k n:=by
 have hv:aI S w (.int k n) v:=hv;cases hv;rfl
theorem bg.kc {b:Bool} {v:Value} (hv:bg μ h S w (.bool b) v):v=.bool b:=by
 have hv:aI S w (.bool b) v:=hv;cases hv;rfl
theorem bg.kd {s:List UInt8} {v:Value} (hv:bg μ h S w (.str s) v):v=.string ⟨⟨s⟩⟩:=by
 have hv:aI S w (.str s) v:=hv;cases hv;rfl
theorem bg.lT {v:Value} (hv:bg μ h S w .aF v):v=.slice none 0 0:=by
 have hv:aI S w .aF v:=hv;cases hv;rfl
theorem bg.KB {f:Nat} {v:Value} (hv:bg μ h S w (.fn f) v):v=.func (.func f) #[] #[]:=by
 have hv:aI S w (.fn f) v:=hv;cases hv;rfl
theorem bg.qq {sz n:Nat} {f:Nat->List PV} {v:Value} (hv:bg μ h S w (.eD sz n f) v):
  (∃a c,v=.slice a n c/\n=0)\/∃(b off c:Nat) (d:Nat->Nat->Value),v=.slice (some ⟨b,off,none⟩) n c/\S b/\(∀i,i<n->(f i).length=sz)/\n<=c/\
   (∀(i j:Nat) (pv:PV),i<n->(f i)[j]? =some pv->w.cell? ⟨b,off+i*sz+j,none⟩=some (d i j))/\(∀(i j:Nat) (pv:PV),i<n->(f i)[j]? =some pv->aI S w pv (d i j)):=by
 have hv:aI S w (.eD sz n f) v:=hv;cases hv with
 | lM _ _ a c=>exact .inl ⟨a,c,rfl,rfl⟩
 | eD _ _ _ b off c d h1 h2 e h4 g=>exact .inr ⟨b,off,c,d,rfl,h1,h2,e,h4,g⟩
theorem bg.tb {cs:List PV} {v:Value} (hv:bg μ h S w (.ez cs) v):
  ∃(b off:Nat) (a:Nat->Value),v=.pointer (some ⟨b,off,none⟩)/\S b/\(∀(j:Nat) (pv:PV),cs[j]? =some pv->w.cell? ⟨b,off+j,none⟩=some (a j))/\(∀(j:Nat) (pv:PV),cs[j]? =some pv->aI S w pv (a j)):=by
 have hv:aI S w (.ez cs) v:=hv;cases hv with
 | ez _ b off a h1 h4 c=>exact⟨b,off,a,rfl,h1,h4,c⟩
theorem KC {v:Value} {p:PV} (h:Q9 v=some p):aI S w p v:=by
 cases v with
 | int k n=>cases h;exact aI.int k n
 | bool b=>cases h;exact aI.bool b
 | string s=>
  obtain⟨⟨l⟩⟩:=s;cases h;exact aI.str l
 | slice a n c=>
  cases a with
  | none=>
   cases n with
   | zero=>
    cases c with
    | zero=>cases h;exact aI.aF
    | succ c=>cases h
   | succ n=>cases h
  | some a=>cases h
 | pointer a=>
  cases a with
  | none=>cases h;exact aI.fG
  | some a=>cases h
 | _=>cases h
theorem CA:∀{vs:List Value} {l:List PV},HJ vs=some l->vs.length=l.length/\∀(j:Nat) (pv:PV),l[j]? =some pv->∃u,vs[j]? =some u/\aI S w pv u
 | [],l,h=>by
  cases h;exact⟨rfl,λj pv hj=>by simp at hj⟩
 | v::r,l,h=>by
  unfold HJ at h;cases h1:Q9 v with
  | none=>rw[h1]at h;cases h
  | some p=>
   cases h2:HJ r with
   | none=>rw[h1,h2]at h;cases h
   | some q=>
    rw[h1,h2]at h;cases h;obtain⟨q1,q2⟩:=CA h2;refine⟨by simp [q1],λj pv hj=>?_⟩;cases j with
    | zero=>simp at hj;subst hj;exact⟨v,rfl,KC h1⟩
    | succ j=>obtain⟨u,r1,a⟩:=q2 j pv aeZ;exact⟨u,by simpa using r1,a⟩
theorem CB (v:Value):bg μ h S w (ofValue v) v:=by
 cases v with
 | int k n=>exact aI.int k n
 | bool b=>exact aI.bool b
 | string s=>
  obtain⟨⟨l⟩⟩:=s;exact aI.str l
 | slice a n c=>
  cases a with
  | none=>
   cases n with
   | zero=>
    cases c with
    | zero=>exact aI.aF
    | succ c=>trivial
   | succ n=>trivial
  | some a=>trivial
 | pointer a=>
  cases a with
  | none=>exact aI.fG
  | some a=>trivial
 | agg vs=>
  simp only[ofValue];cases d:HJ vs.toList with
  | none=>trivial
  | some l=>
   obtain⟨q1,q2⟩:=CA (S:=S) (w:=w) d;exact⟨vs,rfl,by simpa using q1,λj pv hj=>by obtain⟨u,r1,e⟩:=q2 j pv hj;exact⟨u,by simpa using r1,bp.ir e⟩⟩
 | _=>trivial
theorem bF {env:Env} {a:Act} (b:∀t,bg μ h S w (env t) (a.tmps.getD t undef)) (x:Operand):bg μ h S w (ev env x) (a.eval x):=by
 cases x with
 | tmp t=>exact b t
 | const v=>exact CB v
 | global g=>trivial
 | func f=>exact aI.fn f
def cW (P:Program) (o:Oper) (a:Act) (μ:Mu) (h:List ai) (S:Nat->Prop) (w:World) (K:PV->Prop):Prop:=
 ∃v val,K v/\bg μ h S w v val/\∀w',bR w w'->(execOp a.eval o).run P w'=.ok (.value val) w'
theorem cW.mk {o:Oper} {a:Act} {K:PV->Prop} {v:PV} {val:Value} (b:K v) (hv:bg μ h S w v val) (c:∀w',bR w w'->(execOp a.eval o).run P w'=.ok (.value val) w'):cW P o a μ h S w K:=⟨v,val,b,hv,c⟩
variable {a:Act}{env:Env}{K:PV->Prop}{dst:Option Tmp}{ty:TypeId}{pos:String}{after:Array Edge}{guard:Option (Nat×Bool)}
theorem uX {s:Sem Value} {w' a:World} {val:Value} (hs:s.run P w'=.ok val a):(do pure (Next.value (<-s)):Sem Next).run P w'=.ok (.value val) a:=by
 simp [hs]
theorem toList_mk (l:List UInt8):(ByteArray.mk ⟨l⟩).toList=l:=by
 have h:(ByteArray.mk ⟨l⟩).toList=(ByteArray.mk ⟨l⟩).data.toList:=by simp
 rw[h]
theorem Gj {a:BinOp} {t:TypeId} {x y:Operand} {u b val:Value} {w':World} (hg:eqGuard a t x y u b=pure ()) (c:(binOp a t u b).run P w'=.ok val w'):
  (do eqGuard a t x y u b;binOp a t u b:Sem Value).run P w'=.ok val w':=by
 rw[hg];simp [c]
theorem ox {P:Program} {t:TypeId} {d:TypeDesc} (hu:P.underlying t=some d) (hd:xA d=false) (cs:Array Value) (off:Nat) (v:Value) (hc:cs[off]? =some v) (w:World):(part t cs off).run P w=.ok v w:=by
 have:(isAgg t).run P w=.ok false w:=by
  unfold isAgg;simp only[Sem.run_bind,run_underlying hu,Result.andThen];cases d<;>first | rfl | cases hd
 simp [part,this,hc]
theorem bT {g q:Bool} {o:Option Bool} {b:Bool} (h:CC g q o=some b):g=true/\∃c,o=some c/\b=(q&&c):=by
 cases o with
 | none=>cases h
 | some c=>cases g with
  | true=>exact⟨rfl,c,rfl,(abP h).symm⟩
  | false=>cases h
theorem nf {P:Program} {μ:Mu} {h:List ai} {S:Nat->Prop} {w w':World} {xs o:Array Value} (d:Nat):∀(fs:List Field) (z l m:List PV) (n:Nat) (b:Bool),gV P n fs z=true->
  (∀(j:Nat) (pv:PV),l[j]? =some pv->∃u,xs[n+j]? =some u/\bp μ h S w pv u)->(∀(j:Nat) (pv:PV),m[j]? =some pv->∃u,o[n+j]? =some u/\bp μ h S w pv u)->
  zM z l m=some b->(Op.eqFields (d+1) xs o fs).run P w'=.ok b w'
 | [],z,l,m,n,b,hf,_,_,e=>by
  cases z with
  | nil=>
   cases l with
   | nil=>cases m with
    | nil=>cases e;rfl
    | cons _ _=>cases e
   | cons _ _=>cases e
  | cons _ _=>simp [gV]at hf
 | f::fs,z,l,m,n,b,hf,A,hy,e=>by
  have go:∀(p s:PV) (t v:Value) (q c:Bool) (dd:TypeDesc) (z r g:List PV),l=p::r->m=s::g->(∀u,bp μ h S w p u->u=t)->(∀u,bp μ h S w s u->u=v)->f.name≠ "_" ->f.offset=n->P.underlying f.type=some dd->xA dd=false->
    (Op.equalIn (d+1) f.type t v).run P w'=.ok q w'->gV P (n+1) fs z=true->zM z r g=some c->(Op.eqFields (d+1) xs o (f::fs)).run P w'=.ok (q&&c) w':=by
   intro p s t v q c dd z r g E e2 x y F B hu hd G H I;subst E e2;obtain⟨C,J,K⟩:=A 0 p rfl;obtain⟨D,L,M⟩:=hy 0 s rfl;obtain rfl:=x C K;obtain rfl:=y D M
   have N:=nf (w':=w') d fs z r g (n+1) c H (λj pv hj=>by
     obtain⟨u,q1,q2⟩:=A (j+1) pv aeZ;exact⟨u,by rw[<-q1];congr 1;omega,q2⟩) (λj pv hj=>by
     obtain⟨u,q1,q2⟩:=hy (j+1) pv aeZ;exact⟨u,by rw[<-q1];congr 1;omega,q2⟩) I
   have O:=ox hu hd xs f.offset C (by rw[B];exact J) w';have Q:=ox hu hd o f.offset D (by rw[B];exact L) w';unfold Op.eqFields;rw[An F];simp only[Sem.run_bind,O,Q,G,Result.andThen_ok];cases q with
   | true=>simpa using N
   | false=>simp
  unfold zM at e;split at e
  ·simp [gV]at hf
  ·rename_i k n0 z R a r T b' g;simp only[gV,Is,adm]at hf;obtain⟨⟨⟨h1,h2⟩,i⟩,h4⟩:=hf;have h2:=abo h2;obtain⟨hg,c,hc,rfl⟩:=bT e;simp only[Is]at hg;obtain rfl:=dK hg.1;obtain rfl:=dK hg.2;split at i
   ·rename_i U hu;exact go _ _ (.int k a) (.int k b') (a==b') c _ z r g rfl rfl (λu hu=>by have hu:aI S w (.int k a) u:=hu;cases hu;rfl) (λu hu=>by have hu:aI S w (.int k b') u:=hu;cases hu;rfl) h1 h2 hu rfl (run_equalIn_int w' d _ _ _ _ _ hu) h4 hc
   ·cases i
  ·rename_i n0 z a r b' g;simp only[gV,Is,adm]at hf;obtain⟨⟨⟨h1,h2⟩,i⟩,h4⟩:=hf;have h2:=abo h2;obtain⟨hg,c,hc,rfl⟩:=bT e;split at i
   ·rename_i hu;exact go _ _ (.bool a) (.bool b') (a==b') c _ z r g rfl rfl (λu hu=>by have hu:aI S w (.bool a) u:=hu;cases hu;rfl) (λu hu=>by have hu:aI S w (.bool b') u:=hu;cases hu;rfl) h1 h2 hu rfl (run_equalIn_bool w' d _ _ _ hu) h4 hc
   ·cases i
  ·rename_i n0 z a r b' g;simp only[gV,Is,adm]at hf;obtain⟨⟨⟨h1,h2⟩,i⟩,h4⟩:=hf;have h2:=abo h2;obtain⟨hg,c,hc,rfl⟩:=bT e;split at i
   ·rename_i hu
    exact go _ _ (.string ⟨⟨a⟩⟩) (.string ⟨⟨b'⟩⟩) (a==b') c _ z r g rfl rfl (λu hu=>by have hu:aI S w (.str a) u:=hu;cases hu;rfl) (λu hu=>by have hu:aI S w (.str b') u:=hu;cases hu;rfl) h1 h2 hu rfl (by
     rw[run_equalIn_string w' d _ _ _ hu,toList_mk,toList_mk]) h4 hc
   ·cases i
  ·cases e
theorem HK (o:df P T) (d:BinOp) (t p:TypeId) (x y:Operand) (A B:PV) (l:bg μ h S w A (a.eval x)) (hy:bg μ h S w B (a.eval y)) (hp:HL (T.get t) d A B K):
  cW P ⟨dst,.binOp d t x y p,ty,pos,after,guard⟩ a μ h S w K:=by
 have key:∀(v:PV) (val:Value),K v->bg μ h S w v val->eqGuard d t x y (a.eval x) (a.eval y)=pure ()->(∀w',(binOp d t (a.eval x) (a.eval y)).run P w'=.ok val w')->
   cW P ⟨dst,.binOp d t x y p,ty,pos,after,guard⟩ a μ h S w K:=λv val e hv hg q=>.mk e hv λw' _=>uX (Gj hg (q w'))
 unfold HL at hp;split at hp
 ·rename_i k n Q C;have ex:=l.iX;have c:=hy.iX;have hg:eqGuard d t x y (a.eval x) (a.eval y)=pure ():=by rw[ex];apply eqGuard_at_int
  cases d<;>simp only at hp
  case shl=>
   have h0:¬C<0:=by omega
   exact key _ _ hp.2 (aI.int _ _) hg λw'=>by rw[ex,c,binOp_shl];simp only[Op.shift,so h0];rfl
  case shr=>
   have h0:¬C<0:=by omega
   exact key _ _ hp.2 (aI.int _ _) hg λw'=>by rw[ex,c,binOp_shr];simp only[Op.shift,so h0];rfl
  all_goals
   replace hp:=aW hp;obtain⟨r,hp⟩:=hp;obtain rfl:=dK r
  case and=>exact key _ _ hp (aI.int _ _) hg λw'=>by rw[ex,c,binOp_and,intBits_and];rfl
  case or=>exact key _ _ hp (aI.int _ _) hg λw'=>by rw[ex,c,binOp_or,intBits_or];rfl
  case xor=>exact key _ _ hp (aI.int _ _) hg λw'=>by rw[ex,c,binOp_xor,intBits_xor];rfl
  case andNot=>exact key _ _ hp (aI.int _ _) hg λw'=>by rw[ex,c,binOp_andNot,intBits_andNot];rfl
  case add=>exact key _ _ hp (aI.int _ _) hg λw'=>by rw[ex,c,binOp_add];rfl
  case sub=>exact key _ _ hp (aI.int _ _) hg λw'=>by rw[ex,c,binOp_sub];rfl
  case mul=>exact key _ _ hp (aI.int _ _) hg λw'=>by rw[ex,c,binOp_mul];rfl
  case quo=>exact key _ _ hp.2 (aI.int _ _) hg λw'=>by rw[ex,c,binOp_quo];simp [Op.intDiv,hp.1]
  case rem=>exact key _ _ hp.2 (aI.int _ _) hg λw'=>by rw[ex,c,binOp_rem];simp [Op.intDiv,hp.1]
  case eql=>exact key _ _ hp (aI.bool _) hg λw'=>by rw[ex,c,binOp_eql];rfl
  case neq=>exact key _ _ hp (aI.bool _) hg λw'=>by rw[ex,c,binOp_neq];rfl
  case lss=>exact key _ _ hp (aI.bool _) hg λw'=>by rw[ex,c,binOp_lss];rfl
  case leq=>exact key _ _ hp (aI.bool _) hg λw'=>by rw[ex,c,binOp_leq];rfl
  case gtr=>exact key _ _ hp (aI.bool _) hg λw'=>by rw[ex,c,binOp_gtr];rfl
  case geq=>exact key _ _ hp (aI.bool _) hg λw'=>by rw[ex,c,binOp_geq];rfl
 ·rename_i b b';have ex:=l.kc;have c:=hy.kc;have hg:eqGuard d t x y (a.eval x) (a.eval y)=pure ():=by rw[ex];apply eqGuard_at_bool
  split at hp
  ·rename_i f;exact key _ _ hp (aI.bool _) hg λw'=>by rw[ex,c];exact run_eql_bool w' t _ _ (o.bool _ f)
  ·rename_i f;exact key _ _ hp (aI.bool _) hg λw'=>by rw[ex,c];exact run_neq_bool w' t _ _ (o.bool _ f)
  ·exact aen
 ·rename_i s g;have ex:=l.kd;have c:=hy.kd;have hg:eqGuard d t x y (a.eval x) (a.eval y)=pure ():=by rw[ex];apply eqGuard_at_string
  cases d<;>simp only at hp
  case add=>
   obtain⟨R,_,rfl,J⟩:=hp;refine key _ _ J (aI.str _) hg λw'=>?_;rw[ex,c,binOp_string_add]
   have h1:¬(((ByteArray.mk ⟨s⟩).size+(ByteArray.mk ⟨g⟩).size:Nat):Int)>IntKind.i64.max:=by
    have L:(ByteArray.mk ⟨s⟩).size=s.length:=rfl;have e2:(ByteArray.mk ⟨g⟩).size=g.length:=rfl;rw[L,e2,IntKind.max_i64];omega
   simp only[Op.stringOp,so h1]
   have h2:ByteArray.mk ⟨s⟩++ByteArray.mk ⟨g⟩=ByteArray.mk ⟨s++g⟩:=by
    apply ByteArray.ext;simp [ByteArray.data_append]
   rw[h2];rfl
  case eql=>exact key _ _ hp (aI.bool _) hg λw'=>by rw[ex,c,binOp_string_eql,toList_mk,toList_mk];rfl
  case neq=>exact key _ _ hp (aI.bool _) hg λw'=>by rw[ex,c,binOp_string_neq,toList_mk,toList_mk];rfl
  case lss=>exact key _ _ hp (aI.bool _) hg λw'=>by rw[ex,c,binOp_string_lss,toList_mk,toList_mk];rfl
  case leq=>exact key _ _ hp (aI.bool _) hg λw'=>by rw[ex,c,binOp_string_leq,toList_mk,toList_mk];rfl
  case gtr=>exact key _ _ hp (aI.bool _) hg λw'=>by rw[ex,c,binOp_string_gtr,toList_mk,toList_mk];rfl
  case geq=>exact key _ _ hp (aI.bool _) hg λw'=>by rw[ex,c,binOp_string_geq,toList_mk,toList_mk];rfl
  all_goals exact hp.elim
 ·rename_i D E;split at hp
  ·rename_i sz fl z f;replace hp:=aW hp;obtain⟨M,hp⟩:=hp;have i:=o.flat _ _ _ _ f M;unfold Bg at i;split at i
   ·rename_i fs hu;simp only[Is,abW]at i;obtain⟨⟨h1,h2⟩,N⟩:=i;obtain⟨xs,ex,_,O⟩:=l;obtain⟨m,c,_,u⟩:=hy;have F:P.fieldsOf t=fs:=by simp [Program.fieldsOf,hu]
    have G:∀b,zM z D E=some b->∀w',(Op.equalIn 10000 t (.agg xs) (.agg m)).run P w'=.ok b w':=λb r w'=>by
     rw[run_equalIn_struct w' 9999 t xs m (by rw[F];exact hu) h1,F];exact nf (μ:=μ) (h:=h) (S:=S) (w:=w) 9998 fs.toList z D E 0 b N (λj pv hj=>by rw[abx];exact O j pv hj) (λj pv hj=>by rw[abx];exact u j pv hj) r
    have H:∀(b:Bool),K (.bool b)->(∀w',(binOp d t (.agg xs) (.agg m)).run P w'=.ok (.bool b) w')->cW P ⟨dst,.binOp d t x y p,ty,pos,after,guard⟩ a μ h S w K:=λb e q=>.mk e (aI.bool b) λw' _=>uX (by
     rw[ex,c];simp [run_eqGuard_agg w' d t x y xs m h2,q w'])
    split at hp
    ·rename_i b I;split at hp
     ·obtain⟨_,rfl,e⟩:=hp;exact H _ e λw'=>by rw[run_eql_struct,G b I w'];rfl
     ·obtain⟨_,rfl,e⟩:=hp;exact H _ e λw'=>by rw[run_neq_struct,G b I w'];rfl
     ·exact aen
    ·exact aen
   ·cases i
  ·exact aen
 ·exact aen
theorem tc {t:TypeId} {d:TypeDesc} (hu:P.underlying t=some d) (w':World):(isAgg t).run P w'=.ok (xA d) w':=by
 unfold isAgg;simp only[Sem.run_bind,run_underlying hu,Result.andThen];cases d<;>rfl
def M8 (μ:Mu) (h:List ai) (S:Nat->Prop) (w:World) (cells:List PV) (b off:Nat):Prop:=
 ∀(j:Nat) (pv:PV),cells[j]? =some pv->∃u,w.cell? ⟨b,off+j,none⟩=some u/\bp μ h S w pv u
theorem xC (m:df P T) (t:Nat) (x:Operand) (cells:List PV) (b off:Nat) (p:a.eval x=.pointer (some ⟨b,off,none⟩)) (hc:M8 μ h S w cells b off) (hp:ur T t cells K)
  (q:∀pv u,pv∈cells->bp μ h S w pv u->bg μ h S w pv u):
  cW P ⟨dst,.load t x,ty,pos,after,guard⟩ a μ h S w K:=by
 have key:∀(v:PV) (val:Value),K v->bg μ h S w v val->(∀w',bR w w'->(loadVar t ⟨b,off,none⟩).run P w'=.ok val w')->
   cW P ⟨dst,.load t x,ty,pos,after,guard⟩ a μ h S w K:=λv val n hv s=>.mk n hv λw' o=>by
  refine uX ?_;rw[p];simp [Instr.loadAt,Instr.sureAddr,s w' o]
 have one:∀d,P.underlying t=some d->xA d=false->(∃c r,cells=c::r/\K c)->
   cW P ⟨dst,.load t x,ty,pos,after,guard⟩ a μ h S w K:=λd hu hd ⟨c,r,l,n⟩=>by
  obtain⟨u,y,A⟩:=hc 0 c (by rw[l];rfl);refine key c u n (q c u (by rw[l];simp) A) λw' o=>?_;have h0:=o.cell y;rw[ace]at h0;unfold loadVar;simp only[Sem.run_bind,tc hu,hd,Result.andThen];simp [run_load,h0]
 unfold ur at hp;split at hp
 ·rename_i sz fl B g;obtain⟨fs,i,hu,hi,C,_⟩:=m.struct _ _ _ _ g;replace hp:=lU _ _ _ hp;obtain⟨hle,n⟩:=hp;simp only[adu,acj]at n
  have hf:∃f:Nat->Value,∀(j:Nat) (pv:PV),cells[j]? =some pv->w.cell? ⟨b,off+j,none⟩=some (f j)/\bp μ h S w pv (f j):=by
   refine⟨λj=>(w.cell? ⟨b,off+j,none⟩).getD undef,λj pv hj=>?_⟩;obtain⟨u,h1,h2⟩:=hc j pv hj;simp only[h1,acP];exact⟨trivial,h2⟩
  obtain⟨f,hf⟩:=hf;refine key _ (.agg ((List.range sz).map f).toArray) n ⟨_,rfl,by simp [Nat.min_eq_left hle],λj pv hj=>?_⟩ λw' o=>?_
  ·rw[aco]at hj;split at hj
   ·rename_i D;obtain⟨h1,h2⟩:=hf j pv hj;exact⟨f j,by simp [D],h2⟩
   ·cases hj
  ·unfold loadVar;have hd:xA (.struct fs)=true:=rfl;simp only[Sem.run_bind,tc hu,hd,Result.andThen]
   have E:=run_loadCells (P:=P) w' ⟨b,off,none⟩ sz f (λj hj=>by
    rw[Addr.add_lit];have F:j<cells.length:=abG hj hle;exact o.cell (hf j _ (abm F)).1)
   simp [sizeOf,typeInfo,hi,C,E]
 ·exact aen
 ·rename_i h1 h2
  have l:∃c r,cells=c::r/\K c:=by
   cases cells with
   | nil=>exact hp.elim
   | cons c r=>exact⟨c,r,rfl,bG hp⟩
  cases g:T.get t with
  | int k=>exact one _ (m.int _ _ g) rfl l
  | bool=>exact one _ (m.bool _ g) rfl l
  | str=>exact one _ (m.str _ g) rfl l
  | slice e sz G z=>exact one _ (m.slice _ _ _ _ _ g).1 rfl l
  | struct sz fl B=>exact(h1 _ _ _ g).elim
  | map k e z=>exact one _ (m.map _ _ _ _ g).1 rfl l
  | ptr e=>exact one _ (m.ptr _ _ g) rfl l
  | other=>exact(h2 g).elim
theorem dw {id:Nat} {g sz n:Nat} {e:TypeId} {f:Nat->List PV} (hh:cF h id=.row g sz n e f):h[id]? =some (ai.row g sz n e f):=by
 unfold cF at hh;rw[abv]at hh;cases a:h[id]? with
 | none=>rw[a]at hh;cases hh
 | some o=>rw[a]at hh;simp at hh;rw[hh]
theorem bg.lF {id gen off len:Nat} {v:Value} (hv:bg μ h S w (.own id gen off len) v):aN μ h w id gen off len v:=hv
theorem bg.pX {id gen i off:Nat} {v:Value} (hv:bg μ h S w (.aE id gen i off) v):bD μ h w id gen i off v:=hv
theorem bg.Bh {id:Nat} {v:Value} (hv:bg μ h S w (.kC id) v):eL μ h w id v:=hv
theorem xD (p:bC μ h S w) {id g sz n:Nat} {e:TypeId} {f:Nat->List PV} {v:Value} (hh:h[id]? =some (ai.row g sz n e f)) (a:eL μ h w id v):
  ∃b base es c,μ id=some (b,base)/\v=.map (some b)/\w.heap[b]? =some (.map es c)/\es.size=n/\
   ∀i,i<n->∃(d j:PV) (en:MapEntry),f i=[d,j]/\iq d=true/\iq j=true/\es[i]? =some en/\mZ d en.key/\mZ j en.val:=by
 unfold eL at a;rw[hh]at a;obtain⟨_,b,base,k,⟨es,c,l⟩,rfl⟩:=a;obtain⟨_,m⟩:=p id g sz n e f hh;rw[k]at m;obtain⟨o,h1,h2⟩:=m;obtain rfl:=abP (l.symm.trans h1);exact⟨b,base,es,c,k,rfl,l,h2.1,h2.2⟩
theorem te:∀(z xs d:List PV) (b:Bool),zM z xs d=some b->∀(j:Nat) (pv:PV),d[j]? =some pv->∀u,oS pv u->bp μ h S w pv u
 | z,xs,d,b,a,j,pv,hj,u,hu=>by
  unfold zM at a;split at a
  ·simp at hj
  ·obtain⟨_,c,hc,_⟩:=bT a;cases j with
   | zero=>simp at hj;subst hj;have hu:u=_:=hu;subst hu;exact aI.int _ _
   | succ j=>exact te _ _ _ c hc j pv aeZ u hu
  ·obtain⟨_,c,hc,_⟩:=bT a;cases j with
   | zero=>simp at hj;subst hj;have hu:u=_:=hu;subst hu;exact aI.bool _
   | succ j=>exact te _ _ _ c hc j pv aeZ u hu
  ·obtain⟨_,c,hc,_⟩:=bT a;cases j with
   | zero=>simp at hj;subst hj;have hu:u=_:=hu;subst hu;exact aI.str _
   | succ j=>exact te _ _ _ c hc j pv aeZ u hu
  ·cases a
theorem we:∀(z xs d:List PV) (b:Bool),zM z xs d=some b->xs.length=z.length
 | z,xs,d,b,a=>by
  unfold zM at a;split at a
  ·rfl
  ·obtain⟨_,c,hc,_⟩:=bT a;simp [we _ _ _ c hc]
  ·obtain⟨_,c,hc,_⟩:=bT a;simp [we _ _ _ c hc]
  ·obtain⟨_,c,hc,_⟩:=bT a;simp [we _ _ _ c hc]
  ·cases a
theorem EE {kt:TypeId} {fs:Array Field} {z xs:List PV} {b:Array Value} (hu:P.underlying kt=some (.struct fs)) (hf:gV P 0 fs.toList z=true)
  (e:∀(j:Nat) (pv:PV),xs[j]? =some pv->∃u,b[j]? =some u/\bp μ h S w pv u) (g:xs.length=z.length) (em:Bool) (w':World):(Instr.checkKey em 10000 kt (.agg b)).run P w'=.ok () w':=by
 rw[show 10000=9999+1 from rfl,Instr.checkKey];simp only[Sem.run_bind,run_underlying hu,Result.andThen_ok];rw[<-Array.forIn_toList];replace e:∀(j:Nat) (pv:PV),xs[j]? =some pv->∃u,b[0+j]? =some u/\bp μ h S w pv u:=λj pv hj=>by rw[abx];exact e j pv hj
 generalize(0:Nat)=n at hf e;generalize fs.toList=L at hf;clear hu;induction L generalizing n z xs with
 | nil=>simp
 | cons f L l=>
  cases z with
  | nil=>simp [gV]at hf
  | cons c z=>
   cases xs with
   | nil=>simp at g
   | cons p xs=>
    have m:gV P (n+1) L z=true->(∀(j:Nat) (pv:PV),xs[j]? =some pv->∃u,b[n+1+j]? =some u/\bp μ h S w pv u):=λ_ j pv hj=>by
     obtain⟨u,q1,q2⟩:=e (j+1) pv aeZ;exact⟨u,by rw[<-q1];congr 1;omega,q2⟩
    obtain⟨u,o,_⟩:=e 0 p rfl
    have key:∃d,P.underlying f.type=some d/\xA d=false/\f.name≠ "_" /\f.offset=n/\gV P (n+1) L z=true/\∀u,(Instr.checkKey em 9999 f.type u).run P w'=.ok () w':=by
     cases c with
     | int k n0=>
      simp only[gV,Is,adm]at hf;obtain⟨⟨⟨h1,h2⟩,a⟩,h4⟩:=hf;split at a
      ·rename_i x hu;exact aet
      ·cases a
     | bool y=>
      simp only[gV,Is,adm]at hf;obtain⟨⟨⟨h1,h2⟩,a⟩,h4⟩:=hf;split at a
      ·rename_i hu;exact aet
      ·cases a
     | str A=>
      simp only[gV,Is,adm]at hf;obtain⟨⟨⟨h1,h2⟩,a⟩,h4⟩:=hf;split at a
      ·rename_i hu;exact aet
      ·cases a
     | _=>simp [gV]at hf
    obtain⟨d,hu,hd,q,r,i,s⟩:=key;have t:=ox hu hd b f.offset u (by rw[r];exact o) w';have v:=s u;simp only[List.forIn_cons,Sem.run_bind,q,ne_eq,not_false_eq_true,acO,Result.andThen_ok,t,v,Sem.run_pure];exact l (by simpa using g) (n+1) (m i) i
def pY (P:Program) (kt:TypeId) (d:TypeDesc) (s:Bool) (key a:Value) (q:Bool):Prop:=
 match s with
 | false=>Instr.sameNow d key a=some q
 | true=>Instr.sameNow d key a=none/\∀w',(Op.equal kt key a).run P w'=.ok q w'
theorem Gm (n:df P T) {kt:Nat} {b:PV} {key:Value} {t:Bool} (o:bg μ h S w b key) (h0:js (T.get kt) b b=some t):
  ∃d s,P.underlying kt=some d/\(∀(em:Bool) (w':World),(Instr.checkKey em 10000 kt key).run P w'=.ok () w')/\∀(e:PV) (f:Value) (q:Bool),mZ e f->js (T.get kt) b e=some q->pY P kt d s key f q:=by
 cases g:T.get kt with
 | int k=>
  rw[g]at h0;cases b<;>simp only[js]at h0<;>try cases h0
  rename_i F x;have hu:=n.int _ _ g;obtain⟨i,_⟩:=bT h0;simp only[Is]at i;obtain rfl:=dK i.1;obtain rfl:=o.iX;refine⟨_,false,hu,λem w'=>by rw[show 10000=9999+1 from rfl,Instr.checkKey];simp [run_underlying hu],λe f q hs a=>?_⟩;cases e<;>simp only[js]at a<;>try cases a
  rename_i G p;obtain⟨hg,c,hc,rfl⟩:=bT a;injection hc with hc;subst hc;simp only[Is]at hg;obtain rfl:=dK hg.2;obtain rfl:f=_:=hs;simp [pY,Instr.sameNow]
 | str=>
  rw[g]at h0;cases b<;>simp only[js]at h0<;>try cases h0
  rename_i x;have hu:=n.str _ g;obtain rfl:=o.kd;refine⟨_,false,hu,λem w'=>by rw[show 10000=9999+1 from rfl,Instr.checkKey];simp [run_underlying hu],λe f q hs a=>?_⟩;cases e<;>simp only[js]at a<;>try cases a
  obtain rfl:f=_:=hs;rename_i p;simp only[pY,Instr.sameNow];congr 1;show((Array.mk x)==(Array.mk p))=(x==p);rw[acU,ack,ack,Array.mk.injEq]
 | struct sz fl z=>
  rw[g]at h0;cases b<;>simp only[js]at h0<;>try cases h0
  rename_i xs;split at h0
  ·rename_i v;have l:=n.flat _ _ _ _ g v;unfold Bg at l;split at l
   ·rename_i fs hu;simp only[Is,abW]at l;obtain⟨⟨h1,h2⟩,y⟩:=l;obtain⟨A,ex,_,B⟩:=(show gK μ h S w (.agg xs) key from o);subst ex;have C:P.fieldsOf kt=fs:=by simp [Program.fieldsOf,hu]
    refine⟨_,true,hu,λem w'=>EE hu y B (we z xs xs t h0) em w',λe f q hs a=>?_⟩;cases e<;>simp only[js,v]at a<;>try cases a
    rename_i m;obtain⟨D,rfl,_,r⟩:=(show ∃vs:Array Value,f=.agg vs/\vs.size=m.length/\∀(j:Nat) (pv:PV),m[j]? =some pv->∃u:Value,vs[j]? =some u/\oS pv u from hs);refine⟨rfl,λw'=>?_⟩;show(Op.equalIn 10000 kt (.agg A) (.agg D)).run P w'=_;rw[run_equalIn_struct w' 9999 kt A D (by rw[C];exact hu) h1,C]
    exact nf (μ:=μ) (h:=h) (S:=S) (w:=w) 9998 fs.toList z xs m 0 q y (λj pv hj=>by rw[abx];exact B j pv hj) (λj pv hj=>by
     rw[abx];obtain⟨u,hu,E⟩:=r j pv hj;exact⟨u,hu,te z xs m q a j pv hj u E⟩) a
   ·cases l
  ·cases h0
 | _=>
  rw[g]at h0;cases b<;>simp [js]at h0
theorem xE {d:TypeDesc} {key:Value}:∀(l:List MapEntry) (i s:Nat) (en:MapEntry),(∀j,j<i->∀x:MapEntry,l[j]? =some x->Instr.sameNow d key x.key=some false)->l[i]? =some en->Instr.sameNow d key en.key=some true->
  Instr.findNow d key l s=some (some (s+i,en.val))
 | [],i,s,en,_,h,_=>by simp at h
 | x::l,0,s,en,_,h,a=>by
  simp at h;subst h;simp [Instr.findNow,a]
 | x::l,i+1,s,en,hf,h,a=>by
  have h0:=hf 0 aeP x rfl;have:=xE l i (s+1) en (λj hj y hy=>hf (j+1) aeP y afg) afb a;simp only[Instr.findNow,h0,this];congr 3;omega
theorem tf {d:TypeDesc} {key:Value}:∀(l:List MapEntry) (s:Nat),(∀(j:Nat) (x:MapEntry),l[j]? =some x->Instr.sameNow d key x.key=some false)->Instr.findNow d key l s=some none
 | [],s,_=>rfl
 | x::l,s,hf=>by
  have h0:=hf 0 x rfl;simp only[Instr.findNow,h0];exact tf l (s+1) (λj y hy=>hf (j+1) y afg)
theorem xF {kt:TypeId} {key:Value} {w':World}:∀(l:List MapEntry) (i s:Nat) (en:MapEntry),(∀j,j<i->∀x:MapEntry,l[j]? =some x->(Op.equal kt key x.key).run P w'=.ok false w')->l[i]? =some en->(Op.equal kt key en.key).run P w'=.ok true w'->
  (Instr.findAsking kt key l s).run P w'=.ok (some (s+i,en.val)) w'
 | [],i,s,en,_,h,_=>by simp at h
 | x::l,0,s,en,_,h,a=>by
  simp at h;subst h;simp [Instr.findAsking,a]
 | x::l,i+1,s,en,hf,h,a=>by
  have h0:=hf 0 aeP x rfl;have:=xF l i (s+1) en (λj hj y hy=>hf (j+1) aeP y afg) afb a;simp only[Instr.findAsking,Sem.run_bind,h0,Result.andThen_ok,acD,adp,this];congr 3;omega
theorem tg {kt:TypeId} {key:Value} {w':World}:∀(l:List MapEntry) (s:Nat),(∀(j:Nat) (x:MapEntry),l[j]? =some x->(Op.equal kt key x.key).run P w'=.ok false w')->(Instr.findAsking kt key l s).run P w'=.ok none w'
 | [],s,_=>rfl
 | x::l,s,hf=>by
  have h0:=hf 0 x rfl;simp only[Instr.findAsking,Sem.run_bind,h0,Result.andThen_ok,acD,adp];exact tg l (s+1) (λj y hy=>hf (j+1) y afg)
theorem xG {kt:TypeId} {d:TypeDesc} {s:Bool} {key:Value} {w':World} (hu:P.underlying kt=some d) (l:List MapEntry) (i:Nat) (en:MapEntry) (hf:∀j,j<i->∀x:MapEntry,l[j]? =some x->pY P kt d s key x.key false)
  (hi:l[i]? =some en) (a:pY P kt d s key en.key true):(Instr.findKey kt key l).run P w'=.ok (some (i,en.val)) w':=by
 unfold Instr.findKey;cases s with
 | false=>
  have:=xE l i 0 en hf hi a;rw[abx]at this;simp [run_underlying hu,this]
 | true=>
  have h1:=xF (P:=P) (w':=w') l i 0 en (λj hj x b=>(hf j hj x b).2 w') hi (a.2 w');rw[abx]at h1
  have h2:Instr.findNow d key l 0=none:=by
   cases l with
   | nil=>simp at hi
   | cons x l=>
    have c:Instr.sameNow d key x.key=none:=by
     cases i with
     | zero=>simp at hi;subst hi;exact a.1
     | succ i=>exact(hf 0 aeP x rfl).1
    simp [Instr.findNow,c]
  simp [run_underlying hu,h2,h1]
theorem th {kt:TypeId} {d:TypeDesc} {s:Bool} {key:Value} {w':World} (hu:P.underlying kt=some d) (l:List MapEntry) (hf:∀(j:Nat) (x:MapEntry),l[j]? =some x->pY P kt d s key x.key false):
  (Instr.findKey kt key l).run P w'=.ok none w':=by
 unfold Instr.findKey;cases s with
 | false=>simp [run_underlying hu,tf l 0 hf]
 | true=>
  have h1:=tg (P:=P) (w':=w') (kt:=kt) (key:=key) l 0 (λj x a=>(hf j x a).2 w');cases l with
  | nil=>simp [run_underlying hu,Instr.findNow]
  | cons x l=>
   have b:Instr.sameNow d key x.key=none:=(hf 0 x rfl).1;simp [run_underlying hu,Instr.findNow,b,h1]
theorem bp.v {pv:PV} {u:Value} (hc:bp μ h S w pv u):bg μ h S w pv u:=by
 cases pv<;>first | exact(show False from hc).elim | trivial | exact hc
theorem xH (k:df P T) (o:bC μ h S w) (t:Nat) (x:Operand) (l:PV) (m:bg μ h S w l (a.eval x)) (hp:tj T t l h K):
  cW P ⟨dst,.load t x,ty,pos,after,guard⟩ a μ h S w K:=by
 unfold tj at hp;split at hp
 ·rename_i cells;obtain⟨b,off,p,q,_,h2,r⟩:=m.tb;exact xC k t x cells b off q (λj pv hj=>⟨p j,h2 j pv hj,bp.ir (r j pv hj)⟩) hp λpv u _ hc=>hc.v
 ·rename_i id gen i off;split at hp
  ·rename_i g sz n e f hg;obtain⟨rfl,_,rfl,hp⟩:=hp;have hh:=dw hg;have d:=m.pX;unfold bD at d;rw[hh]at d;obtain⟨_,_,d⟩:=d;obtain⟨s,b,base,y,z,hv⟩:=d rfl;obtain⟨C,hc⟩:=o id g sz n e f hh;rw[y]at hc;obtain⟨cur,A,D,B⟩:=bC.cells z.1 hc;refine xC k t x _ b (base+i*sz+off) hv (λj pv hj=>?_) hp λpv u _ hc=>hc.v;rw[acf]at hj;obtain⟨v,h1,h2⟩:=B i (off+j) pv s hj;refine⟨v,?_,h2.c⟩;rw[cell_of_row w b (base+i*sz+off+j) cur e (0,0) A,<-h1];congr 1;omega
  ·exact aen
 ·exact aen
theorem jw {e:TypeId} {i:TypeInfo} (hi:P.info? e=some i) (w':World):(sizeOf e).run P w'=.ok i.size w':=by
 simp [sizeOf,typeInfo,hi]
theorem uY {t e:TypeId} {i:TypeInfo} (hu:P.underlying t=some (.slice e)) (hi:P.info? e=some i) (a:Addr) (n c:Nat) (k:IntKind) (x:Int) (h0:0<=x) (h1:x<n) (w':World):
  (Instr.indexAt t (.slice (some a) n c) (.int k x)).run P w'=.ok (.pointer (some (a.add (x.toNat*i.size)))) w':=by
 have he:P.elem t=e:=by simp [Program.elem,hu]
 rw[run_indexAt_slice w' t a n c k x afl,An ⟨h0,h1⟩,he,jw hi];rfl
theorem CD (G:df P T) (I:bC μ h S w) (H:∀t,bg μ h S w (env t) (a.tmps.getD t undef)) (t:Nat) (x i:Operand) (hp:bU T (.indexAddr t x i) env h K):
  cW P ⟨dst,.indexAddr t x i,ty,pos,after,guard⟩ a μ h S w K:=by
 have r:=bF H x;have hi:=bF H i;unfold bU at hp;simp only at hp;split at hp
 ·rename_i e sz J z L n f k d u hex y;rw[hex]at r;rw[y]at hi;replace hp:=aW hp;obtain⟨m,⟨h0,h1⟩,_,rfl,A⟩:=hp;obtain rfl:=abo m;have B:=hi.iX;obtain⟨hu,_,inf,M,C,D,_⟩:=G.slice _ _ _ _ _ u;rcases r.qq with⟨_,_,_,rfl⟩ | ⟨b,off,c,N,ex,O,X,hc,Q,R⟩
  ·omega
  ·have o:d.toNat<n:=by omega
   refine .mk A (aI.ez (f d.toNat) b (off+d.toNat*sz) (N d.toNat) O (λj pv hj=>Q _ j pv o hj) (λj pv hj=>R _ j pv o hj)) λw' _=>uX ?_;rw[ex,B,uY hu C _ _ _ _ _ h0 h1,D,Addr.add_lit]
 ·rename_i e sz J z id gen off len k d u hex y;rw[hex]at r;rw[y]at hi;have B:=hi.iX;obtain⟨hu,_,inf,M,C,D,_⟩:=G.slice _ _ _ _ _ u;split at hp
  ·rename_i g L n Y f U;obtain⟨rfl,hp⟩:=hp;replace hp:=aW hp;obtain⟨m,⟨h0,h1⟩,_,rfl,A⟩:=hp;obtain⟨m,q⟩:=Bool.and_eq_true_iff.1 m;obtain rfl:=abo m;have hh:=dw U;have l:=r.lF;unfold aN at l;rw[hh]at l;obtain⟨_,_,l⟩:=l;obtain⟨hle,l⟩:=l rfl;cases s:μ id with
   | none=>
    rw[s]at l;obtain⟨_,E⟩:=I id _ _ _ _ _ hh;rw[s]at E;have E:n=0:=E;omega
   | some p=>
    obtain⟨b,base⟩:=p;rw[s]at l;obtain⟨Z,cap,ex,MG,F,V⟩:=l;have F:=F aeP;subst F;refine .mk A (v:=.aE id g (off+d.toNat) 0) (val:=.pointer (some ⟨b,base+(off+d.toNat)*sz+0,none⟩)) ?_ λw' _=>uX ?_
    ·show bD μ h w id g (off+d.toNat) 0 _;unfold bD;rw[hh];exact⟨⟨_,rfl⟩,abn _,λ_=>⟨by omega,b,base,s,⟨V.least,λW=>by rw[W]at q;cases q⟩,rfl⟩⟩
    ·rw[ex,B,uY hu C _ _ _ _ _ h0 h1,D,Addr.add_lit];have:base+off*sz+d.toNat*sz=base+(off+d.toNat)*sz+0:=by rw[abC];omega
     rw[this]
  ·exact aen
 ·exact aen
theorem xI (f:df P T) (c:∀t,bg μ h S w (env t) (a.tmps.getD t undef)) (t:Nat) (x i:Operand) (hp:bU T (.index t x i) env h K):
  cW P ⟨dst,.index t x i,ty,pos,after,guard⟩ a μ h S w K:=by
 have d:=bF c x;have hi:=bF c i;unfold bU at hp;simp only at hp;split at hp
 ·rename_i s k b g hex j;rw[hex]at d;rw[j]at hi;obtain⟨⟨h0,h1⟩,_,rfl,l⟩:=hp;have m:=hi.iX;have ex:=d.kd;have hu:=f.str _ g;refine .mk l (aI.int _ _) λw' _=>uX ?_;rw[ex,m]
  have n:(ByteArray.mk ⟨s⟩)[b.toNat]? =some (s.getD b.toNat 0):=by
   have e:b.toNat<s.length:=by omega
   rw[abv,abm e];rw[getElem?_pos (ByteArray.mk ⟨s⟩) b.toNat e];rfl
  simp only[Instr.index,asIntOf,Sem.run_bind,Sem.run_pure,Result.andThen,run_underlying hu,An h0,n]
 ·exact aen
theorem HM (k:df P T) (y:bC μ h S w) (C:∀t,bg μ h S w (env t) (a.tmps.getD t undef)) (args:Array Operand) (l:Array TypeId) (hp:bU T (.call ⟨.builtin .len,args,l⟩) env h K):
  cW P ⟨dst,.call ⟨.builtin .len,args,l⟩,ty,pos,after,guard⟩ a μ h S w K:=by
 obtain⟨args⟩:=args;obtain⟨l⟩:=l;unfold bU at hp;simp only at hp;split at hp
 ·rename_i x t;have i:=bF C x
  have fin:∀(n:Int) (val:Value),a.eval x=val->K (.int .i64 n)->(∀w',(Builtin.len_ #[t] ty #[val]).run P w'=.ok (goInt n) w')->
    cW P ⟨dst,.call ⟨.builtin .len,#[x],#[t]⟩,ty,pos,after,guard⟩ a μ h S w K:=λn val o q d=>.mk q (aI.int _ _) λw' _=>by
   simp only[execOp,resolve,invoke,builtin,Sem.run_bind,Sem.run_pure,Result.andThen_ok,adv,abF,acw,o,d];rfl
  split at hp
  ·rename_i e sz A z D n f j hex;rw[hex]at i;obtain⟨hu,_⟩:=k.slice _ _ _ _ _ j;have he:P.elem t=e:=by simp [Program.elem,hu]
   rcases i.qq with⟨r,c,ex,rfl⟩ | ⟨b,off,c,I,ex,_⟩
   ·exact fin _ _ ex hp λw'=>run_len_slice w' t ty _ _ _ afl
   ·exact fin _ _ ex hp λw'=>run_len_slice w' t ty _ _ _ afl
  ·rename_i e sz A z j hex;rw[hex]at i;obtain⟨hu,_⟩:=k.slice _ _ _ _ _ j;have he:P.elem t=e:=by simp [Program.elem,hu]
   exact fin _ _ i.lT hp λw'=>run_len_slice w' t ty _ _ _ afl
  ·rename_i e sz A z id gen off n j hex;rw[hex]at i;obtain⟨hu,_⟩:=k.slice _ _ _ _ _ j;have he:P.elem t=e:=by simp [Program.elem,hu]
   split at hp
   ·rename_i g D E J f u;obtain⟨rfl,q⟩:=hp;have hh:=dw u;have d:=i.lF;unfold aN at d;rw[hh]at d;obtain⟨_,_,d⟩:=d;obtain⟨hle,d⟩:=d rfl
    have o:∃r c,a.eval x=.slice r n c:=by
     cases m:μ id with
     | none=>
      rw[m]at d;obtain⟨_,v⟩:=y id _ _ _ _ _ hh;rw[m]at v;have v:E=0:=v;have:n=0:=by omega
      subst this;exact⟨_,_,d⟩
     | some p=>
      rw[m]at d;obtain⟨L,cap,ex,_⟩:=d;exact⟨_,_,ex⟩
    obtain⟨r,c,ex⟩:=o;exact fin _ _ ex q λw'=>run_len_slice w' t ty _ _ _ afl
   ·exact aen
  ·rename_i s j hex;rw[hex]at i;have hu:=k.str _ j;refine fin _ _ i.kd hp λw'=>?_;simp [Builtin.len_,run_underlying hu];rfl
  ·rename_i M N O id j hex;rw[hex]at i;obtain⟨hu,_⟩:=k.map _ _ _ _ j;split at hp
   ·rename_i g sz n e f u;obtain⟨b,base,es,c,m,ex,B,F,_⟩:=xD y (dw u) i.Bh;refine .mk hp (aI.int _ _) λw' G=>?_;have H:w'.heap[b]? =some (.map es c):=(G.blocks b (abq.1 B).1).trans B;simp only[execOp,resolve,invoke,builtin,Sem.run_bind,Sem.run_pure,Result.andThen_ok,adv,abF,acw,ex];rw[show(Builtin.len_ #[t] ty #[.map (some b)]).run P w'=.ok (goInt es.size) w' by simp [Builtin.len_,run_underlying hu,run_getObj_map w' b es c H]];rw[F];rfl
   ·exact aen
  ·exact aen
 ·exact aen
theorem uZ (s:List UInt8) (l m:Nat):(ByteArray.mk ⟨s⟩).extract l m=ByteArray.mk ⟨(s.take m).drop l⟩:=by
 apply ByteArray.ext;rw[ByteArray.data_extract];apply Array.ext';rw[List.drop_take];simp [Array.toList_extract,List.extract]
theorem HN (C:df P T) (u:bC μ h S w) (id g off len sz n:Nat) (e:TypeId) (f:Nat->List PV) (hh:h[id]? =some (ai.row g sz n e f)) (v:Value) (hv:bg μ h S w (.own id g off len) v) (l m:Nat) (D:l<=m) (hm:m<=len):
  ∃k c,v=.slice k len c/\len<=c/\∀(d:Nat),m<=d->d<=c->bg μ h S w (.own id g (off+l) (m - l)) (.slice (if d=l then k else k.map (·.add (l*sz))) (m - l) (d - l)):=by
 have a:=hv.lF;unfold aN at a;rw[hh]at a;obtain⟨_,_,a⟩:=a;obtain⟨hle,a⟩:=a rfl;cases j:μ id with
 | none=>
  rw[j]at a;obtain⟨_,o⟩:=u id _ _ _ _ _ hh;rw[j]at o;have o:n=0:=o;have h0:len=0:=by omega
  subst h0;have a:v=.slice none 0 0:=a;refine⟨none,0,a,abn _,λd h1 h2=>?_⟩;have x:m=0:=by omega
  have y:l=0:=by omega
  have A:d=0:=by omega
  subst x;subst y;subst A;show aN μ h w id g (off+0) (0 - 0) _;unfold aN;rw[hh];refine⟨⟨_,_,_,rfl⟩,abn _,λ_=>⟨by omega,?_⟩⟩;rw[j];rfl
 | some p=>
  obtain⟨b,base⟩:=p;rw[j]at a;obtain⟨s,cap,ex,B,q,t⟩:=a;refine⟨some s,cap,ex,B,λd h1 h2=>?_⟩;show aN μ h w id g (off+l) (m - l) _;unfold aN;rw[hh];refine⟨⟨_,_,_,rfl⟩,abn _,λ_=>⟨by omega,?_⟩⟩;rw[j];by_cases i:d=l
  ·refine⟨s,0,by rw[An i];subst i;simp,by omega,λh=>absurd h aeP,?_⟩;obtain⟨cur,r,z,q1,q2⟩:=t;refine⟨cur,r,z,q1,acg ?_ q2⟩;have:(off+l+0)*sz<=(off+cap)*sz:=abB _ aeP;omega
  ·have q:=q aeP;subst q;refine⟨⟨b,base+(off+l)*sz,none⟩,d - l,?_,by omega,λ_=>rfl,?_⟩
   ·rw[so i,adi,Addr.add_lit,abC,acQ]
   ·obtain⟨cur,r,z,q1,q2⟩:=t;refine⟨cur,r,z,q1,acg ?_ q2⟩;have:(off+l+(d - l))*sz<=(off+cap)*sz:=abB _ aeP;omega
theorem HO (sz n:Nat) (f:Nat->List PV) (v:Value) (hv:bg μ h S w (.eD sz n f) v) (l m:Nat) (s:l<=m) (hm:m<=n):
  ∃d c,v=.slice d n c/\((n<=c\/n=0)/\∀(a:Nat),m<=a->(a<=c\/m=0)->bg μ h S w (.eD sz (m - l) (λi=>f (l+i))) (.slice (if a=l then d else d.map (·.add (l*sz))) (m - l) (a - l))):=by
 rcases hv.qq with⟨d,c,ex,rfl⟩ | ⟨b,off,c,g,ex,k,hlen,hc,o,p⟩
 ·have q:m=0:=by omega
  subst q;have r:l=0:=by omega
  subst r;exact⟨d,c,ex,.inr rfl,λa _ _=>aI.lM _ _ _ _⟩
 ·refine⟨_,c,ex,.inl hc,λa h1 h2=>?_⟩;by_cases e:m=l
  ·subst e;rw[acx];exact aI.lM _ _ _ _
  ·rw[so aeP,adi,Addr.add_lit];refine aI.eD sz (m - l) _ b (off+l*sz) (a - l) (λi j=>g (l+i) j) k (λi hi=>hlen _ aeP) aeP (λi j pv hi hj=>?_) (λi j pv hi hj=>p _ j pv aeP hj);have:=o (l+i) j pv aeP hj;rw[abC]at this;rw[<-this];congr 2;omega
theorem cu {o:Oper} {s:Sem Value} {val:Value} {w' b:World} (he:execOp a.eval o=(do pure (Next.value (<-s)):Sem Next)) (hs:s.run P w'=.ok val b):(execOp a.eval o).run P w'=.ok (.value val) b:=by
 rw[he];exact uX hs
theorem rG (b:∀x,bg μ h S w (ev env x) (a.eval x)) {lo:Option Operand}:(lo.map (ev env)=none->lo.map a.eval=none)/\∀k n,lo.map (ev env)=some (.int k n)->lo.map a.eval=some (.int k n):=by
 cases lo with
 | none=>exact⟨λ_=>rfl,λk n h=>(by cases h)⟩
 | some x=>
  refine⟨λh=>(by cases h),λk n hh=>?_⟩;have hh:ev env x=.int k n:=by injection hh
  have:=b x;rw[hh]at this;show some (a.eval x)=_;rw[this.iX]
theorem EG {t e:TypeId} {i:TypeInfo} (hu:P.underlying t=some (.slice e)) (hi:P.info? e=some i) (a:Option Addr) (n c:Nat) (hc:n<=c) (w':World):
  ((Instr.sliceAt t (.slice a n c) none none none).run P w'=.ok (sliced a 0 n c i.size) w')/\
  (∀(k:IntKind) (l:Int),0<=l->l<=n->(Instr.sliceAt t (.slice a n c) (some (.int k l)) none none).run P w'=.ok (sliced a l.toNat n c i.size) w')/\
  (∀(k:IntKind) (m:Int),0<=m->m<=n->(Instr.sliceAt t (.slice a n c) none (some (.int k m)) none).run P w'=.ok (sliced a 0 m.toNat c i.size) w')/\
  (∀(k:IntKind) (l:Int) (b:IntKind) (m:Int),0<=l->l<=m->m<=n->(Instr.sliceAt t (.slice a n c) (some (.int k l)) (some (.int b m)) none).run P w'=.ok (sliced a l.toNat m.toNat c i.size) w')/\
  (∀(k:IntKind) (m:Int) (b:IntKind) (q:Int),0<=m->m<=q->q<=n->(Instr.sliceAt t (.slice a n c) none (some (.int k m)) (some (.int b q))).run P w'=.ok (sliced a 0 m.toNat q.toNat i.size) w')/\
  (∀(k:IntKind) (l:Int) (b:IntKind) (m:Int) (f:IntKind) (q:Int),0<=l->l<=m->m<=q->q<=n->(Instr.sliceAt t (.slice a n c) (some (.int k l)) (some (.int b m)) (some (.int f q))).run P w'=.ok (sliced a l.toNat m.toNat q.toNat i.size) w'):=by
 have he:P.elem t=e:=by simp [Program.elem,hu]
 have d:P.underlying t=some (.slice (P.elem t)):=by rw[he];exact hu
 have g:(n:Int)<=c:=by omega
 refine⟨?_,λk l h0 h1=>?_,λk m h0 h1=>?_,λk l b m h0 h1 h2=>?_,λk m b q h0 h1 h2=>?_,λk l b m f q h0 h1 h2 h=>?_⟩<;>rw[run_sliceAt_slice w' _ _ _ _ _ d]
 ·rw[run_slice_all w' t a n c d,he,jw hi];rfl
 ·rw[run_slice_l w' t a n c d k l h0 h1,he,jw hi];rfl
 ·rw[run_slice_h w' t a n c d k m h0 aeP,he,jw hi];rfl
 ·rw[run_slice_lh w' t a n c d k b l m h0 h1 aeP,he,jw hi];rfl
 ·rw[run_slice_hm w' t a n c d k b m q h0 h1 aeP,he,jw hi];rfl
 ·rw[run_slice_lhm w' t a n c d k b f l m q h0 h1 h2 aeP,he,jw hi];rfl
theorem cW.choose {o:Oper} (hs:cW P o a μ h S w (CE K)):cW P o a μ h S w K:=by
 obtain⟨v,val,d,hv,e⟩:=hs;cases v with
 | eD sz n f=>
  obtain⟨k,l,rfl,hf,d⟩:=d;refine⟨_,val,d,?_,e⟩;rcases hv.qq with⟨a,c,rfl,rfl⟩ | ⟨b,off,c,m,rfl,h1,h2,p,h4,q⟩
  ·exact aI.lM _ _ _ _
  ·exact aI.eD sz k l b off c m h1 (λi hi=>by rw[hf i hi];exact h2 i hi) p (λi j pv hi hj=>h4 i j pv hi aff) (λi j pv hi hj=>q i j pv hi aff)
 | str s=>
  obtain⟨_,rfl,d⟩:=d;exact⟨_,val,d,hv,e⟩
 | own id g off n=>
  obtain⟨_,_,rfl,rfl,d⟩:=d;exact⟨_,val,d,hv,e⟩
 | _=>exact⟨_,val,d,hv,e⟩
theorem CF (J:df P T) (hH:bC μ h S w) (L:∀t,bg μ h S w (env t) (a.tmps.getD t undef)) (t:Nat) (x:Operand) (lo hi j:Option Operand) (hp:bU T (.slice t x lo hi j) env h K):
  cW P ⟨dst,.slice t x lo hi j,ty,pos,after,guard⟩ a μ h S w K:=by
 have v:=bF L x;have p:=rG (λx=>bF L x) (lo:=lo);have r:=rG (λx=>bF L x) (lo:=hi);have A:=rG (λx=>bF L x) (lo:=j);unfold bU at hp;simp only at hp
 have key:∀(K:PV->Prop) (e:TypeId) (i:TypeInfo) (sz n:Nat) (o:Option Addr) (c:Nat) (R:Nat->Nat->PV),P.underlying t=some (.slice e)->P.info? e=some i->i.size=sz->a.eval x=.slice o n c->n<=c->
   (∀l m j,l<=m->m<=n->m<=j->j<=c->bg μ h S w (R l m) (.slice (if j=l then o else o.map (·.add (l*sz))) (m - l) (j - l)))->Na n (hi.map (ev env)) (j.map (ev env))->
   (match lo.map (ev env),hi.map (ev env)with
    | none,none=>K (R 0 n)
    | some (.int _ l),none=>(0<=l/\l<=n)/\K (R l.toNat n)
    | none,some (.int _ m)=>(0<=m/\m<=n)/\K (R 0 m.toNat)
    | some (.int _ l),some (.int _ m)=>(0<=l/\l<=m/\m<=n)/\K (R l.toNat m.toNat)
    | _,_=>False)->cW P ⟨dst,.slice t x lo hi j,ty,pos,after,guard⟩ a μ h S w K:=by
  intro K e i sz n o c R hu B C ex hc D hm hp;subst C;have y:=λw'=>EG (P:=P) hu B o n c hc w'
  have fin:∀(l m q:Nat),l<=m->m<=n->m<=q->q<=c->K (R l m)->(∀w',(Instr.sliceAt t (.slice o n c) (lo.map a.eval) (hi.map a.eval) (j.map a.eval)).run P w'=.ok (sliced o l m q i.size) w')->
    cW P ⟨dst,.slice t x lo hi j,ty,pos,after,guard⟩ a μ h S w K:=λl m q h1 h2 E h4 M N=>.mk M (D l m q h1 h2 E h4) λw' _=>cu rfl (by rw[ex];exact N w')
  unfold Na at hm;split at hm
  ·rename_i d;have d:=A.1 d;split at hp
   ·rename_i b e2;exact fin 0 n c aeP aeP hc aeP hp λw'=>by rw[p.1 b,r.1 e2,d];exact(y w').1
   ·rename_i k l b e2;obtain⟨⟨h0,h1⟩,hp⟩:=hp;exact fin l.toNat n c aeP aeP hc aeP hp λw'=>by rw[p.2 _ _ b,r.1 e2,d];exact(y w').2.1 _ _ h0 h1
   ·rename_i k m b e2;obtain⟨⟨h0,h1⟩,hp⟩:=hp;exact fin 0 m.toNat c aeP aeP aeP aeP hp λw'=>by rw[p.1 b,r.2 _ _ e2,d];exact(y w').2.2.1 _ _ h0 h1
   ·rename_i k l O m b e2;obtain⟨⟨h0,h1,h2⟩,hp⟩:=hp;exact fin l.toNat m.toNat c aeP aeP aeP aeP hp λw'=>by rw[p.2 _ _ b,r.2 _ _ e2,d];exact(y w').2.2.2.1 _ _ _ _ h0 h1 h2
   ·exact aen
  ·rename_i Yb q d;have d:=A.2 _ _ d;split at hm
   ·rename_i k3 m u;obtain⟨Z,F⟩:=hm;rw[u]at hp;split at hp
    ·rename_i b e2;cases e2
    ·rename_i b e2;cases e2
    ·rename_i k m' b e2;injection e2 with e2;injection e2 with Q U;subst Q;subst U;obtain⟨⟨h0,h1⟩,hp⟩:=hp;exact fin 0 m.toNat q.toNat aeP aeP aeP aeP hp λw'=>by rw[p.1 b,r.2 _ _ u,d];exact(y w').2.2.2.2.1 _ _ _ _ h0 Z F
    ·rename_i k l O m' b e2;injection e2 with e2;injection e2 with Q U;subst Q;subst U;obtain⟨⟨h0,h1,h2⟩,hp⟩:=hp;exact fin l.toNat m.toNat q.toNat aeP aeP aeP aeP hp λw'=>by rw[p.2 _ _ b,r.2 _ _ u,d];exact(y w').2.2.2.2.2 _ _ _ _ _ _ h0 h1 Z F
    ·exact aen
   ·exact hm.elim
  ·exact hm.elim
 split at hp
 ·rename_i e sz bt z bw n f G hex;rw[hex]at v;replace hp:=aW hp;obtain⟨V,hm,hp⟩:=hp;obtain rfl:=abo V;obtain⟨hu,_,inf,zv,B,C,_⟩:=J.slice _ _ _ _ _ G;have e0:(λi=>f (0+i))=f:=by funext i;rw[abx]
  have H:=λl m (h1:l<=m) (h2:m<=n)=>HO sz n f _ v l m h1 h2;obtain⟨o,c,ex,hc,_⟩:=H 0 0 (abn _) (abY _);have hc:n<=c:=by rcases hc with hc | hc<;>omega
  refine cW.choose ?_;refine key (CE K) e inf sz n o c (λl m=>.eD sz (m - l) (λi=>f (l+i))) hu B C ex hc (λl m q h1 h2 E h4=>?_) hm ?_
  ·obtain⟨W,c',I,_,D⟩:=H l m h1 h2;rw[ex]at I;injection I with b e2 d;subst b;subst d;exact D q E (.inl h4)
  ·simp only[e0,Nat.sub_zero];exact hp
 ·rename_i e sz bt z id gen off len G hex;rw[hex]at v;obtain⟨hu,_,inf,zv,B,C,_⟩:=J.slice _ _ _ _ _ G;split at hp
  ·rename_i g bw n' e' f zO;obtain⟨rfl,hp⟩:=hp;replace hp:=aW hp;obtain⟨V,hm,hp⟩:=hp;obtain rfl:=abo V;have hh:=dw zO;have H:=λl m (h1:l<=m) (h2:m<=len)=>HN J hH id g off len sz n' e' f hh _ v l m h1 h2;obtain⟨o,c,ex,hc,_⟩:=H 0 0 (abn _) (abY _);refine cW.choose ?_;refine key (CE K) e inf sz len o c (λl m=>.own id g (off+l) (m - l)) hu B C ex hc (λl m q h1 h2 E h4=>?_) hm ?_
   ·obtain⟨W,c',I,_,D⟩:=H l m h1 h2;rw[ex]at I;injection I with b e2 d;subst b;subst d;exact D q E h4
   ·exact hp
  ·exact aen
 ·rename_i s G hex;rw[hex]at v;replace hp:=aW hp;obtain⟨X,hp⟩:=hp;obtain rfl:j=none:=by simpa using X
  refine cW.choose ?_;generalize CE K=K at*;have ex:=v.kd;have hu:=J.str _ G;have fy:(ByteArray.mk ⟨s⟩).size=s.length:=rfl
  have fin:∀(l m:Nat) (Y:List UInt8),Y=(s.take m).drop l->K (.str Y)->(∀w',(Instr.sliceAt t (.string ⟨⟨s⟩⟩) (lo.map a.eval) (hi.map a.eval) none).run P w'=.ok (.string ((ByteArray.mk ⟨s⟩).extract l m)) w')->
    cW P ⟨dst,.slice t x lo hi none,ty,pos,after,guard⟩ a μ h S w K:=λl m Y hs M N=>.mk M (aI.str _) λw' _=>cu rfl (by rw[ex,hs,<-uZ];exact N w')
  simp only[xJ]at hp;split at hp
  ·rename_i b e2;exact fin 0 s.length s aeR hp λw'=>by rw[p.1 b,r.1 e2,run_sliceAt_string w' _ _ _ _ _ hu,run_slice_string_all w' t ⟨⟨s⟩⟩ hu];rfl
  ·rename_i k l b e2;obtain⟨⟨h0,h1⟩,hp⟩:=hp;exact fin l.toNat s.length _ aeR hp λw'=>by rw[p.2 _ _ b,r.1 e2,run_sliceAt_string w' _ _ _ _ _ hu,run_slice_string_l w' t ⟨⟨s⟩⟩ hu k l h0 h1];rfl
  ·rename_i k m b e2;obtain⟨⟨h0,h1⟩,hp⟩:=hp;exact fin 0 m.toNat _ aeR hp λw'=>by rw[p.1 b,r.2 _ _ e2,run_sliceAt_string w' _ _ _ _ _ hu,run_slice_string_h w' t ⟨⟨s⟩⟩ hu k m h0 h1]
  ·rename_i k l O m b e2;obtain⟨⟨h0,h1,h2⟩,hp⟩:=hp;exact fin l.toNat m.toNat _ rfl hp λw'=>by rw[p.2 _ _ b,r.2 _ _ e2,run_sliceAt_string w' _ _ _ _ _ hu,run_slice_string w' t ⟨⟨s⟩⟩ k O l m hu h0 h1 h2]
  ·exact aen
 ·exact aen
theorem mD:∀(cs l:List PV) (off j:Nat),off+cs.length<=l.length->(fC l off cs)[j]? =if off<=j/\j<off+cs.length then cs[j - off]? else l[j]?
 | [],l,off,j,_=>by
  simp only[fC,abr,ace];rw[so aeP]
 | c::r,l,off,j,a=>by
  simp only[fC,abp]at a ⊢;rw[mD r (l.set off c) (off+1) j aeU];by_cases h1:j=off
  ·subst h1;rw[so aeP,An aeP,acx,acm aeP];rfl
  ·rw[abL aeP];by_cases h2:off+1<=j/\j<off+1+r.length
   ·rw[An h2,An aeP];have:j - off=(j - (off+1))+1:=by omega
    rw[this,acA]
   ·rw[so h2,so aeP]
theorem ke:∀(cs l:List PV) (off:Nat),(fC l off cs).length=l.length
 | [],_,_=>rfl
 | c::r,l,off=>by simp only[fC];rw[ke r];simp
theorem aI.no {pv:PV} {v:Value} (h:aI S w pv v):dL pv=false:=by cases h<;>rfl
theorem Gn {c:PV} (h:jI c=true):dL c=false:=by cases c<;>first | rfl | cases h
theorem EH {v:PV} (h:storable v=true) {j:Nat} {pv:PV} (hj:(cellsOf v)[j]? =some pv):dL pv=false:=by
 have hm:=abA hj;cases v with
 | agg cs=>exact Gn (abw.1 h pv hm)
 | _=>exact Gn (by rw[acb.1 hm];exact h)
theorem kg {pv:PV} {v:Value} (hs:storable pv=true) (hv:bg μ h S w pv v):
  v.cells.toList.length=(cellsOf pv).length/\∀(j:Nat) (p:PV),(cellsOf pv)[j]? =some p->∃u,v.cells.toList[j]? =some u/\bp μ h S w p u:=by
 have one:∀(hc:bp μ h S w pv v),cellsOf pv=[pv]->v.cells.toList.length=(cellsOf pv).length/\∀(j:Nat) (p:PV),(cellsOf pv)[j]? =some p->∃u,v.cells.toList[j]? =some u/\bp μ h S w p u:=by
  intro hc he;have h1:=hc.one;have h2:v.cells=#[v]:=by cases v<;>first | rfl | cases h1
  rw[h2,he];refine⟨rfl,λj p hj=>?_⟩;cases j with
  | zero=>
   simp at hj;subst hj;exact⟨v,rfl,hc⟩
  | succ j=>simp at hj
 cases pv with
 | agg cs=>
  obtain⟨vs,rfl,h2,a⟩:=hv;refine⟨by simpa[Value.cells,cellsOf]using h2,λj p hj=>?_⟩;obtain⟨u,hu,c⟩:=a j p hj;exact⟨u,by simpa[Value.cells]using hu,c⟩
 | eC vs=>cases hs
 | eM sz n e f F=>cases hs
 | gf=>cases hs
 | kC id=>exact one hv rfl
 | lv f bq=>exact one hv rfl
 | int k n=>exact one hv rfl
 | bool b=>exact one hv rfl
 | str s=>exact one hv rfl
 | aF=>exact one hv rfl
 | fG=>exact one hv rfl
 | eD sz n f=>exact one hv rfl
 | ez cs=>exact one hv rfl
 | own id gen off len=>exact one hv rfl
 | aE id gen i off=>exact one hv rfl
 | fn f=>exact one hv rfl
theorem zP:∀(l:List Value) (s off:Nat) (cs:Array Value),off+s+l.length<=cs.size->
  ((l.zipIdx s).foldl (λ(cs:Array Value) (p:Value×Nat)=>cs.setIfInBounds (off+p.2) p.1) cs).size=cs.size/\
  ∀q,((l.zipIdx s).foldl (λ(cs:Array Value) (p:Value×Nat)=>cs.setIfInBounds (off+p.2) p.1) cs)[q]? =if off+s<=q/\q<off+s+l.length then l[q - (off+s)]? else cs[q]?
 | [],s,off,cs,_=>by
  refine⟨rfl,λq=>?_⟩;simp only[List.zipIdx_nil,List.foldl_nil,abr,ace];rw[so aeP]
 | v::r,s,off,cs,b=>by
  simp only[abp]at b;obtain⟨h1,h2⟩:=zP r (s+1) off (cs.setIfInBounds (off+s) v) aeU;simp only[List.zipIdx_cons,List.foldl_cons,abp];refine⟨by rw[h1];simp,λq=>?_⟩;rw[h2 q];by_cases c:q=off+s
  ·subst c;rw[so aeP,An aeP,acx];simp [Array.getElem?_setIfInBounds,show off+s<cs.size from by omega]
  ·by_cases a:off+(s+1)<=q/\q<off+(s+1)+r.length
   ·rw[An a,An aeP];have:q - (off+s)=(q - (off+(s+1)))+1:=by omega
    rw[this,acA]
   ·rw[so a,so aeP,adh aeP]
theorem oT (v:Value) (off:Nat) (cs:Array Value) (a:off+v.cells.size<=cs.size):
  (v.cells.zipIdx.foldl (λ(cs:Array Value) (p:Value×Nat)=>cs.setIfInBounds (off+p.2) p.1) cs).size=cs.size/\
  ∀q,(v.cells.zipIdx.foldl (λ(cs:Array Value) (p:Value×Nat)=>cs.setIfInBounds (off+p.2) p.1) cs)[q]? =if off<=q/\q<off+v.cells.size then v.cells[q - off]? else cs[q]?:=by
 have h:=zP v.cells.toList 0 off cs (by simpa using a);rw[<-Array.foldl_toList];simp only[Array.toList_zipIdx,ace,acn,abJ]at h ⊢;exact h
theorem EI {l:List PV} (a:isByte l=true):∃v,l=[.int .u8 v]:=by
 unfold isByte at a;split at a
 ·exact⟨_,rfl⟩
 ·cases a
theorem xK {g:Nat->List PV} {s:List UInt8} {n:Nat} (a:s.length=n) (hf:∀i,i<n->g i=[.int .u8 (s.getD i 0).toNat]):(∀i,i<n->isByte (g i)=true)/\(List.range n).map (λi=>byteOf (g i))=s:=by
 refine⟨λi hi=>by rw[hf i hi];rfl,?_⟩;apply List.ext_getElem (by simp [a]);intro i h1 h2;simp only[abT,List.length_range]at h1;rw[acy,List.getElem_range,hf i h1];simp [byteOf,abv,abm h2]
theorem zb (y:df P T) (L:bC μ h S w) (M:∀t,bg μ h S w (env t) (a.tmps.getD t undef)) (s d:Nat) (x:Operand) (hp:bU T (.convert s d x) env h K):
  cW P ⟨dst,.convert s d x,ty,pos,after,guard⟩ a μ h S w K:=by
 have m:=bF M x;unfold bU at hp;simp only at hp;split at hp
 ·rename_i k0 k k1 n hs hd hex;rw[hex]at m
  exact .mk hp (aI.int _ _) λw' _=>cu rfl (by
   rw[m.iX];simp [convert,run_underlying (y.int _ _ hs),run_underlying (y.int _ _ hd),Conv.intToInt])
 ·rename_i e sz bt z hs hd;split at hp
  ·rename_i F;have hu:=(y.slice _ _ _ _ _ hs).1;have o:=y.int _ _ F;have r:=y.str _ hd
   have key:∀(b off c n:Nat) (g:Nat->List PV),a.eval x=.slice (some ⟨b,off,none⟩) n c->(∀i,i<n->isByte (g i)=true)->K (.str ((List.range n).map λi=>byteOf (g i)))->
     (∀i v,i<n->g i=[.int .u8 v]->w.cell? ⟨b,off+i,none⟩=some (.int .u8 v))->cW P ⟨dst,.convert s d x,ty,pos,after,guard⟩ a μ h S w K:=by
    intro b off c n g ex A j B;have num:∀i,i<n->∃v,g i=[.int .u8 v]:=λi hi=>EI (A i hi)
    let val:Nat->Int:=λi=>match g i with | [.int _ v]=>v | _=>0
    have I:∀i,i<n->g i=[.int .u8 (val i)]:=λi hi=>by
     obtain⟨v,hv⟩:=num i hi;simp only[val,hv]
    refine .mk j (aI.str _) λw' N=>cu rfl ?_;rw[ex,run_convert_bytes_arg w' s e hu o b off n c ((List.range n).map val) aeR (λi hi=>?_) d r]
    ·congr 2;simp only[strOfNums]
     have:((List.range n).map val).map (λq=>UInt8.ofNat q.toNat)=(List.range n).map λi=>byteOf (g i):=by
      rw[List.map_map];apply List.map_congr_left;intro i hi;rw[I i (adn.1 hi)];rfl
     rw[this]
    ·rw[N.cell (B i _ hi (I i hi))];simp [abv,hi]
   unfold rH at hp;split at hp
   ·rename_i hex;rw[hex]at m;refine .mk hp (aI.str _) λw' _=>cu rfl ?_;rw[m.lT,run_convert_bytes_nil w' s e hu o 0 0 d r];rfl
   ·rename_i O n f hex;rw[hex]at m;replace hp:=aW hp;obtain⟨h1,G,C,D,j⟩:=hp;obtain⟨A,E⟩:=xK C D;replace j:K (.str G):=j;rw[<-E]at j;clear C D E;obtain rfl:=abo h1;rcases m.qq with⟨Q,c,ex,rfl⟩ | ⟨b,off,c,R,ex,hS,U,hc,B,V⟩
    ·cases Q with
     | none=>
      refine .mk j (aI.str _) λw' _=>cu rfl ?_;rw[ex,run_convert_bytes_nil w' s e hu o 0 c d r];rfl
     | some H=>
      refine .mk j (aI.str _) λw' _=>cu rfl ?_;rw[ex,run_convert_bytes_string w' s d e _ 0 c hu o r,run_bytesToString w' H 0 c [] (by simp [loadCells,loadCellsFrom])];rfl
    ·refine key b off c n f ex A j λi v hi hv=>?_;have q1:=B i 0 (.int .u8 v) hi (by rw[hv];rfl);have q2:=V i 0 (.int .u8 v) hi (by rw[hv];rfl);rw[Nat.mul_one,ace]at q1;rw[q1];generalize R i 0=u at q2;cases q2;rfl
   ·rename_i id gen off n hex;rw[hex]at m;split at hp
    ·rename_i g O W J f X;obtain⟨rfl,hp⟩:=hp;replace hp:=aW hp;obtain⟨h1,G,C,D,j⟩:=hp;obtain⟨A,E⟩:=xK (g:=λi=>f (off+i)) C D;replace j:K (.str G):=j;rw[<-E]at j;clear C D E;obtain rfl:=abo h1;have hh:=dw X;have l:=m.lF;unfold aN at l;rw[hh]at l;obtain⟨⟨a0,l0,c0,e0⟩,_,l⟩:=l;obtain⟨Y,l⟩:=l rfl;obtain⟨U,hc⟩:=L id g 1 W J f hh;cases hm:μ id with
     | none=>
      rw[hm]at l hc;have Z:n=0:=by omega
      subst Z;refine .mk j (aI.str _) λw' _=>cu rfl ?_;rw[show a.eval x=.slice none 0 0 from l,run_convert_bytes_nil w' s e hu o 0 0 d r];rfl
     | some p=>
      obtain⟨b,base⟩:=p;rw[hm]at l hc;obtain⟨H,cap,ex,dN,pf,EF⟩:=l;obtain⟨cur,jC,lP,B⟩:=bC.cells EF hc;rcases acp n with h0 | h0
      ·subst h0;refine .mk j (aI.str _) λw' _=>cu rfl ?_;rw[ex,run_convert_bytes_string w' s d e _ 0 cap hu o r,run_bytesToString w' H 0 cap [] (by simp [loadCells,loadCellsFrom])];rfl
      ·rw[pf aeP,Nat.mul_one]at ex;refine key b (base+off) cap n (λi=>f (off+i)) ex A j λi v hi hv=>?_;obtain⟨u,q1,q2⟩:=B (off+i) 0 (.int .u8 v) aeP (by rw[hv];rfl);have q2:aI S w (.int .u8 v) u:=q2;cases q2;rw[cell_of_row w b (base+off+i) cur J (0,0) jC,<-q1];congr 1;omega
    ·exact aen
   ·exact aen
  ·exact aen
 ·exact aen
theorem xL (j:∀t,bg μ h S w (env t) (a.tmps.getD t undef)) (x:Operand) (hp:bU T (.nilCheck x) env h K):
  cW P ⟨dst,.nilCheck x,ty,pos,after,guard⟩ a μ h S w K:=by
 have c:=bF j x;unfold bU at hp;simp only at hp;split at hp
 ·rename_i cs hex;rw[hex]at c;obtain⟨b,off,l,ex,_⟩:=c.tb;exact .mk hp c λw' _=>by simp [execOp,ex]
 ·rename_i id gen i off hex;rw[hex]at c;split at hp
  ·rename_i g sz n e f k;obtain⟨rfl,hp⟩:=hp;have hh:=dw k;have d:=c.pX;unfold bD at d;rw[hh]at d;obtain⟨_,_,d⟩:=d;obtain⟨m,b,base,o,p,hv⟩:=d rfl;exact .mk hp c λw' _=>by simp [execOp,hv]
  ·exact aen
 ·exact aen
theorem u0 (c:df P T) {s sz k o size:Nat} {fl:List (Nat×Nat×Bool)} {z:List PV} {a:Bool} (e:T.get s=.struct sz fl z) (g:fl[k]? =some (o,size,a)) (b off:Nat) (w':World):
  (Instr.fieldAt s (.pointer (some ⟨b,off,none⟩)) k).run P w'=.ok (.pointer (some ⟨b,off+o,none⟩)) w':=by
 obtain⟨fs,i,hu,hi,l,m,_,hf⟩:=c.struct _ _ _ _ e;obtain⟨f,j,d,h1,h2,h,h4,n,p,q⟩:=hf k o size a g;have h0:¬j.size=0:=by omega
 simp [Instr.fieldAt,run_underlying hu,h1,Instr.sureAddr,fieldPlace,jw h,h0,Addr.add_lit,h2]
theorem vK (l:df P T) (q:∀t,bg μ h S w (env t) (a.tmps.getD t undef)) (s:Nat) (x:Operand) (k:Nat) (hp:bU T (.fieldAddr s x k) env h K):
  cW P ⟨dst,.fieldAddr s x k,ty,pos,after,guard⟩ a μ h S w K:=by
 have d:=bF q x;unfold bU at hp;simp only at hp;split at hp
 ·rename_i sz fl z m;split at hp
  ·rename_i o size E p;split at hp
   ·rename_i cs hex;rw[hex]at d;obtain⟨b,off,r,ex,u,v,y⟩:=d.tb;refine .mk hp (aI.ez (cs.drop o) b (off+o) (λj=>r (o+j)) u (λj pv hj=>?_) (λj pv hj=>?_)) λw' _=>cu rfl (by rw[ex];exact u0 l m p b off w')
    ·rw[acf]at hj;rw[acQ];exact v _ _ hj
    ·rw[acf]at hj;exact y _ _ hj
   ·rename_i id gen i off hex;rw[hex]at d;split at hp
    ·rename_i g F n e f A;obtain⟨rfl,hp⟩:=hp;have hh:=dw A;have c:=d.pX;unfold bD at c;rw[hh]at c;obtain⟨_,_,c⟩:=c;obtain⟨B,b,base,C,D,hv⟩:=c rfl;refine .mk hp ?_ λw' _=>cu rfl (by rw[hv];exact u0 l m p b _ w');show bD _ _ _ _ _ _ _ _;unfold bD;rw[hh];exact⟨⟨_,rfl⟩,abn _,λ_=>⟨B,b,base,C,D,by simp only[acQ]⟩⟩
    ·exact aen
   ·exact aen
  ·exact aen
 ·exact aen
theorem tl (g:∀t,bg μ h S w (env t) (a.tmps.getD t undef)) (sz:Nat) (fl:List (Nat×Nat×Bool)) (place:Nat->Option (Nat×Nat)) (i:∀(k o size:Nat) (d:Bool),fl[k]? =some (o,size,d)->place k=some (o,size)) {K:List PV->Prop}:
  ∀(l:List (Nat×Operand)) (acc:List PV) (cells:Array Value),lV env sz fl K l acc->cells.size=sz->acc.length=sz->(∀(j:Nat) (pv:PV),acc[j]? =some pv->∃u,cells[j]? =some u/\bp μ h S w pv u)->
  ∃b c,K b/\Instr.fill place cells (l.map λp=>(p.1,a.eval p.2))=some c/\c.size=sz/\b.length=sz/\∀(j:Nat) (pv:PV),b[j]? =some pv->∃u,c[j]? =some u/\bp μ h S w pv u
 | [],acc,cells,hp,hs,e,f=>⟨acc,cells,hp,rfl,hs,e,f⟩
 | (k,x)::r,acc,cells,hp,hs,e,f=>by
  unfold lV at hp;split at hp
  ·rename_i o size d s;replace hp:=aW (bG hp);obtain⟨m,hp⟩:=hp;simp only[Is]at m;obtain⟨⟨v,hlen⟩,n⟩:=m;have hlen:=abo hlen;have n:=abO n;obtain⟨q,h4⟩:=kg v (bF g x);simp only[acn,abJ]at q h4;have y:(a.eval x).cells.size=size:=q.trans hlen;obtain⟨z,g2⟩:=oT (a.eval x) o cells aeP
   obtain⟨b,c,q1,q2,q3⟩:=tl g sz fl place i r (fC acc o (cellsOf (ev env x))) ((a.eval x).cells.zipIdx.foldl (λ(cs:Array Value) (p:Value×Nat)=>cs.setIfInBounds (o+p.2) p.1) cells) hp (z.trans hs) (by rw[ke];exact e)
    (λj pv hj=>by
     rw[mD _ _ _ _ aeP]at hj;rw[g2 j];by_cases hc:o<=j/\j<o+size
     ·rw[An aeP]at hj;rw[An aeP];exact h4 _ _ hj
     ·rw[so aeP]at hj;rw[so aeP];exact f j pv hj)
   refine⟨b,c,q1,?_,q3⟩;simp only[abF,Instr.fill,i k o size d s];rw[so (by simp only[y,ne_eq,not_true_eq_false,false_or];simp only[acr,abH,not_or];simp;omega)];exact q2
  ·exact aen
theorem zQ:∀(fs:List Field) (n:Nat) (fl:List (Nat×Nat×Bool)),fl.length=fs.length->
  (∀(k o size:Nat) (a:Bool),fl[k]? =some (o,size,a)->∃f j,fs[k]? =some f/\f.offset=o/\P.info? f.type=some j/\j.size=size)->
  fs.mapM (λf=>(P.info? f.type).map λi=>(f.offset,i.size))=some (fl.map λq=>(q.1,q.2.1))
 | [],n,[],_,_=>rfl
 | f::fs,n,(o,size,a)::fl,b,hf=>by
  obtain⟨g,j,h1,h2,c,h4⟩:=hf 0 o size a rfl;simp at h1;subst h1
  have d:=zQ fs n fl (by simpa using b) (λk o size a e=>by
   obtain⟨f,j,q⟩:=hf (k+1) o size a (by simpa using e);exact⟨f,j,by simpa using q⟩)
  simp only[List.mapM_cons,abF,c,adi,Option.bind_eq_bind,adw,d,h2,h4];rfl
theorem CG (n:df P T) (r:∀t,bg μ h S w (env t) (a.tmps.getD t undef)) (t:Nat) (parts:Array (Nat×Operand)) (hp:bU T (.build t parts) env h K):
  cW P ⟨dst,.build t parts,ty,pos,after,guard⟩ a μ h S w K:=by
 unfold bU at hp;simp only at hp;split at hp
 ·rename_i sz fl z s;obtain⟨fs,i,hu,hi,F,u,⟨c,v,x,y,A⟩,hf⟩:=n.struct _ _ _ _ s
  have B:=zQ (P:=P) fs.toList 0 fl (by simpa using u) (λk o size g e=>by
   obtain⟨f,j,d,h1,h2,C,h4,_⟩:=hf k o size g e;exact⟨f,j,by simpa using h1,h2,C,h4⟩)
  obtain⟨G,l,q1,q2,q3,q4,D⟩:=tl (a:=a) (μ:=μ) (h:=h) (S:=S) (w:=w) r sz fl ((fl.map λq=>(q.1,q.2.1)).toArray[·]?) (λk o size g e=>by simp [e]) parts.toList z c.cells hp x y (λj pv hj=>by
   have m:j<c.cells.size:=by
    have:=(As.1 hj).1;omega
   obtain⟨pv',b,_,E⟩:=A j c.cells[j] (abM m);rw[hj]at b;injection b with b;subst b;exact⟨_,abM m,bp.ir (E S w)⟩)
  refine .mk q1 ⟨l,rfl,by omega,D⟩ λw' _=>cu rfl (run_build w' t _ l ?_);unfold Program.built;simp only[hi,hu,v,B];have:(parts.map λp=>(p.1,a.eval p.2)).toList=parts.toList.map λp=>(p.1,a.eval p.2):=by simp
  rw[this];exact q2
 ·exact aen
theorem CH {P:Program} {t:TypeId} {d:TypeDesc} {j:TypeInfo} (hu:P.underlying t=some d) (hi:P.info? t=some j) (cs:Array Value) (off:Nat) (w:World):
  (part t cs off).run P w=if xA d then .ok (.agg (cs.extract off (off+j.size))) w else match cs[off]? with | some v=>.ok v w | none=>(part t cs off).run P w:=by
 cases hd:xA d with
 | true=>simp [part,tc hu,hd,jw hi]
 | false=>
  simp only[acD,adp];cases hc:cs[off]? with
  | none=>rfl
  | some v=>simp [part,tc hu,hd,hc]
theorem CI (B:df P T) (C:∀t,bg μ h S w (env t) (a.tmps.getD t undef)) (s:Nat) (x:Operand) (k:Nat) (hp:bU T (.field s x k) env h K):
  cW P ⟨dst,.field s x k,ty,pos,after,guard⟩ a μ h S w K:=by
 have l:=bF C x;unfold bU at hp;simp only at hp;split at hp
 ·rename_i sz fl z D;split at hp
  ·rename_i o size E F;split at hp
   ·rename_i cs hex;rw[hex]at l;obtain⟨vs,ex,H,hv⟩:=l;obtain⟨fs,i,hu,hi,I,J,_,hf⟩:=B.struct _ _ _ _ D;obtain⟨f,j,d,h1,h2,m,h4,L,n,p⟩:=hf k o size E F
    have y:∀w' v,(part f.type vs f.offset).run P w'=.ok v w'->(execOp a.eval ⟨dst,.field s x k,ty,pos,after,guard⟩).run P w'=.ok (.value v) w':=λw' v G=>cu rfl (by
     rw[ex];simp [Instr.field,run_underlying hu,h1,G,asAgg])
    split at hp
    ·obtain⟨hle,A⟩:=lU _ _ _ hp;simp only[adu,acj,adx]at A hle;refine .mk A (val:=.agg (vs.extract o (o+size))) ⟨_,rfl,by simp;omega,λq pv b=>?_⟩ λw' _=>y w' _ (by rw[CH n m,<-p,An rfl,h2,h4]);rw[aco]at b;split at b
     ·rename_i M;rw[acf]at b;obtain⟨u,e,g⟩:=hv _ _ b;refine⟨u,?_,g⟩;rw[Array.getElem?_extract];have:o+q<vs.size:=(abq.1 e).1;rw[An aeP];exact e
     ·cases b
    ·split at hp
     ·rename_i c r hd
      have h0:cs[o]? =some c:=by
       have:=congrArg (·[0]?) hd;simpa using this
      obtain⟨u,e,g⟩:=hv _ _ h0;exact .mk (bG hp) g.v λw' _=>y w' _ (by rw[CH n m,<-p,h2];simp [e])
     ·exact aen
   ·exact aen
  ·exact aen
 ·exact aen
theorem mZ.HQ {pv:PV} {v:Value} (hs:iq pv=true) (a:mZ pv v):bg μ h S w pv v:=by
 have one:∀(pv:PV) (v:Value),pZ pv=true->oS pv v->bp μ h S w pv v:=λpv v hs a=>by
  cases pv<;>first | (cases hs;done) | (have a:v=_:=a;subst a;first | exact aI.int _ _ | exact aI.bool _ | exact aI.str _) | exact a
 cases pv with
 | agg cs=>
  obtain⟨vs,h1,h2,c⟩:=a;exact⟨vs,h1,h2,λj pv hj=>let⟨u,hu,hc⟩:=c j pv hj;⟨u,hu,one pv u (abw.1 hs _ (abA hj)) hc⟩⟩
 | gf=>trivial
 | int k n=>exact one (.int k n) v rfl a
 | bool b=>exact one (.bool b) v rfl a
 | str s=>exact one (.str s) v rfl a
 | _=>cases hs
theorem mZ.Vx {pv:PV} {v:Value} (hs:iq pv=true) (a:mZ pv v):gK μ h S w pv v:=by
 have:=mZ.HQ (μ:=μ) (h:=h) (S:=S) (w:=w) hs a;cases pv with
 | eC _=>cases hs
 | _=>exact this
theorem Bi (G:df P T) (U:bC μ h S w) (H:∀t,bg μ h S w (env t) (a.tmps.getD t undef)) (t:Nat) (x i:Operand) (ok:Bool) (hp:bU T (.lookup t x i ok) env h K):
  cW P ⟨dst,.lookup t x i ok,ty,pos,after,guard⟩ a μ h S w K:=by
 have I:=bF H x;have hi:=bF H i;simp only[bU]at hp;split at hp
 ·rename_i kt et zv id V hex;rw[hex]at I;split at hp
  ·rename_i g sz n e f W;replace hp:=aW (bG hp);obtain⟨X,r,b,hm,J⟩:=hp;obtain⟨hu,inf,z,Y,Z,fy,OC,qZ⟩:=G.map _ _ _ _ V;obtain⟨k,base,es,c,fD,ex,u,hn,L⟩:=xD U (dw W) I.Bh;obtain⟨q0,h0⟩:=Option.isSome_iff_exists.1 X;obtain⟨d,s,hd,M,N⟩:=Gm G hi h0
   have O:∀m,m<=n->zR (T.get kt) f m (ev env i)->∀j,j<m->∀y:MapEntry,es.toList[j]? =some y->pY P kt d s (a.eval i) y.key false:=λm aa o j hj y hy=>by
    obtain⟨v,vp,h1,h2⟩:=o j hj;obtain⟨SQ,SR,en,p,_,_,h4,A,_⟩:=L j aeP;rw[h1]at p;injection p with B e2;subst B;have:y=en:=by rw[abJ]at hy;exact abP (hy.symm.trans h4)
    subst this;exact N v y.key false A h2
   have run:∃val,mZ r val/\iq r=true/\∀w',bR w w'->(Instr.lookup t (.map (some k)) (a.eval i) ok).run P w'=.ok (if ok then .tuple #[val,.bool b]else val) w':=by
    rcases hm with⟨rfl,C,D,o,v,hf,hq⟩ | ⟨rfl,rfl,o⟩
    ·obtain⟨SQ,SR,en,p,_,h6,h4,A,h7⟩:=L C D;rw[hf]at p;injection p with B e2;injection e2 with e2 _;subst B e2;refine⟨en.val,h7,h6,λw' l=>?_⟩;have E:w'.heap[k]? =some (.map es c):=(l.blocks k (abq.1 u).1).trans u;have F:=xG (P:=P) (w':=w') hd es.toList C en (O C aeP o) (by rw[abJ];exact h4) (N v en.key true A hq);simp [Instr.lookup,run_underlying hu,run_getObj_map w' k es c E,M,F]
    ·refine⟨z,fy,OC,λw' l=>?_⟩;have E:w'.heap[k]? =some (.map es c):=(l.blocks k (abq.1 u).1).trans u
     have F:=th (P:=P) (w':=w') hd es.toList (λj y hy=>O n (abn _) o j (by
      have:=(As.1 hy).1;rw[<-hn];simpa using this) y hy)
     simp [Instr.lookup,run_underlying hu,run_getObj_map w' k es c E,M,F,zeroValue,typeInfo,Y,Z]
   obtain⟨val,Q,q,R⟩:=run;cases ok with
   | true=>
    refine .mk J ?_ λw' l=>cu rfl (by rw[ex];exact R w' l)
    exact⟨_,rfl,rfl,λj pv hj=>by
     rcases j with _ | _ | j
     ·cases hj;exact⟨_,rfl,Q.Vx q⟩
     ·cases hj;exact⟨_,rfl,aI.bool _⟩
     ·simp at hj⟩
   | false=>exact .mk (bG J) (Q.HQ q) λw' l=>cu rfl (by rw[ex];exact R w' l)
  ·exact aen
 ·exact aen
theorem xN {env:Env} {K:List (Nat×Nat)->Prop}:∀(l:List Operand) (acc:List (Nat×Nat)),p6 env K l acc->∃bq,K (acc.reverse++bq)/\bq.length=l.length/\∀(j:Nat) (x:Operand) (p:Nat×Nat),l[j]? =some x->bq[j]? =some p->ev env x=.aE p.1 p.2 0 0
 | [],acc,h=>⟨[],by rw[acG];exact h,rfl,λj x p a=>by simp at a⟩
 | x::r,acc,h=>by
  unfold p6 at h;split at h
  ·rename_i id gen he;obtain⟨bq,h1,h2,b⟩:=xN r _ h;refine⟨(id,gen)::bq,by simpa using h1,by simp [h2],λj y p hy hp=>?_⟩;cases j with
   | zero=>simp at hy hp;subst hy;subst hp;exact he
   | succ j=>exact b j y p afg afc
  ·exact h.elim
theorem xO (d:∀t,bg μ h S w (env t) (a.tmps.getD t undef)) (fn:Fn) (first captured:Array Operand) (hp:bU T (.makeFunc fn first captured) env h K):
  cW P ⟨dst,.makeFunc fn first captured,ty,pos,after,guard⟩ a μ h S w K:=by
 simp only[bU]at hp;split at hp
 ·rename_i f;obtain⟨hf,hp⟩:=aW hp;obtain⟨bq,e,b,hc⟩:=xN _ _ hp;have g:first=#[]:=by simpa[Array.isEmpty]using hf
  subst g;refine .mk (val:=.func (.func f) #[] (captured.map a.eval)) (by simpa using e) ?_ λw' k=>by first | rfl | simp [execOp,Instr.makeFunc]
  show lr μ h w f bq _;refine⟨_,rfl,by simpa using b.symm,λj p hj=>?_⟩;have i:j<captured.toList.length:=by rw[<-b];exact(As.1 hj).1
  have c:=abm i;refine⟨a.eval captured.toList[j],by rw[acW,<-abJ,c];rfl,?_⟩;have he:=hc j _ p c hj;have hv:=bF d captured.toList[j];rw[he]at hv;exact hv
 ·exact aen
theorem kK (f:df P T) (j:bC μ h S w) (e:∀t,bg μ h S w (env t) (a.tmps.getD t undef)) {op:Op} (hp:bU T op env h K):
  cW P ⟨dst,op,ty,pos,after,guard⟩ a μ h S w K:=by
 cases op with
 | lookup t x i ok=>exact Bi f j e t x i ok hp
 | makeFunc fn first captured=>exact xO e fn first captured hp
 | move x=>exact .mk (bG hp) (bF e x) λ_ _=>rfl
 | assign x=>exact .mk (bG hp) (bF e x) λ_ _=>rfl
 | pick c x y=>
  have hc:=bF e c;simp only[bU]at hp;split at hp
  ·rename_i b hex;rw[hex]at hc;have m:=hc.kc;obtain⟨h1,h2⟩:=iG hp;cases b with
   | true=>exact .mk (bG (h1 rfl)) (bF e x) λw' _=>by simp [execOp,m,asBool]
   | false=>exact .mk (bG (h2 rfl)) (bF e y) λw' _=>by simp [execOp,m,asBool]
  ·exact aen
 | binOp p t x y q=>exact HK f p t q x y _ _ (bF e x) (bF e y) hp
 | unOp u t x=>
  have g:=bF e x;simp only[bU]at hp;split at hp
  ·rename_i b hex;rw[hex]at g;exact .mk hp (aI.bool _) λw' _=>cu rfl (by rw[g.kc,unary_not];rfl)
  ·rename_i k n hex;rw[hex]at g;exact .mk hp (aI.int _ _) λw' _=>cu rfl (by rw[g.iX,unary_neg];rfl)
  ·exact aen
 | load t x=>exact xH f j t x _ (bF e x) hp
 | convert s d x=>exact zb f j e s d x hp
 | nilCheck x=>exact xL e x hp
 | fieldAddr s x k=>exact vK f e s x k hp
 | build t parts=>exact CG f e t parts hp
 | field s x k=>exact CI f e s x k hp
 | indexAddr t x i=>exact CD f j e t x i hp
 | index t x i=>exact xI f e t x i hp
 | extract x i=>
  have g:=bF e x;simp only[bU]at hp;split at hp
  ·rename_i vs hex;rw[hex]at g;split at hp
   ·rename_i v hv;obtain⟨us,r,e2,z⟩:=g;obtain⟨u,hu,o⟩:=z i v hv
    have l:bg μ h S w v u:=by
     cases v with
     | eC D=>exact(show False from o).elim
     | _=>exact o
    exact .mk (bG hp) l λw' _=>cu rfl (by rw[r];simp [Instr.extract,hu])
   ·exact aen
  ·exact aen
 | slice t x lo hi A=>exact CF f j e t x lo hi A hp
 | call c=>
  obtain⟨B,args,C⟩:=c;cases B with
  | builtin b=>cases b with
   | len=>exact HM f j e args C hp
   | _=>exact(show False from hp).elim
  | _=>exact(show False from hp).elim
 | _=>exact(show False from hp).elim
end
section
variable {P:Program}{T:lS}{μ:Mu}{h:List ai}{S:Nat->Prop}{w w1:World}
def jG (μ:Mu) (id:Nat) (p:Option (Nat×Nat)):Mu:=λj=>if j=id then p else μ j
theorem aR (μ:Mu) (id:Nat) (p:Option (Nat×Nat)):jG μ id p id=p:=by simp [jG]
theorem bX (μ:Mu) {id j:Nat} (p:Option (Nat×Nat)) (hj:j≠id):jG μ id p j=μ j:=by simp [jG,hj]
structure Core (μ:Mu) (h:List ai) (S:Nat->Prop) (w:World):Prop where
 heap:bC μ h S w
 ok:mT μ h S w
theorem sO (hc:Core μ h S w) (id g D sz n n1:Nat) (e:TypeId) (f s:Nat->List PV) (hh:h[id]? =some (ai.row g sz n e f)) (d H:Nat) (cur1:Array Value)
  (hg:g<=D) (aa:D=g->μ id=some (d,H)/\n1=n)
  (l:w.heap.size<=d\/∃base cur,μ id=some (d,base)/\w.heap[d]? =some (.cells cur e (0,0))/\cur.size=cur1.size)
  (hw:w1.heap[d]? =some (.cells cur1 e (0,0))) (lP:H+n1*sz<=cur1.size)
  (G:∀b,b<w.heap.size->b≠d->w1.heap[b]? =w.heap[b]?) (Z:w.heap.size<=w1.heap.size) (Qt:w1.os=w.os) (xg:w1.tape=w.tape) (AY:w1.output=w.output)
  (hl:∀i,i<n1->(s i).length=sz) (BN:∀b base,μ id=some (b,base)->¬kG w b)
  (aJ:∀(i j:Nat) (pv:PV),i<n1->(s i)[j]? =some pv->∃v:Value,cur1[H+i*sz+j]? =some v/\jM μ h S w pv v) (CJ:Nat)
  (p7:∀(i j M N:Nat) (I:TypeId) (O:Nat->List PV) (P:Nat->Prop),i<n1->(s i)[j]? =some (.eM M N I O P)->CJ+i<n/\(f (CJ+i))[j]? =some (.eM M N I O P)):
  Fr μ h S w (jG μ id (some (d,H))) (h.set id (.row D sz n1 e s)) S w1/\Core (jG μ id (some (d,H))) (h.set id (.row D sz n1 e s)) S w1:=by
 have hid:id<h.length:=(As.1 hh).1;have eT:(h.set id (ai.row D sz n1 e s))[id]? =some (ai.row D sz n1 e s):=by simp [hid]
 have r:∀j,j≠id->(h.set id (ai.row D sz n1 e s))[j]? =h[j]?:=λj hj=>by rw[abL (acB hj)]
 have KH:d<w1.heap.size:=(abq.1 hw).1
 have p8:d<w.heap.size->bS μ h d:=λE=>by
  rcases l with l | ⟨base,cur,hm,_,_⟩
  ·omega
  ·exact .inl ⟨id,g,sz,n,e,f,base,hh,hm⟩
 have J:∀j x y b,cw (h.set id (ai.row D sz n1 e s)) j x y b->cw h j (if j=id then CJ+x else x) y b:=λj x y b ⟨t,u,A,B,C,M,N,I,O,P,q1,q2,q3,q4⟩=>by
  by_cases a:j=id
  ·subst a;rw[eT]at q1;injection q1 with q1;injection q1 with Q e2 R T U;subst Q e2 R T U;obtain⟨r1,V⟩:=p7 x y _ _ _ _ _ q2 q3;rw[An rfl];exact⟨_,_,_,_,_,_,_,_,_,_,hh,r1,V,q4⟩
  ·rw[r j a]at q1;rw[so a];exact aeJ
 have nO:∀j x y b,cw h j x y b->b<w.heap.size/\b≠d:=λj x y b m=>by
  have E:=hc.ok.lt b (.inr ⟨j,x,y,m⟩);refine⟨E,?_⟩;rintro rfl;rcases l with l | ⟨base,cur,hm,_,_⟩
  ·omega
  ·exact hc.ok.hv b ⟨id,g,sz,n,e,f,base,hh,hm⟩ j x y m
 have W:Fr μ h S w (jG μ id (some (d,H))) (h.set id (.row D sz n1 e s)) S w1:=by
  refine⟨by simp,λb E uf=>?_,λ_ l=>l,λ_ l=>.inl l,λb X=>?_,Z,Qt,xg,AY,λj t u A B C hj=>?_,λj hj=>?_,λb k rY dN=>?_,λj t u A B C b base hj hm Y=>?_,λb j x y m Y=>?_⟩;rotate_right
  ·obtain⟨q1,q2⟩:=nO j x y b m;obtain⟨es,c,q⟩:=Y;exact⟨es,c,(G b q1 q2).trans q⟩
  ·by_cases F:b=d
   ·subst F;exact(uf (p8 E)).elim
   ·exact G b E F
  ·rcases X with⟨j,t,u,A,B,C,kz,hj,hm⟩ | ⟨j,x,y,m⟩;rotate_left
   ·exact .inl (.inr ⟨_,_,_,J j x y b m⟩)
   by_cases a:j=id
   ·subst a;rw[aR]at hm;injection hm with hm;injection hm with h1 h2;subst h1;rcases abU d w.heap.size with E | Gp
    ·exact .inl (p8 E)
    ·exact .inr Gp
   ·rw[r j a]at hj;rw[bX μ _ a]at hm;exact .inl (.inl ⟨j,t,u,A,B,C,kz,hj,hm⟩)
  ·by_cases a:j=id
   ·subst a;rw[hh]at hj;injection hj with hj;injection hj with Q e2 R T U;subst Q e2 R T U;rw[eT];refine⟨hg,λhe=>?_⟩;obtain⟨h1,h2⟩:=aa he;exact⟨by rw[aR,h1],rfl,h2,rfl⟩
   ·rw[r j a,hj];exact⟨abn _,λ_=>⟨bX μ _ a,rfl,rfl,rfl⟩⟩
  ·have a:j≠id:=by rintro rfl;rw[hh]at hj;cases hj
   rw[r j a];exact hj
  ·by_cases F:b=d
   ·subst F;obtain⟨cur,I,z,q1,q2⟩:=dN;rcases l with l | ⟨base,uc,hm,kh,fy⟩
    ·have:=(abq.1 q1).1;omega
    ·rw[kh]at q1;injection q1 with q1;injection q1 with q1 _ _;subst q1;exact⟨cur1,e,_,hw,by omega⟩
   ·exact iu.of_same (G b dN.lt F) dN
  ·have a:j≠id:=by rintro rfl;exact BN b base hm Y
   have F:b≠d:=by
    rintro rfl;obtain⟨es,c,q⟩:=Y;rcases l with l | ⟨k5,uc,K,kh,_⟩
    ·have:=(abq.1 q).1;omega
    ·rw[kh]at q;cases q
   obtain⟨es,c,q⟩:=Y;exact⟨⟨es,c,(G b (abq.1 q).1 F).trans q⟩,.inr ⟨⟨_,_,_,_,_,(r j a).trans hj⟩,by rw[bX μ _ a];exact hm⟩⟩
 refine⟨W,⟨λj t u A B C hj=>?_,?_⟩⟩
 ·by_cases a:j=id
  ·subst a;rw[eT]at hj;injection hj with hj;injection hj with Q e2 R T U;subst Q e2 R T U;rw[aR];refine⟨hl,bC.xP ⟨cur1,hw,lP,λi k pv hi L=>?_⟩⟩;obtain⟨v,h1,h2⟩:=aJ i k pv hi L;refine⟨v,h1,h2.fr W hc.ok (λM N I O P he b X=>?_)⟩;rw[he]at L;obtain⟨r1,V⟩:=p7 i k _ _ _ _ _ hi L;obtain⟨q1,q2⟩:=nO j (CJ+i) k b ⟨_,_,_,_,_,_,_,_,_,_,hh,r1,V,X⟩;exact G b q1 q2
  ·rw[r j a]at hj;obtain⟨h1,h2⟩:=hc.heap j t u A B C hj;refine⟨h1,?_⟩;rw[bX μ _ a];cases hm:μ j with
   | none=>rw[hm]at h2;exact h2
   | some p=>
    obtain⟨b,base⟩:=p;rw[hm]at h2;obtain⟨o,q1,q2⟩:=h2;have E:b<w.heap.size:=(abq.1 q1).1
    have F:b≠d:=by
     rintro rfl;rcases l with l | ⟨k5,uc,K,_⟩
     ·omega
     ·exact a (hc.ok.inj j id _ _ _ _ _ _ _ _ _ _ _ _ _ hj hh hm K)
    exact⟨o,(G b E F).trans q1,q2.mono (λi y pv v hi hy hr=>hr.fr W hc.ok (λM N I O P he b' X=>by
     obtain⟨q1,q2⟩:=nO j i y b' ⟨_,_,_,_,_,_,_,_,_,_,hj,hi,by rw[hy,he],X⟩;exact G b' q1 q2))⟩
 ·refine⟨λb rY Gq=>?_,λb rY=>?_,λb Gq=>abG (hc.ok.slt b Gq) Z,?_,hc.ok.uu W,λb OD j x y m=>?_,λb j x y j' x' y' m oR=>?_⟩;rotate_right 2
  ·obtain⟨q1,q2⟩:=nO _ _ _ b (J j x y b m);obtain⟨k,gk,OE,nk,ek,fk,CK,L,hm⟩:=OD;by_cases qK:k=id
   ·subst qK;rw[aR]at hm;injection hm with hm;injection hm with h1 h2;exact q2 h1.symm
   ·rw[r k qK]at L;rw[bX μ _ qK]at hm;exact hc.ok.hv b ⟨k,gk,OE,nk,ek,fk,CK,L,hm⟩ _ _ _ (J j x y b m)
  ·obtain⟨r1,V,r3⟩:=hc.ok.hh b _ _ _ _ _ _ (J j x y b m) (J j' x' y' b oR);subst r1;refine⟨rfl,?_,r3⟩;split at V<;>omega
  ·rcases W.own b rY with h1 | h1
   ·exact hc.ok.apart b h1 Gq
   ·have:=hc.ok.slt b Gq;omega
  ·rcases rY with⟨j,t,u,A,B,C,kz,hj,hm⟩ | ⟨j,x,y,m⟩;rotate_left
   ·exact abG (hc.ok.lt b (.inr ⟨_,_,_,J j x y b m⟩)) Z
   by_cases a:j=id
   ·subst a;rw[aR]at hm;injection hm with hm;injection hm with h1 h2;subst h1;exact KH
   ·rw[r j a]at hj;rw[bX μ _ a]at hm;exact abG (hc.ok.lt b (.inl ⟨j,t,u,A,B,C,kz,hj,hm⟩)) Z
  ·intro i j gi HR ni ei fi t u A B C b o o' hi hj kq jN;by_cases CL:i=id
   ·by_cases a:j=id
    ·rw[CL,a]
    ·subst CL;rw[aR]at kq;injection kq with kq;injection kq with h1 h2;subst h1;rw[r j a]at hj;rw[bX μ _ a]at jN;rcases l with l | ⟨k5,uc,K,_⟩
     ·have:=hc.ok.lt _ (.inl ⟨j,t,u,A,B,C,o',hj,jN⟩);omega
     ·exact hc.ok.inj i j _ _ _ _ _ _ _ _ _ _ _ _ _ hh hj K jN
   ·rw[r i CL]at hi;rw[bX μ _ CL]at kq;by_cases a:j=id
    ·subst a;rw[aR]at jN;injection jN with jN;injection jN with h1 h2;subst h1;rcases l with l | ⟨k5,uc,K,_⟩
     ·have:=hc.ok.lt _ (.inl ⟨i,gi,HR,ni,ei,fi,o,hi,kq⟩);omega
     ·exact hc.ok.inj i j _ _ _ _ _ _ _ _ _ _ _ _ _ hi hh kq K
    ·rw[r j a]at hj;rw[bX μ _ a]at jN;exact aeC
theorem zS (hc:Core μ h S w) (sz n:Nat) (e:TypeId) (f:Nat->List PV) (p:Option (Nat×Nat))
  (hp:match p with
   | none=>n=0
   | some (b,base)=>w.heap.size<=b/\∃o:Obj,w1.heap[b]? =some o/\rI (bp μ h S w) base sz n e f o)
  (a:bR w w1) (U:∀i,i<n->(f i).length=sz) (Q:∀(i j:Nat) (pv:PV),i<n->(f i)[j]? =some pv->dL pv=false):
  Fr μ h S w (jG μ h.length p) (h++[.row 0 sz n e f]) S w1/\Core (jG μ h.length p) (h++[.row 0 sz n e f]) S w1:=by
 have E:∀j o,h[j]? =some o->(h++[ai.row 0 sz n e f])[j]? =some o:=λj o hj=>by
  rw[abK (As.1 hj).1];exact hj
 have V:(h++[ai.row 0 sz n e f])[h.length]? =some (ai.row 0 sz n e f):=by simp
 have t:∀j o,(h++[ai.row 0 sz n e f])[j]? =some o->(h[j]? =some o/\j≠h.length)\/(j=h.length/\o=ai.row 0 sz n e f):=λj o hj=>by
  rcases Nat.lt_trichotomy j h.length with z | heq | zO
  ·rw[abK z]at hj;exact .inl ⟨hj,by omega⟩
  ·subst heq;rw[V]at hj;injection hj with hj;exact .inr ⟨rfl,hj.symm⟩
  ·rw[abZ aeU]at hj;cases hj
 have R:∀j o,h[j]? =some o->jG μ h.length p j=μ j:=λj o hj=>bX μ _ (by have:=(As.1 hj).1;omega)
 have A:∀j x y b,cw (h++[ai.row 0 sz n e f]) j x y b->cw h j x y b:=λj x y b ⟨g,l,m,r,s,W,X,Y,Z,F',q1,q2,q3,q4⟩=>by
  rcases t j _ q1 with⟨h1,h2⟩ | ⟨h1,h2⟩
  ·exact⟨_,_,_,_,_,_,_,_,_,_,h1,q2,q3,q4⟩
  ·injection h2 with F e2 G H I;subst F e2 G H I;have:=Q x y _ q2 q3;cases this
 have B:Fr μ h S w (jG μ h.length p) (h++[.row 0 sz n e f]) S w1:=by
  refine⟨by simp,λb z _=>a.blocks b z,λ_ J=>J,λ_ J=>.inl J,λb K=>?_,a.size,a.os,a.tape,a.output,λj g l m r s hj=>?_,λj hj=>E j _ hj,λb k C T=>iu.of_same (a.blocks b T.lt) T,λj g l m r s b base hj hm L=>⟨let⟨es,c,q⟩:=L;⟨es,c,(a.blocks b (abq.1 q).1).trans q⟩,.inr ⟨⟨_,_,_,_,_,E j _ hj⟩,by rw[R j _ hj];exact hm⟩⟩,λb j x y d L=>let⟨es,c,q⟩:=L;⟨es,c,(a.blocks b (abq.1 q).1).trans q⟩⟩
  ·rcases K with⟨j,g,l,m,r,s,M,hj,hm⟩ | ⟨j,x,y,d⟩;rotate_left
   ·exact .inl (.inr ⟨_,_,_,A j x y b d⟩)
   rcases t j _ hj with⟨h1,h2⟩ | ⟨h1,h2⟩
   ·rw[bX μ _ h2]at hm;exact .inl (.inl ⟨j,g,l,m,r,s,M,h1,hm⟩)
   ·subst h1;rw[aR]at hm;subst hm;exact .inr hp.1
  ·rw[E j _ hj];exact⟨abn _,λ_=>⟨R j _ hj,rfl,rfl,rfl⟩⟩
 refine⟨B,⟨λj g l m r s hj=>?_,?_⟩⟩
 ·rcases t j _ hj with⟨h1,h2⟩ | ⟨h1,h2⟩
  ·obtain⟨q1,q2⟩:=hc.heap j g l m r s h1;refine⟨q1,?_⟩;rw[bX μ _ h2];cases hm:μ j with
   | none=>rw[hm]at q2;exact q2
   | some N=>
    obtain⟨b,base⟩:=N;rw[hm]at q2;obtain⟨o,r1,O⟩:=q2;have z:b<w.heap.size:=(abq.1 r1).1;exact⟨o,(a.blocks b z).trans r1,O.mono (λi y pv v hi hy P=>P.fr B hc.ok (λW X Y Z F' he b' K=>a.blocks b' (hc.ok.lt b' (.inr ⟨j,i,y,_,_,_,_,_,_,_,_,_,_,h1,hi,he▸hy,K⟩))))⟩
  ·subst h1;injection h2 with F e2 G H I;subst F e2 G H I;rw[aR];refine⟨U,?_⟩;cases p with
   | none=>exact hp
   | some N=>
    obtain⟨b,base⟩:=N;obtain⟨_,o,r1,O⟩:=hp;exact⟨o,r1,O.mono (λi y pv v hi hy P=>(P.fr B hc.ok).k (Q i y pv hi hy))⟩
 ·refine⟨λb C D=>?_,λb C=>?_,λb D=>abG (hc.ok.slt b D) a.size,?_,hc.ok.uu B,λb OD j x y d=>?_,λb j x y j' x' y' d oR=>hc.ok.hh b _ _ _ _ _ _ (A j x y b d) (A j' x' y' b oR)⟩;rotate_right
  ·have d:=A j x y b d;obtain⟨k,gk,OE,nk,ek,fk,CK,hk,hm⟩:=OD;rcases t k _ hk with⟨h1,h2⟩ | ⟨h1,h2⟩
   ·rw[bX μ _ h2]at hm;exact hc.ok.hv b ⟨k,gk,OE,nk,ek,fk,CK,h1,hm⟩ _ _ _ d
   ·subst h1;rw[aR]at hm;subst hm;have:=hc.ok.lt b (.inr ⟨_,_,_,d⟩);have:=hp.1;omega
  ·rcases B.own b C with h1 | h1
   ·exact hc.ok.apart b h1 D
   ·have:=hc.ok.slt b D;omega
  ·rcases C with⟨j,g,l,m,r,s,M,hj,hm⟩ | ⟨j,x,y,d⟩;rotate_left
   ·exact abG (hc.ok.lt b (.inr ⟨_,_,_,A j x y b d⟩)) a.size
   rcases t j _ hj with⟨h1,h2⟩ | ⟨h1,h2⟩
   ·rw[bX μ _ h2]at hm;exact abG (hc.ok.lt b (.inl ⟨j,g,l,m,r,s,M,h1,hm⟩)) a.size
   ·subst h1;rw[aR]at hm;subst hm;obtain⟨_,o,r1,_⟩:=hp;exact(abq.1 r1).1
  ·intro i j gi HR ni ei fi g l m r s b o o' hi hj kq jN;rcases t i _ hi with⟨h1,h2⟩ | ⟨h1,h2⟩
   ·rw[bX μ _ h2]at kq;rcases t j _ hj with⟨u,h4⟩ | ⟨u,h4⟩
    ·rw[bX μ _ h4]at jN;exact hc.ok.inj i j _ _ _ _ _ _ _ _ _ _ _ _ _ h1 u kq jN
    ·subst u;rw[aR]at jN;subst jN;have:=hc.ok.lt _ (.inl ⟨i,gi,HR,ni,ei,fi,o,h1,kq⟩);have:=hp.1;omega
   ·subst h1;rw[aR]at kq;rcases t j _ hj with⟨u,h4⟩ | ⟨u,h4⟩
    ·rw[bX μ _ h4]at jN;subst kq;have:=hc.ok.lt _ (.inl ⟨j,g,l,m,r,s,o',u,jN⟩);have:=hp.1;omega
    ·exact u.symm
theorem lW (hc:Core μ h S w) (sz n:Nat) (e:TypeId) (f:Nat->List PV) (p:Option (Nat×Nat))
  (hp:match p with
   | none=>n=0
   | some (b,base)=>w.heap.size<=b/\∃cur:Array Value,w1.heap[b]? =some (.cells cur e (0,0))/\base+n*sz<=cur.size/\
    ∀(i j:Nat) (pv:PV),i<n->(f i)[j]? =some pv->∃v:Value,cur[base+i*sz+j]? =some v/\bp μ h S w pv v)
  (a:bR w w1) (c:∀i,i<n->(f i).length=sz) (d:∀(i j:Nat) (pv:PV),i<n->(f i)[j]? =some pv->dL pv=false):
  Fr μ h S w (jG μ h.length p) (h++[.row 0 sz n e f]) S w1/\Core (jG μ h.length p) (h++[.row 0 sz n e f]) S w1:=by
 refine zS hc sz n e f p ?_ a c d;cases p with
 | none=>exact hp
 | some q=>exact⟨hp.1,bC.xP hp.2⟩
theorem iu.xj {b k:Nat} (h:iu w b k):¬kG w b:=by
 rintro⟨es,c,q⟩;obtain⟨cur,e,z,h1,_⟩:=h;rw[h1]at q;cases q
end
theorem ny.refl:∀(l:List PV),ny l l
 | []=>trivial
 | a::l=>⟨.same a,ny.refl l⟩
theorem ny.len:∀{l r:List PV},ny l r->r.length=l.length
 | [],[],_=>rfl
 | a::l,b::r,h=>by simp [ny.len h.2]
 | [],_::_,h=>h.elim
 | _::_,[],h=>h.elim
theorem ny.get:∀{l r:List PV},ny l r->∀{j:Nat} {b:PV},r[j]? =some b->∃a,l[j]? =some a/\Iw a b
 | [],[],_,j,b,hj=>by simp at hj
 | a::l,c::r,h,0,b,hj=>by simp at hj;subst hj;exact⟨a,rfl,h.1⟩
 | a::l,c::r,h,j+1,b,hj=>by
  obtain⟨x,q1,q2⟩:=ny.get h.2 (j:=j) aeZ;exact⟨x,by simpa using q1,q2⟩
 | [],_::_,h,_,_,_=>h.elim
 | _::_,[],h,_,_,_=>h.elim
theorem ny.Vz:∀{l r:List PV},ny l r->∀{j:Nat} {a:PV},l[j]? =some a->∃b,r[j]? =some b/\Iw a b
 | [],[],_,j,b,hj=>by simp at hj
 | a::l,c::r,h,0,b,hj=>by simp at hj;subst hj;exact⟨c,rfl,h.1⟩
 | a::l,c::r,h,j+1,b,hj=>by
  obtain⟨x,q1,q2⟩:=ny.Vz h.2 (j:=j) aeZ;exact⟨x,by simpa using q1,q2⟩
 | [],_::_,h,_,_,_=>h.elim
 | _::_,[],h,_,_,_=>h.elim
theorem Iw.Rf {a b:PV} (h:Iw a b) {μ:Mu} {l:List ai} {S:Nat->Prop} {w:World} {v:Value} (c:bp μ l S w a v):bp μ l S w b v:=by
 cases h with
 | same=>exact c
 | nil sz f=>
  have c:aI S w .aF v:=c;cases c;exact aI.lM _ _ _ _
 | HS sz e f=>exact bp.one c
def OEq:ai->ai->Prop
 | .row g sz n e f,.row a b c d h=>g=a/\sz=b/\n=c/\e=d/\∀i,i<n->ny (f i) (h i)
 | .dead,.dead=>True
 | _,_=>False
def dz:List ai->List ai->Prop
 | [],[]=>True
 | o::l,a::b=>OEq o a/\dz l b
 | _,_=>False
theorem dz.len:∀{l a:List ai},dz l a->l.length=a.length
 | [],[],_=>rfl
 | o::l,b::a,h=>by simp [dz.len h.2]
 | [],_::_,h=>h.elim
 | _::_,[],h=>h.elim
theorem dz.get:∀{l b:List ai},dz l b->∀{j:Nat} {g sz n:Nat} {e:TypeId} {f:Nat->List PV},l[j]? =some (ai.row g sz n e f)->∃a,b[j]? =some (ai.row g sz n e a)/\∀i,i<n->ny (f i) (a i)
 | o::l,c::b,h,0,g,sz,n,e,f,hj=>by
  simp at hj;subst hj;cases c with
  | dead=>exact h.1.elim
  | row d k m p a=>
   obtain⟨rfl,rfl,rfl,rfl,hf⟩:=h.1;exact⟨a,rfl,hf⟩
 | o::l,c::b,h,j+1,g,sz,n,e,f,hj=>by
  simp at hj;obtain⟨a,h1,h2⟩:=dz.get h.2 hj;exact⟨a,by simpa using h1,h2⟩
 | [],[],_,_,_,_,_,_,_,hj=>by simp at hj
 | [],_::_,h,_,_,_,_,_,_,_=>h.elim
 | _::_,[],h,_,_,_,_,_,_,_=>h.elim
theorem dz.HT:∀{l a:List ai},dz l a->∀{j:Nat} {g sz n:Nat} {e:TypeId} {b:Nat->List PV},a[j]? =some (ai.row g sz n e b)->∃f,l[j]? =some (ai.row g sz n e f)/\∀i,i<n->ny (f i) (b i)
 | o::l,c::a,h,0,g,sz,n,e,b,hj=>by
  simp at hj;subst hj;cases o with
  | dead=>exact h.1.elim
  | row d k m p f=>
   obtain⟨rfl,rfl,rfl,rfl,hf⟩:=h.1;exact⟨f,rfl,hf⟩
 | o::l,c::a,h,j+1,g,sz,n,e,b,hj=>by
  simp at hj;obtain⟨f,h1,h2⟩:=dz.HT h.2 hj;exact⟨f,by simpa using h1,h2⟩
 | [],[],_,_,_,_,_,_,_,hj=>by simp at hj
 | [],_::_,h,_,_,_,_,_,_,_=>h.elim
 | _::_,[],h,_,_,_,_,_,_,_=>h.elim
theorem dz.getD:∀{l a:List ai},dz l a->∀{j:Nat},l[j]? =some ai.dead->a[j]? =some ai.dead
 | o::l,b::a,h,0,hj=>by
  simp at hj;subst hj;cases b with
  | dead=>rfl
  | row c d e f g=>exact h.1.elim
 | o::l,b::a,h,j+1,hj=>by
  simp at hj;simpa using dz.getD h.2 hj
 | [],[],_,_,hj=>by simp at hj
 | [],_::_,h,_,_=>h.elim
 | _::_,[],h,_,_=>h.elim
theorem dz.Nd {l c:List ai} (h:dz l c) {id i j b:Nat} (d:cw c id i j b):cw l id i j b:=by
 obtain⟨g,sz,n,e,o,p,q,r,f2,s,q1,q2,q3,q4⟩:=d;obtain⟨f,r1,k⟩:=h.HT q1;obtain⟨a,m,hle⟩:=(k i q2).get q3;cases hle with
 | same=>exact⟨_,_,_,_,_,_,_,_,_,_,r1,q2,m,q4⟩
 | HS=>exact q4.elim
theorem dz.VA {l a:List ai} (h:dz l a) {μ:Mu} {b:Nat} (c:wj μ a b):wj μ l b:=by
 obtain⟨id,g,sz,n,e,f,base,h1,h2⟩:=c;obtain⟨d,i,_⟩:=h.HT h1;exact⟨id,g,sz,n,e,d,base,i,h2⟩
theorem dz.uv {l c:List ai} (h:dz l c) {μ:Mu} {b:Nat} (a:bS μ c b):bS μ l b:=by
 rcases a with a | ⟨id,i,j,a⟩
 ·exact .inl (h.VA a)
 ·exact .inr ⟨id,i,j,h.Nd a⟩
theorem dz.hid {l a:List ai} (h:dz l a) {id i j b:Nat} (d:cw l id i j b):cw a id i j b:=by
 obtain⟨g,sz,n,e,f,m,o,p,f2,q,q1,q2,q3,q4⟩:=d;obtain⟨r,r1,k⟩:=h.get q1;obtain⟨c,hc,hle⟩:=(k i q2).Vz q3;cases hle;exact⟨_,_,_,_,_,_,_,_,_,_,r1,q2,hc,q4⟩
theorem dz.owned {l c:List ai} (h:dz l c) {μ:Mu} {b:Nat} (a:bS μ l b):bS μ c b:=by
 rcases a with⟨id,g,sz,n,e,f,base,h1,h2⟩ | ⟨x,y,z,a⟩
 ·obtain⟨d,i,_⟩:=h.get h1;exact .inl ⟨id,g,sz,n,e,d,base,i,h2⟩
 ·exact .inr ⟨_,_,_,h.hid a⟩
theorem dz.own {l c:List ai} (h:dz l c) {μ:Mu} {w:World} {id gen off len:Nat} {v:Value} (a:aN μ l w id gen off len v):aN μ c w id gen off len v:=by
 unfold aN at*;refine⟨a.1,?_⟩;have a:=a.2;cases b:l[id]? with
 | none=>rw[b]at a;exact a.elim
 | some o=>
  cases o with
  | dead=>rw[h.getD b];trivial
  | row g sz n e f=>
   obtain⟨d,h1,_⟩:=h.get b;rw[b]at a;rw[h1];exact a
theorem dz.aE {l c:List ai} (h:dz l c) {μ:Mu} {id gen i off:Nat} {v:Value} {w:World} (a:bD μ l w id gen i off v):bD μ c w id gen i off v:=by
 unfold bD at*;refine⟨a.1,?_⟩;have a:=a.2;cases b:l[id]? with
 | none=>rw[b]at a;exact a.elim
 | some o=>
  cases o with
  | dead=>rw[h.getD b];trivial
  | row g sz n e f=>
   obtain⟨d,h1,_⟩:=h.get b;rw[b]at a;rw[h1];exact a
theorem Iw.Nf {a b:PV} (h:Iw a b) (c:iq a=true):b=a:=by
 cases h with
 | same=>rfl
 | _=>cases c
theorem ny.Nf {d e:PV} {l:List PV} (h:ny [d,e] l) (h1:iq d=true) (h2:iq e=true):l=[d,e]:=by
 rcases l with _ | ⟨a,_ | ⟨b,_ | ⟨c,l⟩⟩⟩
 ·exact h.elim
 ·exact h.2.elim
 ·rw[h.1.Nf h1,h.2.1.Nf h2]
 ·exact h.2.2.elim
theorem dz.kC {l c:List ai} (h:dz l c) {μ:Mu} {w:World} {id:Nat} {v:Value} (a:eL μ l w id v):eL μ c w id v:=by
 unfold eL at*;refine⟨a.1,?_⟩;have a:=a.2;cases b:l[id]? with
 | none=>rw[b]at a;exact a.elim
 | some o=>
  cases o with
  | dead=>rw[h.getD b];trivial
  | row g sz n e f=>
   obtain⟨d,h1,_⟩:=h.get b;rw[b]at a;rw[h1];exact a
theorem dz.lv {l a:List ai} (h:dz l a) {μ:Mu} {w:World} {f:Nat} {bq:List (Nat×Nat)} {v:Value} (b:lr μ l w f bq v):lr μ a w f bq v:=o8.mono b (λid g u hu=>h.aE hu)
theorem dz.Rf {l b:List ai} (h:dz l b) {μ:Mu} {S:Nat->Prop} {w:World} {pv:PV} {v:Value} (a:bp μ l S w pv v):bp μ b S w pv v:=by
 cases pv with
 | own id gen off len=>exact h.own a
 | aE id gen i off=>exact h.aE a
 | kC id=>exact h.kC a
 | lv f bq=>exact h.lv a
 | _=>exact a
theorem dz.Rg {l a:List ai} (h:dz l a) {μ:Mu} {S:Nat->Prop} {w:World} {pv:PV} {v:Value} (b:jM μ l S w pv v):jM μ a S w pv v:=by
 cases pv with
 | eM sz n e f F=>exact b
 | _=>exact bp.k (h.Rf (jM.c b)) rfl
theorem Iw.Rg {a b:PV} (h:Iw a b) {μ:Mu} {l:List ai} {S:Nat->Prop} {w:World} {v:Value} (c:jM μ l S w a v):jM μ l S w b v:=by
 cases h with
 | same=>exact c
 | nil sz f=>
  have c:aI S w .aF v:=c;cases c;exact aI.lM _ _ _ _
 | HS sz e f=>
  have c:aI S w .aF v:=c;cases c;exact jz.nil _ _ _ _ (λ_ h=>h)
theorem dz.HQ {l b:List ai} (h:dz l b) {μ:Mu} {S:Nat->Prop} {w:World} {pv:PV} {v:Value} (a:gK μ l S w pv v):gK μ b S w pv v:=by
 cases pv with
 | own id gen off len=>exact h.own a
 | aE id gen i off=>exact h.aE a
 | kC id=>exact h.kC a
 | lv f bq=>exact h.lv a
 | agg cs=>
  obtain⟨vs,h1,h2,c⟩:=a;exact⟨vs,h1,h2,λj pv hj=>by obtain⟨u,hu,hc⟩:=c j pv hj;exact⟨u,hu,h.Rf hc⟩⟩
 | _=>exact a
theorem dz.refl:∀(l:List ai),dz l l
 | []=>trivial
 | .row g sz n e f::l=>⟨⟨rfl,rfl,rfl,rfl,λ_ _=>ny.refl _⟩,dz.refl l⟩
 | .dead::l=>⟨trivial,dz.refl l⟩
theorem dz.set:∀(l:List ai) (id g sz n:Nat) (e:TypeId) (f a:Nat->List PV),(∀i,i<n->ny (f i) (a i))->dz (l.set id (.row g sz n e f)) (l.set id (.row g sz n e a))
 | [],_,_,_,_,_,_,_,_=>trivial
 | o::l,0,g,sz,n,e,f,a,hf=>⟨⟨rfl,rfl,rfl,rfl,hf⟩,dz.refl l⟩
 | o::l,id+1,g,sz,n,e,f,a,hf=>⟨by cases o;exact⟨rfl,rfl,rfl,rfl,λ_ _=>ny.refl _⟩;exact trivial,dz.set l id g sz n e f a hf⟩
theorem dz.snoc:∀(l:List ai) (g sz n:Nat) (e:TypeId) (f a:Nat->List PV),(∀i,i<n->ny (f i) (a i))->dz (l++[.row g sz n e f]) (l++[.row g sz n e a])
 | [],g,sz,n,e,f,a,hf=>⟨⟨rfl,rfl,rfl,rfl,hf⟩,trivial⟩
 | o::l,g,sz,n,e,f,a,hf=>⟨by cases o;exact⟨rfl,rfl,rfl,rfl,λ_ _=>ny.refl _⟩;exact trivial,dz.snoc l g sz n e f a hf⟩
theorem dz.aak {l b:List ai} (h:dz l b) {μ:Mu} {S:Nat->Prop} {w:World} {pv:PV} {v:Value} (a:bg μ l S w pv v):bg μ b S w pv v:=by
 cases pv with
 | eC d=>
  obtain⟨vs,h1,h2,c⟩:=a;exact⟨vs,h1,h2,λj pv hj=>by obtain⟨u,hu,hc⟩:=c j pv hj;exact⟨u,hu,h.HQ hc⟩⟩
 | own id gen off len=>exact h.own a
 | aE id gen i off=>exact h.aE a
 | kC id=>exact h.kC a
 | lv f bq=>exact h.lv a
 | agg cs=>exact h.HQ (pv:=.agg cs) a
 | _=>exact a
theorem dz.core {l r:List ai} (he:dz l r) {μ:Mu} {S:Nat->Prop} {w:World} (hc:Core μ l S w):Core μ r S w:=by
 refine⟨λid g sz n e f hid=>?_,⟨λb h=>hc.ok.apart b (he.uv h),λb h=>hc.ok.lt b (he.uv h),hc.ok.slt,λi j g sz n e f y A B s t b o C hi hj h1 k=>?_,hc.ok.known,λb h id i j m=>hc.ok.hv b (he.VA h) id i j (he.Nd m),λb _ _ _ _ _ _ m hy=>hc.ok.hh b _ _ _ _ _ _ (he.Nd m) (he.Nd hy)⟩⟩
 ·obtain⟨t,h1,k⟩:=he.HT hid;obtain⟨q1,q2⟩:=hc.heap id g sz n e t h1;refine⟨λi hi=>by rw[(k i hi).len];exact q1 i hi,?_⟩;cases hm:μ id with
  | none=>rw[hm]at q2;exact q2
  | some p=>
   obtain⟨b,base⟩:=p;rw[hm]at q2;obtain⟨o,r1,d⟩:=q2;refine⟨o,r1,?_⟩;cases o with
   | cells cur s z=>
    obtain⟨d,q,D,E⟩:=d;refine⟨d,q,D,λi j pv hi hj=>?_⟩;obtain⟨a,F,hle⟩:=(k i hi).get hj;obtain⟨v,hv,G⟩:=E i j a hi F;exact⟨v,hv,he.Rg (hle.Rg G)⟩
   | map es c=>
    obtain⟨d,q⟩:=d;refine⟨d,λi hi=>?_⟩;obtain⟨H,I,en,s1,u,x,J⟩:=q i hi;have hle:=k i hi;rw[s1]at hle;exact⟨H,I,en,hle.Nf u x,u,x,J⟩
   | _=>exact d.elim
 ·obtain⟨K,q1,_⟩:=he.HT hi;obtain⟨L,q2,_⟩:=he.HT hj;exact hc.ok.inj i j g sz n e K y A B s L b o C q1 q2 h1 k
theorem dz.fr {l h:List ai} (he:dz l h) {μ0 μ:Mu} {h0:List ai} {S0 S:Nat->Prop} {i w:World} (a:Fr μ0 h0 S0 i μ l S w):Fr μ0 h0 S0 i μ h S w:=by
 refine⟨by rw[<-he.len];exact a.len,a.blocks,a.sub,a.new,λb j=>a.own b (he.uv j),a.size,a.os,a.tape,a.output,λid g sz n e f hid=>?_,λid hid=>he.getD (a.dead id hid),a.bq,λid g sz n e f b base hj hm k=>?_,a.rb⟩;rotate_left
 ·obtain⟨r1,c⟩:=a.maps id g sz n e f b base hj hm k;refine⟨r1,?_⟩;rcases c with c | ⟨⟨m,p,q,r,s,c⟩,t⟩
  ·exact .inl (he.getD c)
  ·obtain⟨f2,h1,_⟩:=he.get c;exact .inr ⟨⟨_,_,_,_,_,h1⟩,t⟩
 have hg:=a.xQ id g sz n e f hid;cases d:l[id]? with
 | none=>rw[d]at hg;exact hg.elim
 | some o=>
  cases o with
  | dead=>rw[he.getD d];trivial
  | row m p q r s=>
   obtain⟨f2,h1,_⟩:=he.get d;rw[d]at hg;rw[h1];exact hg
section
variable {P:Program}{T:lS}{μ:Mu}{h:List ai}{S:Nat->Prop}{w:World}
def eN (P:Program) (o:Oper) (a:Act) (μ:Mu) (h:List ai) (S:Nat->Prop) (w:World) (K:PV->List ai->Prop):Prop:=
 ∀(next:Act->World->Prop) (Q:Exit->Act->World->Prop),
  (∀v val h' μ' S' w',K v h'->bg μ' h' S' w' v val->Core μ' h' S' w'->Fr μ h S w μ' h' S' w'->next (a.put o.dst val) w')->o.wp P a w next Q
theorem eN.rows {o:Oper} {a:Act} {K:PV->List ai->Prop} (b:eN P o a μ h S w (λv h1=>∃h2,dz h1 h2/\K v h2)):eN P o a μ h S w K:=by
 intro next Q c
 refine b next Q λv val h' μ' S' w' ⟨h2,he,d⟩ hv hc hf=>?_
 exact c v val h2 μ' S' w' d (he.aak hv) (he.core hc) (he.fr hf)
theorem eN.nP {o:Oper} {a:Act} {K:PV->List ai->Prop} (hc:Core μ h S w) (hs:cW P o a μ h S w (λv=>K v h)):eN P o a μ h S w K:=by
 obtain⟨v,val,b,hv,c⟩:=hs;intro next Q d
 unfold Oper.wp;rw[c w (bR.refl w)];exact d v val h μ S w b hv hc Fr.refl
theorem eN.gg {o:Oper} {a:Act} {K:PV->List ai->Prop} {v:PV} {val:Value} {h':List ai} {μ':Mu} {S':Nat->Prop} {w':World} (b:(execOp a.eval o).run P w=.ok (.value val) w') (c:K v h') (hv:bg μ' h' S' w' v val)
  (hc:Core μ' h' S' w') (hf:Fr μ h S w μ' h' S' w'):eN P o a μ h S w K:=by
 intro next Q d
 unfold Oper.wp;rw[b];exact d v val h' μ' S' w' c hv hc hf
theorem eN.Gr {o:Oper} {a:Act} {K:PV->List ai->Prop} {h':List ai} {μ':Mu} {S':Nat->Prop} {w':World} (b:(execOp a.eval o).run P w=.ok .skip w') (c:K .gf h')
  (hc:Core μ' h' S' w') (hf:Fr μ h S w μ' h' S' w'):eN P o a μ h S w K:=by
 intro next Q d
 unfold Oper.wp;rw[b];exact d .gf undef h' μ' S' w' c trivial hc hf
theorem Ng (c:df P T) {t:Nat} {n:Nat} (a:jf (T.get t)=n) (e:0<n):∃i,P.info? t=some i/\i.size=n:=by
 cases b:T.get t with
 | struct sz fl z=>
  obtain⟨fs,i,_,hi,d,_⟩:=c.struct _ _ _ _ b;rw[b]at a;exact⟨i,hi,d.trans a⟩
 | other=>rw[b]at a;simp [jf]at a;omega
 | _=>
  rw[b]at a;have h1:n=1:=a.symm;subst h1;refine c.one t ?_ ?_
  ·rw[b];rfl
  ·intro sz fl z hh;rw[b]at hh;cases hh
variable {a:Act}{env:Env}{K:PV->List ai->Prop}{dst:Option Tmp}{ty:TypeId}{pos:String}{after:Array Edge}{guard:Option (Nat×Bool)}
theorem oe (cur vs:List Value) (o q:Nat) (c:o+vs.length<=cur.length):
  (cur.take o++vs++cur.drop (o+vs.length))[q]? =if o<=q/\q<o+vs.length then vs[q - o]? else cur[q]?:=by
 have h1:(cur.take o).length=o:=by simp;omega
 by_cases a:q<o
 ·rw[so aeP,abS,abK aeP,aco,An a]
 ·by_cases b:q<o+vs.length
  ·rw[An ⟨by omega,b⟩,abK aeU,abI aeP,h1]
  ·rw[so aeP,abI aeU,acf];congr 1;simp;omega
theorem CM (R:df P T) (hc:Core μ h S w) (E:∀t,bg μ h S w (env t) (a.tmps.getD t undef)) (t:Nat) (p x:Operand) (hp:pop P T (.store t p x) env h K):
  eN P ⟨dst,.store t p x,ty,pos,after,guard⟩ a μ h S w K:=by
 have U:=bF E x;have F:=bF E p;simp only[pop]at hp;split at hp
 ·rename_i id gen i off A;rw[A]at F;split at hp
  ·rename_i g sz n e f hg;obtain⟨rfl,hp⟩:=hp;replace hp:=aW (bG hp);obtain⟨G,B⟩:=hp;simp only[Is]at G;obtain⟨⟨⟨H,r⟩,m⟩,hle⟩:=G;have r:=abO r;have m:=abo m;have hle:=abO hle;have hh:=dw hg;have d:=F.pX;unfold bD at d;rw[hh]at d;obtain⟨_,_,d⟩:=d;obtain⟨I,b,base,s,J,C⟩:=d rfl;obtain⟨o,L⟩:=hc.heap id g sz n e f hh;rw[s]at L;obtain⟨cur,D,lP,M⟩:=bC.cells J.1 L;obtain⟨V,N⟩:=kg H U;have q:∀(j:Nat) (pv:PV),(cellsOf (ev env x))[j]? =some pv->dL pv=false:=λj pv hj=>EH H hj;generalize xf:cellsOf (ev env x)=cs at*;generalize O:(a.eval x).cells.toList=vs at*;have r:0<cs.length:=by omega
   obtain⟨inf,W,X⟩:=Ng R m r;have hmul:(i+1)*sz<=n*sz:=abB _ I;rw[abC]at hmul
   have Q:(storeCells ⟨b,base+i*sz+off,none⟩ vs 0).run P w=.ok () (w.setRow b (cur.toList.take (base+i*sz+off+0)++vs++cur.toList.drop (base+i*sz+off+0+vs.length)).toArray):=
    run_storeCells_at P b (base+i*sz+off) e vs 0 cur w D aeP (λv hv=>by
     obtain⟨j,hj,rfl⟩:=abQ.1 hv;have Y:j<cs.length:=by omega
     obtain⟨u,hu,d⟩:=N j cs[j] (abm Y);rw[abm hj]at hu;injection hu with hu;rw[hu];exact d.one)
   rw[ace]at Q
   have y:∀k,(tn f i (fC (f i) off cs) k)=if k=i then fC (f i) off cs else f k:=λk=>by
    unfold tn;by_cases c:k=i
    ·subst c;simp
    ·have:Nat.beq k i=false:=by
      cases Z:Nat.beq k i with
      | true=>exact(c (abo Z)).elim
      | false=>rfl
     simp [this,c]
   have iY:=sO (w1:=w.setRow b (cur.toList.take (base+i*sz+off)++vs++cur.toList.drop (base+i*sz+off+vs.length)).toArray) hc id g g sz n n e f (tn f i (fC (f i) off cs)) hh b base
    (cur.toList.take (base+i*sz+off)++vs++cur.toList.drop (base+i*sz+off+vs.length)).toArray (abn _) (λ_=>⟨s,rfl⟩)
    (.inr ⟨base,cur,s,D,by simp;omega⟩) (setRow_heap w b cur _ e _ D) aeU
    (λb' _ la=>setRow_other w b b' _ la) aeR rfl rfl rfl
    (λk c=>by
     rw[y];split
     ·rename_i l;subst l;rw[ke];exact o _ c
     ·exact o k c)
    (λb' k5 z=>by rw[s]at z;injection z with z;injection z with h1 _;subst h1;exact J.1.xj)
    (λk j pv c hj=>by
     have ED:j<sz:=by
      have h1:=(As.1 hj).1;rw[y]at h1;split at h1
      ·rw[ke,o i I]at h1;exact h1
      ·rw[o k c]at h1;exact h1
     have Nh:(cur.toList.take (base+i*sz+off)++vs++cur.toList.drop (base+i*sz+off+vs.length)).toArray[base+k*sz+j]? =if base+i*sz+off<=base+k*sz+j/\base+k*sz+j<base+i*sz+off+vs.length then vs[base+k*sz+j - (base+i*sz+off)]? else cur[base+k*sz+j]?:=by
      have VB:=oe cur.toList vs (base+i*sz+off) (base+k*sz+j) aeU;rw[acE,VB];simp only[abJ]
     rw[Nh];rw[y]at hj;by_cases l:k=i
     ·subst l;rw[An rfl,mD cs (f k) off j (by rw[o k c];exact hle)]at hj;by_cases d:off<=j/\j<off+cs.length
      ·rw[An d]at hj;rw[An aeP];obtain⟨u,hu,jR⟩:=N _ _ hj;exact⟨u,by rw[<-hu];congr 1;omega,jR.k (q _ _ hj)⟩
      ·rw[so d]at hj;rw[so aeP];exact M k j pv c hj
     ·rw[so l]at hj
      have AY:¬(base+i*sz+off<=base+k*sz+j/\base+k*sz+j<base+i*sz+off+vs.length):=by
       rcases Nat.lt_or_gt_of_ne l with bm | zO
       ·have:(k+1)*sz<=i*sz:=abB _ bm;rw[abC]at this;omega
       ·have:(i+1)*sz<=k*sz:=abB _ zO;rw[abC]at this;omega
      rw[so AY];exact M k j pv c hj) 0 (λk j bw n' e' f' F' c hj=>by
    rw[abx];refine⟨c,?_⟩;rw[y]at hj;by_cases l:k=i
    ·subst l;rw[An rfl,mD cs (f k) off j (by rw[o k c];exact hle)]at hj;by_cases d:off<=j/\j<off+cs.length
     ·rw[An d]at hj;have:=q _ _ hj;cases this
     ·rw[so d]at hj;exact hj
    ·rw[so l]at hj;exact hj)
   obtain⟨gJ,lQ⟩:=iY;obtain⟨_,f',rfl,BQ,B⟩:=B;refine eN.rows (eN.Gr ?_ ⟨_,dz.set _ _ _ _ _ _ _ _ BQ,B⟩ lQ gJ);have e1:(execOp a.eval ⟨dst,.store t p x,ty,pos,after,guard⟩)=(do Instr.storeAt t (a.eval p) (a.eval x);pure .skip:Sem Next):=rfl;rw[e1,C]
   have fy:¬(a.eval x).cells.size≠inf.size:=by
    rw[X];simp only[ne_eq,Decidable.not_not];rw[<-V,<-O];simp
   simp only[Instr.storeAt,Instr.sureAddr,storeVar,Sem.run_bind,Sem.run_pure,Result.andThen,jw W,so fy,O,Q]
  ·exact aen
 ·exact aen
theorem zc (z:Array Value) (n q:Nat) (a:q<n) (b:0<z.size):(madeCells z n)[q]? =z[q % z.size]?:=by
 have h1:q % z.size<z.size:=Nat.mod_lt _ b;simp [madeCells,a,h1]
theorem Ni (i j sz:Nat) (hj:j<sz):(i*sz+j) % sz=j:=by
 rw[Nat.mul_comm,Nat.mul_add_mod];exact Nat.mod_eq_of_lt hj
theorem jK (w:World) (o:Obj):bR w (w.alloc o):=
 ⟨λb a=>Below.heap_alloc w o b a,by simp,rfl,rfl,rfl⟩
theorem EK (x:df P T) (hc:Core μ h S w) (q:∀t,bg μ h S w (env t) (a.tmps.getD t undef)) (t:Nat) (l c:Operand) (hp:pop P T (.makeSlice t l c) env h K):
  eN P ⟨dst,.makeSlice t l c,ty,pos,after,guard⟩ a μ h S w K:=by
 have r:=bF q l;have s:=bF q c;simp only[pop]at hp;split at hp
 ·rename_i e sz bytes zero k n y m z g o;rw[g]at r;rw[o]at s;obtain⟨⟨h0,h1,h2,Q⟩,_,R,rfl,A,B⟩:=hp;obtain⟨hu,U,inf,d,C,D,E,F,G,u,v⟩:=x.slice _ _ _ _ _ z;subst D E
  have hm:(inf.bytes:Int)*m<=281474976710656:=by
   have H:(m.toNat:Int)=m:=Int.toNat_of_nonneg aeP;have e2:((m.toNat*inf.bytes:Nat):Int)<=140737488355328:=by omega
   rw[Int.natCast_mul,H,Int.mul_comm]at e2;omega
  have I:=run_make (P:=P) w t e inf d hu C F k y n m h0 h1 hm aeP
  have J:=lW (w1:=w.alloc (.cells (madeCells d.cells (m.toNat*inf.size)) e)) hc inf.size n.toNat e (λ_=>zero) (some (w.heap.size,0))
   ⟨abn _,_,heap_alloc_new w _,by
    rw[size_madeCells,abx];exact abB _ aeP,λi j pv hi hj=>by
    have L:j<inf.size:=by rw[<-u];exact(As.1 hj).1
    have M:0+i*inf.size+j<m.toNat*inf.size:=by
     have:(i+1)*inf.size<=m.toNat*inf.size:=abB _ aeP;rw[abC]at this;omega
    rw[zc _ _ _ M aeP,abx,G,Ni i j _ L];have f:j<d.cells.size:=by omega
    obtain⟨pv',b,_,p⟩:=v j d.cells[j] (abM f);rw[hj]at b;injection b with b;subst b;exact⟨_,abM f,bp.ir (p S w)⟩⟩ (jK w _) (λi hi=>u) (λi j pv _ hj=>by
  have f:j<d.cells.size:=by have:=(As.1 hj).1;omega
  obtain⟨pv',b,_,p⟩:=v j d.cells[j] (abM f);rw[hj]at b;injection b with b;rw[b];exact aI.no (p S w))
  obtain⟨N,O⟩:=J;refine eN.rows (eN.gg (cu rfl (by rw[r.iX,s.iX];exact I)) ⟨_,dz.snoc _ _ _ _ _ _ _ A,B⟩ ?_ O N);show aN _ _ _ _ _ _ _ _;unfold aN;rw[abI (abn _),acx];refine⟨⟨_,_,_,rfl⟩,abn _,λ_=>⟨by omega,?_⟩⟩;rw[aR];refine⟨_,m.toNat,rfl,by omega,λ_=>by simp,_,e,_,heap_alloc_new w _,?_⟩;rw[size_madeCells];simp
 ·exact aen
theorem CN (sz len:Nat) (place:Nat->Option (Nat×Nat)) (f:∀i,place i=some (i*sz,sz)):∀(l:List (Nat×Operand)) (ρ:Operand->Value) (k:Nat) (cells:Array Value),u6 len k l=true->cells.size=len*sz->
  (∀p∈l,(ρ p.2).cells.size=sz)->
  ∃e,Instr.fill place cells (l.map λp=>(p.1,ρ p.2))=some e/\e.size=len*sz/\(∀q,q<k*sz->e[q]? =cells[q]?)/\
   ∀(i j:Nat) (p:Nat×Operand),l[i]? =some p->j<sz->e[(k+i)*sz+j]? =(ρ p.2).cells[j]?
 | [],ρ,k,cells,hi,hs,_=>⟨cells,rfl,hs,λ_ _=>rfl,λi j p hp=>by simp at hp⟩
 | (c,x)::r,ρ,k,cells,hi,hs,hv=>by
  simp only[u6,Is]at hi;have m:=abo hi.1;subst m
  have hlen:∀(l:List (Nat×Operand)) (k:Nat),u6 len k l=true->k<=len:=by
   intro l;induction l with
   | nil=>intro k h;exact ady (abo h)
   | cons p l n=>
    intro k h;obtain⟨a,b⟩:=p;simp only[u6,Is]at h;have:=n (k+1) h.2;omega
  have o:=hlen r (c+1) hi.2;have d:=hv (c,x) aeR;have s:(c+1)*sz<=len*sz:=abB _ o;have t:=s;rw[abC]at t;obtain⟨u,g2⟩:=oT (ρ x) (c*sz) cells (by rw[d];omega);obtain⟨e,h1,h2,g,h4⟩:=CN sz len place f r ρ (c+1) _ hi.2 (u.trans hs) (λp hp=>hv p (by simp [hp]));refine⟨e,?_,h2,λq v=>?_,λi j p hp hj=>?_⟩
  ·simp only[abF,Instr.fill,f];rw[so (by simp only[d,ne_eq,not_true_eq_false,false_or];simp only[acr,abH,not_or];simp;omega)];exact h1
  ·rw[g q (by rw[abC];omega),g2 q,so aeP]
  ·cases i with
   | zero=>
    simp at hp;subst hp;rw[ace,g _ (by rw[abC];omega),g2,d,An aeP];congr 1;omega
   | succ i=>
    simp at hp;have:=h4 i j p hp hj;rw[show c+1+i=c+(i+1)from by omega]at this;exact this
theorem uw (C:df P T) (hc:Core μ h S w) (D:∀t,bg μ h S w (env t) (a.tmps.getD t undef)) (t len:Nat) (parts:Array (Nat×Operand)) (hp:pop P T (.buildSlice t len parts) env h K):
  eN P ⟨dst,.buildSlice t len parts,ty,pos,after,guard⟩ a μ h S w K:=by
 simp only[pop]at hp;split at hp
 ·rename_i e sz bytes zero E;replace hp:=aW hp;obtain⟨v,b⟩:=hp;obtain⟨hu,X,inf,f,n,F,Y,G,Z,BO,KF⟩:=C.slice _ _ _ _ _ E;subst F;simp only[Is]at v;obtain⟨z,hle⟩:=v;have hle:=abO hle;obtain⟨A,b⟩:=u7 _ _ b;simp only[adu,acj]at b
  have o:∀p∈parts.toList,(a.eval p.2).cells.size=inf.size/\(cellsOf (ev env p.2)).length=inf.size/\
    ∀(j:Nat) (q:PV),(cellsOf (ev env p.2))[j]? =some q->∃u,(a.eval p.2).cells[j]? =some u/\bp μ h S w q u:=λp hp=>by
   obtain⟨h1,h2⟩:=A p hp;have h2:=abo h2;obtain⟨B,h4⟩:=kg h1 (bF D p.2);simp only[acn,abJ]at B h4;exact⟨B.trans h2,h2,h4⟩
  obtain⟨g,H,f2,_,I⟩:=CN inf.size len (λi=>some (i*inf.size,inf.size)) (λ_=>rfl) parts.toList a.eval 0
   ((Array.range (len*inf.size)).map (λq=>(if len*inf.size=0 then #[]else f.cells)[q % (if len*inf.size=0 then #[]else f.cells).size]!)) z aeR (λp hp=>(o p hp).1)
  have hlen:parts.toList.length=len:=by
   have key:∀(l:List (Nat×Operand)) (k:Nat),u6 len k l=true->k+l.length=len:=by
    intro l;induction l with
    | nil=>intro k hh;exact abo hh
    | cons p l J=>
     intro k hh;obtain⟨x,y⟩:=p;simp only[u6,Is]at hh;have:=J (k+1) hh.2;simp only[abp];omega
   have:=key parts.toList 0 z;omega
  have cF:∀i,i<len->∃p,parts.toList[i]? =some p/\p∈parts.toList/\(parts.toList.map λp=>cellsOf (ev env p.2)).getD i []=cellsOf (ev env p.2):=λi hi=>by
   have r:i<parts.toList.length:=by omega
   refine⟨parts.toList[i],abm r,abu r,?_⟩;rw[abv,abD,abm r];rfl
  have L:=lW (w1:=w.alloc (.cells g e)) hc inf.size len e (λk=>(parts.toList.map λp=>cellsOf (ev env p.2)).getD k []) (some (w.heap.size,0))
   ⟨abn _,g,heap_alloc_new w _,by omega,λi j pv hi hj=>by
    obtain⟨p,s,c,d⟩:=cF i hi;rw[d]at hj;obtain⟨_,q2,q3⟩:=o p c;have M:j<inf.size:=by rw[<-q2];exact(As.1 hj).1
    have:=I i j p s M;rw[abx]at this;obtain⟨u,N,O⟩:=q3 j pv hj;exact⟨u,by rw[<-N,<-this,abx],O⟩⟩ (jK w _)
   (λi hi=>by
    obtain⟨p,s,c,d⟩:=cF i hi;rw[d];exact(o p c).2.1) (λi j pv hi hj=>by
    obtain⟨p,s,c,d⟩:=cF i hi;rw[d]at hj;exact EH (A p c).1 hj)
  obtain⟨Q,R⟩:=L;obtain⟨f',U,b⟩:=b;refine eN.rows (eN.gg (val:=.slice (some ⟨w.heap.size,0,none⟩) len len) (cu rfl ?_) ⟨_,dz.snoc _ _ _ _ _ _ _ U,b⟩ ?_ R Q)
  ·have V:(parts.map λp=>(p.1,a.eval p.2)).toList=parts.toList.map λp=>(p.1,a.eval p.2):=by simp
   have W:¬(16777216<len*inf.size):=by omega
   have m:Instr.fill (λi=>some (i*inf.size,inf.size)) (Array.map (λx=>(if len*inf.size=0 then #[]else f.cells)[x % (if len*inf.size=0 then #[]else f.cells).size]!) (Array.range (len*inf.size))) (parts.map λp=>(p.1,a.eval p.2)).toList=some g:=by
    rw[V];exact H
   by_cases h0:len*inf.size=0
   ·simp [h0]at m;simp only[Instr.buildSlice,Sem.run_bind,run_underlying hu,Result.andThen,jw n];simp [h0,newRow];rw[m];rfl
   ·simp [h0]at m;simp only[Instr.buildSlice,Sem.run_bind,run_underlying hu,Result.andThen,jw n];simp [h0,W,newRow,zeroValue,typeInfo,n,G];rw[m];rfl
  ·show aN _ _ _ _ _ _ _ _;unfold aN;rw[abI (abn _),acx];refine⟨⟨_,_,_,rfl⟩,abn _,λ_=>⟨by omega,?_⟩⟩;rw[aR];exact⟨_,len,rfl,abn _,λ_=>by simp,g,e,_,heap_alloc_new w _,by rw[abx,abx];omega⟩
 ·exact aen
theorem HV (hc:Core μ h S w) (d:∀t,bg μ h S w (env t) (a.tmps.getD t undef)) (t:Nat) (x:Operand) (hp:pop P T (.box t x) env h K):
  eN P ⟨dst,.box t x,ty,pos,after,guard⟩ a μ h S w K:=by
 simp only[pop]at hp;replace hp:=aW (bG hp);obtain⟨b,e⟩:=hp;simp only[Is]at b;obtain⟨c,hlen⟩:=b;have hlen:=abo hlen;obtain⟨f,h4⟩:=kg c (bF d x);simp only[acn,abJ]at f h4
 have g:=lW (w1:=w.alloc (.cells (a.eval x).cells t)) hc (jf (T.get t)) 1 t (λ_=>cellsOf (ev env x)) (some (w.heap.size,0))
  ⟨abn _,_,heap_alloc_new w _,by omega,λi j pv hi hj=>by
   obtain⟨u,hu,k⟩:=h4 j pv hj;have:i=0:=by omega
   subst this;exact⟨u,by rw[<-hu];congr 1;omega,k⟩⟩ (jK w _) (λi hi=>hlen) (λi j pv _ hj=>EH c hj)
 obtain⟨l,m⟩:=g;refine eN.gg (val:=.pointer (some ⟨w.heap.size,0,none⟩)) (cu rfl ?_) e ?_ m l
 ·simp [Instr.box,newVar,newRow]
 ·show bD _ _ _ _ _ _ _ _;unfold bD;rw[abI (abn _),acx];refine⟨⟨_,rfl⟩,abn _,λ_=>⟨by omega,w.heap.size,0,aR _ _ _,⟨⟨_,_,_,heap_alloc_new w _,abY _⟩,λ_=>rfl⟩,?_⟩⟩;simp
theorem CO (g:df P T) (hc:Core μ h S w) (t:Nat) (hp:pop P T (.alloc t) env h K):
  eN P ⟨dst,.alloc t,ty,pos,after,guard⟩ a μ h S w K:=by
 simp only[pop]at hp;split at hp
 ·rename_i z k;obtain⟨i,c,hi,l,q,m,f⟩:=g.zero t z k;generalize r:jf (T.get t)=sz at*
  have n:=lW (w1:=w.alloc (.cells c.cells t)) hc sz 1 t (λ_=>z) (some (w.heap.size,0))
   ⟨abn _,_,heap_alloc_new w _,by omega,λi j pv hi hj=>by
    have d:j<c.cells.size:=by
     have:=(As.1 hj).1;omega
    obtain⟨pv',b,_,e⟩:=f j c.cells[j] (abM d);rw[hj]at b;injection b with b;subst b;have:i=0:=by omega
    subst this;exact⟨_,by rw[<-abM d];congr 1;omega,bp.ir (e S w)⟩⟩ (jK w _) (λi hi=>m) (λi j pv _ hj=>by
  have d:j<c.cells.size:=by have:=(As.1 hj).1;omega
  obtain⟨pv',b,_,e⟩:=f j c.cells[j] (abM d);rw[hj]at b;injection b with b;rw[b];exact aI.no (e S w))
  obtain⟨o,p⟩:=n;refine eN.gg (val:=.pointer (some ⟨w.heap.size,0,none⟩)) (cu rfl ?_) hp ?_ p o
  ·simp [Instr.alloc,zeroValue,typeInfo,hi,l,newVar,newRow]
  ·show bD _ _ _ _ _ _ _ _;unfold bD;rw[abI (abn _),acx];refine⟨⟨_,rfl⟩,abn _,λ_=>⟨by omega,w.heap.size,0,aR _ _ _,⟨⟨_,_,_,heap_alloc_new w _,abY _⟩,λ_=>rfl⟩,?_⟩⟩;simp
 ·exact aen
end
end Go.Am
