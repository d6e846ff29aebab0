/- Texts of the proof, joined and shortened. -/
import Derived.Test.YtmkelbnaodipcaaDoorPk0
import Derived.WalkLawsBesides
set_option linter.unusedVariables false
set_option linter.unusedSimpArgs false
namespace Go.Am
open Go Go.RowKit
def ql:TypeDesc->Bool
 | .struct _=>true
 | .array _ _=>true
 | _=>false
def dW (P:Program):Nat->List Field->List PV->Bool
 | _,[],[]=>true
 | n,f::r,.int k _::z=>f.name != "_" &&Nat.beq f.offset n&&(match P.underlying f.type with | some (.int a)=>jx k a | _=>false)&&dW P (n+1) r z
 | n,f::r,.bool _::z=>f.name != "_" &&Nat.beq f.offset n&&(match P.underlying f.type with | some .bool=>true | _=>false)&&dW P (n+1) r z
 | n,f::r,.str _::z=>f.name != "_" &&Nat.beq f.offset n&&(match P.underlying f.type with | some .string=>true | _=>false)&&dW P (n+1) r z
 | _,_,_=>false
def tU (P:Program) (t:Nat) (z:List PV):Bool:=match P.underlying t with
 | some (.struct fs)=>!(P.stoodInHeld t)&&!(P.eqGuardType P.depth t)&&dW P 0 fs.toList z
 | _=>false
structure bR (P:Program) (T:ij):Prop where
 flat:∀t sz fl z,T.get t=.struct sz fl z->pj z=true->tU P t z=true
 int:∀t k,T.get t=.int k->P.underlying t=some (.int k)
 bool:∀t,T.get t=.bool->P.underlying t=some .bool
 str:∀t,T.get t=.str->P.underlying t=some .string
 ptr:∀t e,T.get t=.ptr e->P.underlying t=some (.pointer e)
 slice:∀t e sz BR z,T.get t=.slice e sz BR z->P.underlying t=some (.slice e)/\0<sz/\∃i zv,P.info? e=some i/\i.size=sz/\i.bytes=BR/\i.zero=some zv/\zv.cells.size=sz/\z.length=sz/\
  ∀(j:Nat) (u:Value),zv.cells[j]? =some u->∃pv:PV,z[j]? =some pv/\u.oneCell'=true/\∀S w,aI S w pv u
 map:∀t k e z,T.get t=.map k e z->P.underlying t=some (.map k e)/\∃i zv,P.info? e=some i/\i.zero=some zv/\jy z zv/\eA z=true/\storable z=true
 bytes:∀t e sz BR z,T.get t=.slice e sz BR z->0<BR
 one:∀t,fh (T.get t)=1->(∀sz fl z,T.get t≠.struct sz fl z)->∃i,P.info? t=some i/\i.size=1
 zero:∀t z,qm (T.get t)=some z->∃i zv,P.info? t=some i/\i.zero=some zv/\zv.cells.size=fh (T.get t)/\z.length=fh (T.get t)/\
  ∀(j:Nat) (u:Value),zv.cells[j]? =some u->∃pv:PV,z[j]? =some pv/\u.oneCell'=true/\∀S w,aI S w pv u
 struct:∀t sz fl z,T.get t=.struct sz fl z->∃fs i,P.underlying t=some (.struct fs)/\P.info? t=some i/\i.size=sz/\fl.length=fs.size/\
  (∃zv,i.zero=some zv/\zv.cells.size=sz/\z.length=sz/\∀(j:Nat) (u:Value),zv.cells[j]? =some u->∃pv:PV,z[j]? =some pv/\u.oneCell'=true/\∀S w,aI S w pv u)/\
  ∀(k:Nat) (off size:Nat) (ag:Bool),fl[k]? =some (off,size,ag)->∃f j d,fs[k]? =some f/\f.offset=off/\P.info? f.type=some j/\j.size=size/\0<size/\
   P.underlying f.type=some d/\ag=ql d
section
variable {P:Program}{T:ij}{μ:Mu}{h:List au}{S:Nat->Prop}{w:World}
theorem aX.eW {k:IntKind} {n:Int} {v:Value} (hv:aX μ h S w (.int k n) v):v=.int k n:=by
 have hv:aI S w (.int k n) v:=hv;cases hv;rfl
theorem aX.gn {b:Bool} {v:Value} (hv:aX μ h S w (.bool b) v):v=.bool b:=by
 have hv:aI S w (.bool b) v:=hv;cases hv;rfl
theorem aX.gp {s:List UInt8} {v:Value} (hv:aX μ h S w (.str s) v):v=.string ⟨⟨s⟩⟩:=by
 have hv:aI S w (.str s) v:=hv;cases hv;rfl
theorem aX.iL {v:Value} (hv:aX μ h S w .aD v):v=.slice none 0 0:=by
 have hv:aI S w .aD v:=hv;cases hv;rfl
theorem aX.BS {f:Nat} {v:Value} (hv:aX μ h S w (.fn f) v):v=.func (.func f) #[] #[]:=by
 have hv:aI S w (.fn f) v:=hv;cases hv;rfl
theorem aX.lF {sz n:Nat} {f:Nat->List PV} {v:Value} (hv:aX μ h S w (.cP sz n f) v):
  (∃a c,v=.slice a n c/\n=0)\/∃(b off c:Nat) (d:Nat->Nat->Value),v=.slice (some ⟨b,off,none⟩) n c/\S b/\(∀i,i<n->(f i).length=sz)/\n<=c/\
   (∀(i j:Nat) (pv:PV),i<n->(f i)[j]? =some pv->w.cell? ⟨b,off+i*sz+j,none⟩=some (d i j))/\(∀(i j:Nat) (pv:PV),i<n->(f i)[j]? =some pv->aI S w pv (d i j)):=by
 have hv:aI S w (.cP sz n f) v:=hv;cases hv with
 | iq _ _ a c=>exact .inl ⟨a,c,rfl,rfl⟩
 | cP _ _ _ b off c d h1 h2 e h4 g=>exact .inr ⟨b,off,c,d,rfl,h1,h2,e,h4,g⟩
theorem aX.nA {cs:List PV} {v:Value} (hv:aX μ h S w (.cN cs) v):
  ∃(b off:Nat) (a:Nat->Value),v=.pointer (some ⟨b,off,none⟩)/\S b/\(∀(j:Nat) (pv:PV),cs[j]? =some pv->w.cell? ⟨b,off+j,none⟩=some (a j))/\(∀(j:Nat) (pv:PV),cs[j]? =some pv->aI S w pv (a j)):=by
 have hv:aI S w (.cN cs) v:=hv;cases hv with
 | cN _ b off a h1 h4 c=>exact⟨b,off,a,rfl,h1,h4,c⟩
theorem BT {v:Value} {p:PV} (h:HH v=some p):aI S w p v:=by
 cases v with
 | int k n=>cases h;exact aI.int k n
 | bool b=>cases h;exact aI.bool b
 | string s=>
  obtain⟨⟨l⟩⟩:=s;cases h;exact aI.str l
 | slice a n c=>
  cases a with
  | none=>
   cases n with
   | zero=>
    cases c with
    | zero=>cases h;exact aI.aD
    | succ c=>cases h
   | succ n=>cases h
  | some a=>cases h
 | pointer a=>
  cases a with
  | none=>cases h;exact aI.dx
  | some a=>cases h
 | _=>cases h
theorem u6:∀{vs:List Value} {l:List PV},zy vs=some l->vs.length=l.length/\∀(j:Nat) (pv:PV),l[j]? =some pv->∃u,vs[j]? =some u/\aI S w pv u
 | [],l,h=>by
  cases h;exact⟨rfl,λj pv hj=>by simp at hj⟩
 | v::r,l,h=>by
  unfold zy at h;cases h1:HH v with
  | none=>rw[h1]at h;cases h
  | some p=>
   cases h2:zy r with
   | none=>rw[h1,h2]at h;cases h
   | some q=>
    rw[h1,h2]at h;cases h;obtain⟨q1,q2⟩:=u6 h2;refine⟨by simp [q1],λj pv hj=>?_⟩;cases j with
    | zero=>simp at hj;subst hj;exact⟨v,rfl,BT h1⟩
    | succ j=>obtain⟨u,a,b⟩:=q2 j pv UW;exact⟨u,by simpa using a,b⟩
theorem u7 (v:Value):aX μ h S w (ofValue v) v:=by
 cases v with
 | int k n=>exact aI.int k n
 | bool b=>exact aI.bool b
 | string s=>
  obtain⟨⟨l⟩⟩:=s;exact aI.str l
 | slice a n c=>
  cases a with
  | none=>
   cases n with
   | zero=>
    cases c with
    | zero=>exact aI.aD
    | succ c=>trivial
   | succ n=>trivial
  | some a=>trivial
 | pointer a=>
  cases a with
  | none=>exact aI.dx
  | some a=>trivial
 | agg vs=>
  simp only[ofValue];cases d:zy vs.toList with
  | none=>trivial
  | some l=>
   obtain⟨q1,q2⟩:=u6 (S:=S) (w:=w) d;exact⟨vs,rfl,by simpa using q1,λj pv hj=>by obtain⟨u,e,f⟩:=q2 j pv hj;exact⟨u,by simpa using e,bf.eX f⟩⟩
 | _=>trivial
theorem bp {env:Env} {a:Act} (b:∀t,aX μ h S w (env t) (a.tmps.getD t undef)) (x:Operand):aX μ h S w (ev env x) (a.eval x):=by
 cases x with
 | tmp t=>exact b t
 | const v=>exact u7 v
 | global g=>trivial
 | func f=>exact aI.fn f
def cb (P:Program) (o:Oper) (a:Act) (μ:Mu) (h:List au) (S:Nat->Prop) (w:World) (K:PV->Prop):Prop:=
 ∃v val,K v/\aX μ h S w v val/\∀w',bg w w'->(execOp a.eval o).run P w'=.ok (.value val) w'
theorem cb.mk {o:Oper} {a:Act} {K:PV->Prop} {v:PV} {val:Value} (b:K v) (hv:aX μ h S w v val) (c:∀w',bg w w'->(execOp a.eval o).run P w'=.ok (.value val) w'):cb P o a μ h S w K:=⟨v,val,b,hv,c⟩
variable {a:Act}{env:Env}{K:PV->Prop}{dst:Option Tmp}{ty:TypeId}{pos:String}{after:Array Edge}{guard:Option (Nat×Bool)}
theorem pk {s:Sem Value} {w' a:World} {val:Value} (hs:s.run P w'=.ok val a):(do pure (Next.value (<-s)):Sem Next).run P w'=.ok (.value val) a:=by
 simp [hs]
theorem toList_mk (l:List UInt8):(ByteArray.mk ⟨l⟩).toList=l:=by
 have h:(ByteArray.mk ⟨l⟩).toList=(ByteArray.mk ⟨l⟩).data.toList:=by simp
 rw[h]
theorem yw {a:BinOp} {t:TypeId} {x y:Operand} {u b val:Value} {w':World} (hg:eqGuard a t x y u b=pure ()) (hb:(binOp a t u b).run P w'=.ok val w'):
  (do eqGuard a t x y u b;binOp a t u b:Sem Value).run P w'=.ok val w':=by
 rw[hg];simp [hb]
theorem kj {P:Program} {t:TypeId} {d:TypeDesc} (hu:P.underlying t=some d) (hd:ql d=false) (cs:Array Value) (off:Nat) (v:Value) (hc:cs[off]? =some v) (w:World):(part t cs off).run P w=.ok v w:=by
 have:(isAgg t).run P w=.ok false w:=by
  unfold isAgg;simp only[Sem.run_bind,run_underlying hu,Result.andThen];cases d<;>first | rfl | cases hd
 simp [part,this,hc]
theorem bw {g q:Bool} {o:Option Bool} {b:Bool} (h:u9 g q o=some b):g=true/\∃c,o=some c/\b=(q&&c):=by
 cases o with
 | none=>cases h
 | some c=>cases g with
  | true=>exact⟨rfl,c,rfl,(SW h).symm⟩
  | false=>cases h
theorem jz {P:Program} {μ:Mu} {h:List au} {S:Nat->Prop} {w w':World} {xs o:Array Value} (d:Nat):∀(fs:List Field) (z l m:List PV) (n:Nat) (b:Bool),dW P n fs z=true->
  (∀(j:Nat) (pv:PV),l[j]? =some pv->∃u,xs[n+j]? =some u/\bf μ h S w pv u)->(∀(j:Nat) (pv:PV),m[j]? =some pv->∃u,o[n+j]? =some u/\bf μ h S w pv u)->
  sj z l m=some b->(Op.eqFields (d+1) xs o fs).run P w'=.ok b w'
 | [],z,l,m,n,b,hf,_,_,hk=>by
  cases z with
  | nil=>
   cases l with
   | nil=>cases m with
    | nil=>cases hk;rfl
    | cons _ _=>cases hk
   | cons _ _=>cases hk
  | cons _ _=>simp [dW]at hf
 | f::fs,z,l,m,n,b,hf,hx,hy,hk=>by
  have go:∀(p s:PV) (t v:Value) (q c:Bool) (dd:TypeDesc) (z r g:List PV),l=p::r->m=s::g->(∀u,bf μ h S w p u->u=t)->(∀u,bf μ h S w s u->u=v)->f.name≠ "_" ->f.offset=n->P.underlying f.type=some dd->ql dd=false->
    (Op.equalIn (d+1) f.type t v).run P w'=.ok q w'->dW P (n+1) fs z=true->sj z r g=some c->(Op.eqFields (d+1) xs o (f::fs)).run P w'=.ok (q&&c) w':=by
   intro p s t v q c dd z r g C D E F G x hu hd hq H I;subst C D;obtain⟨y,J,K⟩:=hx 0 p rfl;obtain⟨A,L,M⟩:=hy 0 s rfl;obtain rfl:=E y K;obtain rfl:=F A M
   have N:=jz (w':=w') d fs z r g (n+1) c H (λj pv hj=>by
     obtain⟨u,q1,q2⟩:=hx (j+1) pv UW;exact⟨u,by rw[<-q1];congr 1;omega,q2⟩) (λj pv hj=>by
     obtain⟨u,q1,q2⟩:=hy (j+1) pv UW;exact⟨u,by rw[<-q1];congr 1;omega,q2⟩) I
   have O:=kj hu hd xs f.offset y (by rw[x];exact J) w';have Q:=kj hu hd o f.offset A (by rw[x];exact L) w';unfold Op.eqFields;rw[An G];simp only[Sem.run_bind,O,Q,hq,Result.andThen_ok];cases q with
   | true=>simpa using N
   | false=>simp
  unfold sj at hk;split at hk
  ·simp [dW]at hf
  ·rename_i k B z R a r T e g;simp only[dW,so,TW]at hf;obtain⟨⟨⟨h1,h2⟩,i⟩,h4⟩:=hf;have h2:=No h2;obtain⟨hg,c,hc,rfl⟩:=bw hk;simp only[so]at hg;obtain rfl:=cz hg.1;obtain rfl:=cz hg.2;split at i
   ·rename_i U hu;exact go _ _ (.int k a) (.int k e) (a==e) c _ z r g rfl rfl (λu hu=>by have hu:aI S w (.int k a) u:=hu;cases hu;rfl) (λu hu=>by have hu:aI S w (.int k e) u:=hu;cases hu;rfl) h1 h2 hu rfl (run_equalIn_int w' d _ _ _ _ _ hu) h4 hc
   ·cases i
  ·rename_i B z a r e g;simp only[dW,so,TW]at hf;obtain⟨⟨⟨h1,h2⟩,i⟩,h4⟩:=hf;have h2:=No h2;obtain⟨hg,c,hc,rfl⟩:=bw hk;split at i
   ·rename_i hu;exact go _ _ (.bool a) (.bool e) (a==e) c _ z r g rfl rfl (λu hu=>by have hu:aI S w (.bool a) u:=hu;cases hu;rfl) (λu hu=>by have hu:aI S w (.bool e) u:=hu;cases hu;rfl) h1 h2 hu rfl (run_equalIn_bool w' d _ _ _ hu) h4 hc
   ·cases i
  ·rename_i B z a r e g;simp only[dW,so,TW]at hf;obtain⟨⟨⟨h1,h2⟩,i⟩,h4⟩:=hf;have h2:=No h2;obtain⟨hg,c,hc,rfl⟩:=bw hk;split at i
   ·rename_i hu
    exact go _ _ (.string ⟨⟨a⟩⟩) (.string ⟨⟨e⟩⟩) (a==e) c _ z r g rfl rfl (λu hu=>by have hu:aI S w (.str a) u:=hu;cases hu;rfl) (λu hu=>by have hu:aI S w (.str e) u:=hu;cases hu;rfl) h1 h2 hu rfl (by
     rw[run_equalIn_string w' d _ _ _ hu,toList_mk,toList_mk]) h4 hc
   ·cases i
  ·cases hk
theorem zA (m:bR P T) (d:BinOp) (t o:TypeId) (x y:Operand) (q r:PV) (hx:aX μ h S w q (a.eval x)) (hy:aX μ h S w r (a.eval y)) (hp:zB (T.get t) d q r K):
  cb P ⟨dst,.binOp d t x y o,ty,pos,after,guard⟩ a μ h S w K:=by
 have key:∀(v:PV) (val:Value),K v->aX μ h S w v val->eqGuard d t x y (a.eval x) (a.eval y)=pure ()->(∀w',(binOp d t (a.eval x) (a.eval y)).run P w'=.ok val w')->
   cb P ⟨dst,.binOp d t x y o,ty,pos,after,guard⟩ a μ h S w K:=λv val e hv hg p=>.mk e hv λw' _=>pk (yw hg (p w'))
 unfold zB at hp;split at hp
 ·rename_i k n N u;have ex:=hx.eW;have c:=hy.eW;have hg:eqGuard d t x y (a.eval x) (a.eval y)=pure ():=by rw[ex];apply eqGuard_at_int
  cases d<;>simp only at hp
  case shl=>
   have h0:¬u<0:=by omega
   exact key _ _ hp.2 (aI.int _ _) hg λw'=>by rw[ex,c,binOp_shl];simp only[Op.shift,Is h0];rfl
  case shr=>
   have h0:¬u<0:=by omega
   exact key _ _ hp.2 (aI.int _ _) hg λw'=>by rw[ex,c,binOp_shr];simp only[Op.shift,Is h0];rfl
  all_goals
   replace hp:=aT hp;obtain⟨hk,hp⟩:=hp;obtain rfl:=cz hk
  case and=>exact key _ _ hp (aI.int _ _) hg λw'=>by rw[ex,c,binOp_and,intBits_and];rfl
  case or=>exact key _ _ hp (aI.int _ _) hg λw'=>by rw[ex,c,binOp_or,intBits_or];rfl
  case xor=>exact key _ _ hp (aI.int _ _) hg λw'=>by rw[ex,c,binOp_xor,intBits_xor];rfl
  case andNot=>exact key _ _ hp (aI.int _ _) hg λw'=>by rw[ex,c,binOp_andNot,intBits_andNot];rfl
  case add=>exact key _ _ hp (aI.int _ _) hg λw'=>by rw[ex,c,binOp_add];rfl
  case sub=>exact key _ _ hp (aI.int _ _) hg λw'=>by rw[ex,c,binOp_sub];rfl
  case mul=>exact key _ _ hp (aI.int _ _) hg λw'=>by rw[ex,c,binOp_mul];rfl
  case quo=>exact key _ _ hp.2 (aI.int _ _) hg λw'=>by rw[ex,c,binOp_quo];simp [Op.intDiv,hp.1]
  case rem=>exact key _ _ hp.2 (aI.int _ _) hg λw'=>by rw[ex,c,binOp_rem];simp [Op.intDiv,hp.1]
  case eql=>exact key _ _ hp (aI.bool _) hg λw'=>by rw[ex,c,binOp_eql];rfl
  case neq=>exact key _ _ hp (aI.bool _) hg λw'=>by rw[ex,c,binOp_neq];rfl
  case lss=>exact key _ _ hp (aI.bool _) hg λw'=>by rw[ex,c,binOp_lss];rfl
  case leq=>exact key _ _ hp (aI.bool _) hg λw'=>by rw[ex,c,binOp_leq];rfl
  case gtr=>exact key _ _ hp (aI.bool _) hg λw'=>by rw[ex,c,binOp_gtr];rfl
  case geq=>exact key _ _ hp (aI.bool _) hg λw'=>by rw[ex,c,binOp_geq];rfl
 ·rename_i b O;have ex:=hx.gn;have c:=hy.gn;have hg:eqGuard d t x y (a.eval x) (a.eval y)=pure ():=by rw[ex];apply eqGuard_at_bool
  split at hp
  ·rename_i f;exact key _ _ hp (aI.bool _) hg λw'=>by rw[ex,c];exact run_eql_bool w' t _ _ (m.bool _ f)
  ·rename_i f;exact key _ _ hp (aI.bool _) hg λw'=>by rw[ex,c];exact run_neq_bool w' t _ _ (m.bool _ f)
  ·exact Uq
 ·rename_i s g;have ex:=hx.gp;have c:=hy.gp;have hg:eqGuard d t x y (a.eval x) (a.eval y)=pure ():=by rw[ex];apply eqGuard_at_string
  cases d<;>simp only at hp
  case add=>
   obtain⟨Q,_,rfl,F⟩:=hp;refine key _ _ F (aI.str _) hg λw'=>?_;rw[ex,c,binOp_string_add]
   have h1:¬(((ByteArray.mk ⟨s⟩).size+(ByteArray.mk ⟨g⟩).size:Nat):Int)>IntKind.i64.max:=by
    have G:(ByteArray.mk ⟨s⟩).size=s.length:=rfl;have H:(ByteArray.mk ⟨g⟩).size=g.length:=rfl;rw[G,H,IntKind.max_i64];omega
   simp only[Op.stringOp,Is h1]
   have h2:ByteArray.mk ⟨s⟩++ByteArray.mk ⟨g⟩=ByteArray.mk ⟨s++g⟩:=by
    apply ByteArray.ext;simp [ByteArray.data_append]
   rw[h2];rfl
  case eql=>exact key _ _ hp (aI.bool _) hg λw'=>by rw[ex,c,binOp_string_eql,toList_mk,toList_mk];rfl
  case neq=>exact key _ _ hp (aI.bool _) hg λw'=>by rw[ex,c,binOp_string_neq,toList_mk,toList_mk];rfl
  case lss=>exact key _ _ hp (aI.bool _) hg λw'=>by rw[ex,c,binOp_string_lss,toList_mk,toList_mk];rfl
  case leq=>exact key _ _ hp (aI.bool _) hg λw'=>by rw[ex,c,binOp_string_leq,toList_mk,toList_mk];rfl
  case gtr=>exact key _ _ hp (aI.bool _) hg λw'=>by rw[ex,c,binOp_string_gtr,toList_mk,toList_mk];rfl
  case geq=>exact key _ _ hp (aI.bool _) hg λw'=>by rw[ex,c,binOp_string_geq,toList_mk,toList_mk];rfl
  all_goals exact hp.elim
 ·rename_i A B;split at hp
  ·rename_i sz fl z f;replace hp:=aT hp;obtain⟨I,hp⟩:=hp;have i:=m.flat _ _ _ _ f I;unfold tU at i;split at i
   ·rename_i fs hu;simp only[so,SX]at i;obtain⟨⟨h1,h2⟩,J⟩:=i;obtain⟨xs,ex,_,L⟩:=hx;obtain⟨l,c,_,M⟩:=hy;have C:P.fieldsOf t=fs:=by simp [Program.fieldsOf,hu]
    have D:∀b,sj z A B=some b->∀w',(Op.equalIn 10000 t (.agg xs) (.agg l)).run P w'=.ok b w':=λb hk w'=>by
     rw[run_equalIn_struct w' 9999 t xs l (by rw[C];exact hu) h1,C];exact jz (μ:=μ) (h:=h) (S:=S) (w:=w) 9998 fs.toList z A B 0 b J (λj pv hj=>by rw[Sx];exact L j pv hj) (λj pv hj=>by rw[Sx];exact M j pv hj) hk
    have E:∀(b:Bool),K (.bool b)->(∀w',(binOp d t (.agg xs) (.agg l)).run P w'=.ok (.bool b) w')->cb P ⟨dst,.binOp d t x y o,ty,pos,after,guard⟩ a μ h S w K:=λb e p=>.mk e (aI.bool b) λw' _=>pk (by
     rw[ex,c];simp [run_eqGuard_agg w' d t x y xs l h2,p w'])
    split at hp
    ·rename_i b hb;split at hp
     ·obtain⟨_,rfl,e⟩:=hp;exact E _ e λw'=>by rw[run_eql_struct,D b hb w'];rfl
     ·obtain⟨_,rfl,e⟩:=hp;exact E _ e λw'=>by rw[run_neq_struct,D b hb w'];rfl
     ·exact Uq
    ·exact Uq
   ·cases i
  ·exact Uq
 ·exact Uq
theorem nB {t:TypeId} {d:TypeDesc} (hu:P.underlying t=some d) (w':World):(isAgg t).run P w'=.ok (ql d) w':=by
 unfold isAgg;simp only[Sem.run_bind,run_underlying hu,Result.andThen];cases d<;>rfl
def D2 (μ:Mu) (h:List au) (S:Nat->Prop) (w:World) (cells:List PV) (b off:Nat):Prop:=
 ∀(j:Nat) (pv:PV),cells[j]? =some pv->∃u,w.cell? ⟨b,off+j,none⟩=some u/\bf μ h S w pv u
theorem qn (m:bR P T) (t:Nat) (x:Operand) (cells:List PV) (b off:Nat) (hx:a.eval x=.pointer (some ⟨b,off,none⟩)) (hc:D2 μ h S w cells b off) (hp:oM T t cells K)
  (o:∀pv u,pv∈cells->bf μ h S w pv u->aX μ h S w pv u):
  cb P ⟨dst,.load t x,ty,pos,after,guard⟩ a μ h S w K:=by
 have key:∀(v:PV) (val:Value),K v->aX μ h S w v val->(∀w',bg w w'->(loadVar t ⟨b,off,none⟩).run P w'=.ok val w')->
   cb P ⟨dst,.load t x,ty,pos,after,guard⟩ a μ h S w K:=λv val n hv p=>.mk n hv λw' ha=>by
  refine pk ?_;rw[hx];simp [Instr.loadAt,Instr.sureAddr,p w' ha]
 have one:∀d,P.underlying t=some d->ql d=false->(∃c r,cells=c::r/\K c)->
   cb P ⟨dst,.load t x,ty,pos,after,guard⟩ a μ h S w K:=λd hu hd ⟨c,r,l,n⟩=>by
  obtain⟨u,q,s⟩:=hc 0 c (by rw[l];rfl);refine key c u n (o c u (by rw[l];simp) s) λw' ha=>?_;have h0:=ha.cell q;rw[Td]at h0;unfold loadVar;simp only[Sem.run_bind,nB hu,hd,Result.andThen];simp [run_load,h0]
 unfold oM at hp;split at hp
 ·rename_i sz fl y g;obtain⟨fs,i,hu,hi,dp,_⟩:=m.struct _ _ _ _ g;replace hp:=iM _ _ _ hp;obtain⟨hle,n⟩:=hp;simp only[T1,Tq]at n
  have hf:∃f:Nat->Value,∀(j:Nat) (pv:PV),cells[j]? =some pv->w.cell? ⟨b,off+j,none⟩=some (f j)/\bf μ h S w pv (f j):=by
   refine⟨λj=>(w.cell? ⟨b,off+j,none⟩).getD undef,λj pv hj=>?_⟩;obtain⟨u,h1,h2⟩:=hc j pv hj;simp only[h1,T2];exact⟨trivial,h2⟩
  obtain⟨f,hf⟩:=hf;refine key _ (.agg ((List.range sz).map f).toArray) n ⟨_,rfl,by simp [Nat.min_eq_left hle],λj pv hj=>?_⟩ λw' ha=>?_
  ·rw[TK]at hj;split at hj
   ·rename_i A;obtain⟨h1,h2⟩:=hf j pv hj;exact⟨f j,by simp [A],h2⟩
   ·cases hj
  ·unfold loadVar;have hd:ql (.struct fs)=true:=rfl;simp only[Sem.run_bind,nB hu,hd,Result.andThen]
   have B:=run_loadCells (P:=P) w' ⟨b,off,none⟩ sz f (λj hj=>by
    rw[Addr.add_lit];have C:j<cells.length:=SH hj hle;exact ha.cell (hf j _ (As C)).1)
   simp [sizeOf,typeInfo,hi,dp,B]
 ·exact Uq
 ·rename_i h1 h2
  have l:∃c r,cells=c::r/\K c:=by
   cases cells with
   | nil=>exact hp.elim
   | cons c r=>exact⟨c,r,rfl,bm hp⟩
  cases g:T.get t with
  | int k=>exact one _ (m.int _ _ g) rfl l
  | bool=>exact one _ (m.bool _ g) rfl l
  | str=>exact one _ (m.str _ g) rfl l
  | slice e sz D z=>exact one _ (m.slice _ _ _ _ _ g).1 rfl l
  | struct sz fl y=>exact(h1 _ _ _ g).elim
  | map k e z=>exact one _ (m.map _ _ _ _ g).1 rfl l
  | ptr e=>exact one _ (m.ptr _ _ g) rfl l
  | other=>exact(h2 g).elim
theorem ca {id:Nat} {g sz n:Nat} {e:TypeId} {f:Nat->List PV} (hh:bG h id=.row g sz n e f):h[id]? =some (au.row g sz n e f):=by
 unfold bG at hh;rw[Sz]at hh;cases a:h[id]? with
 | none=>rw[a]at hh;cases hh
 | some o=>rw[a]at hh;simp at hh;rw[hh]
theorem aX.gq {id gen off len:Nat} {v:Value} (hv:aX μ h S w (.own id gen off len) v):aN μ h w id gen off len v:=hv
theorem aX.la {id gen i off:Nat} {v:Value} (hv:aX μ h S w (.aH id gen i off) v):bh μ h w id gen i off v:=hv
theorem aX.tV {id:Nat} {v:Value} (hv:aX μ h S w (.gS id) v):cQ μ h w id v:=hv
theorem qo (m:bu μ h S w) {id g sz n:Nat} {e:TypeId} {f:Nat->List PV} {v:Value} (hh:h[id]? =some (au.row g sz n e f)) (a:cQ μ h w id v):
  ∃b base es c,μ id=some (b,base)/\v=.map (some b)/\w.heap[b]? =some (.map es c)/\es.size=n/\
   ∀i,i<n->∃(d j:PV) (en:MapEntry),f i=[d,j]/\eA d=true/\eA j=true/\es[i]? =some en/\jy d en.key/\jy j en.val:=by
 unfold cQ at a;rw[hh]at a;obtain⟨_,b,base,k,⟨es,c,hb⟩,rfl⟩:=a;obtain⟨_,l⟩:=m id g sz n e f hh;rw[k]at l;obtain⟨o,h1,h2⟩:=l;obtain rfl:=SW (hb.symm.trans h1);exact⟨b,base,es,c,k,rfl,hb,h2.1,h2.2⟩
theorem nC:∀(z xs a:List PV) (b:Bool),sj z xs a=some b->∀(j:Nat) (pv:PV),a[j]? =some pv->∀u,kG pv u->bf μ h S w pv u
 | z,xs,a,b,hk,j,pv,hj,u,hu=>by
  unfold sj at hk;split at hk
  ·simp at hj
  ·obtain⟨_,c,hc,_⟩:=bw hk;cases j with
   | zero=>simp at hj;subst hj;have hu:u=_:=hu;subst hu;exact aI.int _ _
   | succ j=>exact nC _ _ _ c hc j pv UW u hu
  ·obtain⟨_,c,hc,_⟩:=bw hk;cases j with
   | zero=>simp at hj;subst hj;have hu:u=_:=hu;subst hu;exact aI.bool _
   | succ j=>exact nC _ _ _ c hc j pv UW u hu
  ·obtain⟨_,c,hc,_⟩:=bw hk;cases j with
   | zero=>simp at hj;subst hj;have hu:u=_:=hu;subst hu;exact aI.str _
   | succ j=>exact nC _ _ _ c hc j pv UW u hu
  ·cases hk
theorem p7:∀(z xs a:List PV) (b:Bool),sj z xs a=some b->xs.length=z.length
 | z,xs,a,b,hk=>by
  unfold sj at hk;split at hk
  ·rfl
  ·obtain⟨_,c,hc,_⟩:=bw hk;simp [p7 _ _ _ c hc]
  ·obtain⟨_,c,hc,_⟩:=bw hk;simp [p7 _ _ _ c hc]
  ·obtain⟨_,c,hc,_⟩:=bw hk;simp [p7 _ _ _ c hc]
  ·cases hk
theorem xi {kt:TypeId} {fs:Array Field} {z xs:List PV} {b:Array Value} (hu:P.underlying kt=some (.struct fs)) (hf:dW P 0 fs.toList z=true)
  (hx:∀(j:Nat) (pv:PV),xs[j]? =some pv->∃u,b[j]? =some u/\bf μ h S w pv u) (e:xs.length=z.length) (em:Bool) (w':World):(Instr.checkKey em 10000 kt (.agg b)).run P w'=.ok () w':=by
 rw[show 10000=9999+1 from rfl,Instr.checkKey];simp only[Sem.run_bind,run_underlying hu,Result.andThen_ok];rw[<-Array.forIn_toList];replace hx:∀(j:Nat) (pv:PV),xs[j]? =some pv->∃u,b[0+j]? =some u/\bf μ h S w pv u:=λj pv hj=>by rw[Sx];exact hx j pv hj
 generalize(0:Nat)=n at hf hx;generalize fs.toList=L at hf;clear hu;induction L generalizing n z xs with
 | nil=>simp
 | cons f L i=>
  cases z with
  | nil=>simp [dW]at hf
  | cons c z=>
   cases xs with
   | nil=>simp at e
   | cons p xs=>
    have l:dW P (n+1) L z=true->(∀(j:Nat) (pv:PV),xs[j]? =some pv->∃u,b[n+1+j]? =some u/\bf μ h S w pv u):=λ_ j pv hj=>by
     obtain⟨u,q1,q2⟩:=hx (j+1) pv UW;exact⟨u,by rw[<-q1];congr 1;omega,q2⟩
    obtain⟨u,m,_⟩:=hx 0 p rfl
    have key:∃d,P.underlying f.type=some d/\ql d=false/\f.name≠ "_" /\f.offset=n/\dW P (n+1) L z=true/\∀u,(Instr.checkKey em 9999 f.type u).run P w'=.ok () w':=by
     cases c with
     | int k v=>
      simp only[dW,so,TW]at hf;obtain⟨⟨⟨h1,h2⟩,a⟩,h4⟩:=hf;split at a
      ·rename_i x hu;exact Uv
      ·cases a
     | bool y=>
      simp only[dW,so,TW]at hf;obtain⟨⟨⟨h1,h2⟩,a⟩,h4⟩:=hf;split at a
      ·rename_i hu;exact Uv
      ·cases a
     | str A=>
      simp only[dW,so,TW]at hf;obtain⟨⟨⟨h1,h2⟩,a⟩,h4⟩:=hf;split at a
      ·rename_i hu;exact Uv
      ·cases a
     | _=>simp [dW]at hf
    obtain⟨d,hu,hd,o,q,g,r⟩:=key;have s:=kj hu hd b f.offset u (by rw[q];exact m) w';have t:=r u;simp only[List.forIn_cons,Sem.run_bind,o,ne_eq,not_false_eq_true,Ty,Result.andThen_ok,s,t,Sem.run_pure];exact i (by simpa using e) (n+1) (l g) g
def lb (P:Program) (kt:TypeId) (d:TypeDesc) (s:Bool) (key a:Value) (q:Bool):Prop:=
 match s with
 | false=>Instr.sameNow d key a=some q
 | true=>Instr.sameNow d key a=none/\∀w',(Op.equal kt key a).run P w'=.ok q w'
theorem yA (l:bR P T) {kt:Nat} {a:PV} {key:Value} {o:Bool} (m:aX μ h S w a key) (h0:fu (T.get kt) a a=some o):
  ∃d s,P.underlying kt=some d/\(∀(em:Bool) (w':World),(Instr.checkKey em 10000 kt key).run P w'=.ok () w')/\∀(b:PV) (e:Value) (q:Bool),jy b e->fu (T.get kt) a b=some q->lb P kt d s key e q:=by
 cases f:T.get kt with
 | int k=>
  rw[f]at h0;cases a<;>simp only[fu]at h0<;>try cases h0
  rename_i E x;have hu:=l.int _ _ f;obtain⟨p,_⟩:=bw h0;simp only[so]at p;obtain rfl:=cz p.1;obtain rfl:=m.eW;refine⟨_,false,hu,λem w'=>by rw[show 10000=9999+1 from rfl,Instr.checkKey];simp [run_underlying hu],λb e q hs hq=>?_⟩;cases b<;>simp only[fu]at hq<;>try cases hq
  rename_i F n;obtain⟨hg,c,hc,rfl⟩:=bw hq;injection hc with hc;subst hc;simp only[so]at hg;obtain rfl:=cz hg.2;obtain rfl:e=_:=hs;simp [lb,Instr.sameNow]
 | str=>
  rw[f]at h0;cases a<;>simp only[fu]at h0<;>try cases h0
  rename_i x;have hu:=l.str _ f;obtain rfl:=m.gp;refine⟨_,false,hu,λem w'=>by rw[show 10000=9999+1 from rfl,Instr.checkKey];simp [run_underlying hu],λb e q hs hq=>?_⟩;cases b<;>simp only[fu]at hq<;>try cases hq
  obtain rfl:e=_:=hs;rename_i n;simp only[lb,Instr.sameNow];congr 1;show((Array.mk x)==(Array.mk n))=(x==n);rw[Bool.eq_iff_iff,Ts,Ts,Array.mk.injEq]
 | struct sz fl z=>
  rw[f]at h0;cases a<;>simp only[fu]at h0<;>try cases h0
  rename_i xs;split at h0
  ·rename_i r;have g:=l.flat _ _ _ _ f r;unfold tU at g;split at g
   ·rename_i fs hu;simp only[so,SX]at g;obtain⟨⟨h1,h2⟩,t⟩:=g;obtain⟨v,ex,_,y⟩:=(show dP μ h S w (.agg xs) key from m);subst ex;have A:P.fieldsOf kt=fs:=by simp [Program.fieldsOf,hu]
    refine⟨_,true,hu,λem w'=>xi hu t y (p7 z xs xs o h0) em w',λb e q hs hq=>?_⟩;cases b<;>simp only[fu,r]at hq<;>try cases hq
    rename_i i;obtain⟨B,rfl,_,C⟩:=(show ∃vs:Array Value,e=.agg vs/\vs.size=i.length/\∀(j:Nat) (pv:PV),i[j]? =some pv->∃u:Value,vs[j]? =some u/\kG pv u from hs);refine⟨rfl,λw'=>?_⟩;show(Op.equalIn 10000 kt (.agg v) (.agg B)).run P w'=_;rw[run_equalIn_struct w' 9999 kt v B (by rw[A];exact hu) h1,A]
    exact jz (μ:=μ) (h:=h) (S:=S) (w:=w) 9998 fs.toList z xs i 0 q t (λj pv hj=>by rw[Sx];exact y j pv hj) (λj pv hj=>by
     rw[Sx];obtain⟨u,hu,D⟩:=C j pv hj;exact⟨u,hu,nC z xs i q hq j pv hj u D⟩) hq
   ·cases g
  ·cases h0
 | _=>
  rw[f]at h0;cases a<;>simp [fu]at h0
theorem qp {d:TypeDesc} {key:Value}:∀(l:List MapEntry) (i s:Nat) (en:MapEntry),(∀j,j<i->∀x:MapEntry,l[j]? =some x->Instr.sameNow d key x.key=some false)->l[i]? =some en->Instr.sameNow d key en.key=some true->
  Instr.findNow d key l s=some (some (s+i,en.val))
 | [],i,s,en,_,h,_=>by simp at h
 | x::l,0,s,en,_,h,hq=>by
  simp at h;subst h;simp [Instr.findNow,hq]
 | x::l,i+1,s,en,hf,h,hq=>by
  have h0:=hf 0 UN x rfl;have:=qp l i (s+1) en (λj hj y hy=>hf (j+1) UN y Va) U0 hq;simp only[Instr.findNow,h0,this];congr 3;omega
theorem nD {d:TypeDesc} {key:Value}:∀(l:List MapEntry) (s:Nat),(∀(j:Nat) (x:MapEntry),l[j]? =some x->Instr.sameNow d key x.key=some false)->Instr.findNow d key l s=some none
 | [],s,_=>rfl
 | x::l,s,hf=>by
  have h0:=hf 0 x rfl;simp only[Instr.findNow,h0];exact nD l (s+1) (λj y hy=>hf (j+1) y Va)
theorem qq {kt:TypeId} {key:Value} {w':World}:∀(l:List MapEntry) (i s:Nat) (en:MapEntry),(∀j,j<i->∀x:MapEntry,l[j]? =some x->(Op.equal kt key x.key).run P w'=.ok false w')->l[i]? =some en->(Op.equal kt key en.key).run P w'=.ok true w'->
  (Instr.findAsking kt key l s).run P w'=.ok (some (s+i,en.val)) w'
 | [],i,s,en,_,h,_=>by simp at h
 | x::l,0,s,en,_,h,hq=>by
  simp at h;subst h;simp [Instr.findAsking,hq]
 | x::l,i+1,s,en,hf,h,hq=>by
  have h0:=hf 0 UN x rfl;have:=qq l i (s+1) en (λj hj y hy=>hf (j+1) UN y Va) U0 hq;simp only[Instr.findAsking,Sem.run_bind,h0,Result.andThen_ok,To,Tu,this];congr 3;omega
theorem nE {kt:TypeId} {key:Value} {w':World}:∀(l:List MapEntry) (s:Nat),(∀(j:Nat) (x:MapEntry),l[j]? =some x->(Op.equal kt key x.key).run P w'=.ok false w')->(Instr.findAsking kt key l s).run P w'=.ok none w'
 | [],s,_=>rfl
 | x::l,s,hf=>by
  have h0:=hf 0 x rfl;simp only[Instr.findAsking,Sem.run_bind,h0,Result.andThen_ok,To,Tu];exact nE l (s+1) (λj y hy=>hf (j+1) y Va)
theorem qs {kt:TypeId} {d:TypeDesc} {s:Bool} {key:Value} {w':World} (hu:P.underlying kt=some d) (l:List MapEntry) (i:Nat) (en:MapEntry) (hf:∀j,j<i->∀x:MapEntry,l[j]? =some x->lb P kt d s key x.key false)
  (hi:l[i]? =some en) (hq:lb P kt d s key en.key true):(Instr.findKey kt key l).run P w'=.ok (some (i,en.val)) w':=by
 unfold Instr.findKey;cases s with
 | false=>
  have:=qp l i 0 en hf hi hq;rw[Sx]at this;simp [run_underlying hu,this]
 | true=>
  have h1:=qq (P:=P) (w':=w') l i 0 en (λj hj x hx=>(hf j hj x hx).2 w') hi (hq.2 w');rw[Sx]at h1
  have h2:Instr.findNow d key l 0=none:=by
   cases l with
   | nil=>simp at hi
   | cons x l=>
    have a:Instr.sameNow d key x.key=none:=by
     cases i with
     | zero=>simp at hi;subst hi;exact hq.1
     | succ i=>exact(hf 0 UN x rfl).1
    simp [Instr.findNow,a]
  simp [run_underlying hu,h2,h1]
theorem nF {kt:TypeId} {d:TypeDesc} {s:Bool} {key:Value} {w':World} (hu:P.underlying kt=some d) (l:List MapEntry) (hf:∀(j:Nat) (x:MapEntry),l[j]? =some x->lb P kt d s key x.key false):
  (Instr.findKey kt key l).run P w'=.ok none w':=by
 unfold Instr.findKey;cases s with
 | false=>simp [run_underlying hu,nD l 0 hf]
 | true=>
  have h1:=nE (P:=P) (w':=w') (kt:=kt) (key:=key) l 0 (λj x hx=>(hf j x hx).2 w');cases l with
  | nil=>simp [run_underlying hu,Instr.findNow]
  | cons x l=>
   have a:Instr.sameNow d key x.key=none:=(hf 0 x rfl).1;simp [run_underlying hu,Instr.findNow,a,h1]
theorem bf.v {pv:PV} {u:Value} (hc:bf μ h S w pv u):aX μ h S w pv u:=by
 cases pv<;>first | exact(show False from hc).elim | trivial | exact hc
theorem qt (k:bR P T) (m:bu μ h S w) (t:Nat) (x:Operand) (l:PV) (hx:aX μ h S w l (a.eval x)) (hp:nG T t l h K):
  cb P ⟨dst,.load t x,ty,pos,after,guard⟩ a μ h S w K:=by
 unfold nG at hp;split at hp
 ·rename_i cells;obtain⟨b,off,o,p,_,h2,q⟩:=hx.nA;exact qn k t x cells b off p (λj pv hj=>⟨o j,h2 j pv hj,bf.eX (q j pv hj)⟩) hp λpv u _ hc=>hc.v
 ·rename_i id gen i off;split at hp
  ·rename_i g sz n e f hg;obtain⟨rfl,_,rfl,hp⟩:=hp;have hh:=ca hg;have d:=hx.la;unfold bh at d;rw[hh]at d;obtain⟨_,_,d⟩:=d;obtain⟨r,b,base,s,y,hv⟩:=d rfl;obtain⟨A,hc⟩:=m id g sz n e f hh;rw[s]at hc;obtain⟨cur,hb,dp,z⟩:=bu.cells y.1 hc;refine qn k t x _ b (base+i*sz+off) hv (λj pv hj=>?_) hp λpv u _ hc=>hc.v;rw[Tp]at hj;obtain⟨v,h1,h2⟩:=z i (off+j) pv r hj;refine⟨v,?_,h2.c⟩;rw[cell_of_row w b (base+i*sz+off+j) cur e (0,0) hb,<-h1];congr 1;omega
  ·exact Uq
 ·exact Uq
theorem fD {e:TypeId} {i:TypeInfo} (hi:P.info? e=some i) (w':World):(sizeOf e).run P w'=.ok i.size w':=by
 simp [sizeOf,typeInfo,hi]
theorem pn {t e:TypeId} {i:TypeInfo} (hu:P.underlying t=some (.slice e)) (hi:P.info? e=some i) (a:Addr) (n c:Nat) (k:IntKind) (x:Int) (h0:0<=x) (h1:x<n) (w':World):
  (Instr.indexAt t (.slice (some a) n c) (.int k x)).run P w'=.ok (.pointer (some (a.add (x.toNat*i.size)))) w':=by
 have he:P.elem t=e:=by simp [Program.elem,hu]
 rw[run_indexAt_slice w' t a n c k x U7,An ⟨h0,h1⟩,he,fD hi];rfl
theorem vb (C:bR P T) (G:bu μ h S w) (D:∀t,aX μ h S w (env t) (a.tmps.getD t undef)) (t:Nat) (x i:Operand) (hp:bB T (.indexAddr t x i) env h K):
  cb P ⟨dst,.indexAddr t x i,ty,pos,after,guard⟩ a μ h S w K:=by
 have hx:=bp D x;have hi:=bp D i;unfold bB at hp;simp only at hp;split at hp
 ·rename_i e sz H z I n f k ix o hex q;rw[hex]at hx;rw[q]at hi;replace hp:=aT hp;obtain⟨l,⟨h0,h1⟩,_,rfl,r⟩:=hp;obtain rfl:=No l;have s:=hi.eW;obtain⟨hu,_,inf,J,u,y,_⟩:=C.slice _ _ _ _ _ o;rcases hx.lF with⟨_,_,_,rfl⟩ | ⟨b,off,c,L,ex,M,U,hc,N,O⟩
  ·omega
  ·have E:ix.toNat<n:=by omega
   refine .mk r (aI.cN (f ix.toNat) b (off+ix.toNat*sz) (L ix.toNat) M (λj pv hj=>N _ j pv E hj) (λj pv hj=>O _ j pv E hj)) λw' _=>pk ?_;rw[ex,s,pn hu u _ _ _ _ _ h0 h1,y,Addr.add_lit]
 ·rename_i e sz H z id gen off len k ix o hex q;rw[hex]at hx;rw[q]at hi;have s:=hi.eW;obtain⟨hu,_,inf,J,u,y,_⟩:=C.slice _ _ _ _ _ o;split at hp
  ·rename_i g I n V f Q;obtain⟨rfl,hp⟩:=hp;replace hp:=aT hp;obtain⟨l,⟨h0,h1⟩,_,rfl,r⟩:=hp;obtain⟨l,F⟩:=Bool.and_eq_true_iff.1 l;obtain rfl:=No l;have hh:=ca Q;have d:=hx.gq;unfold aN at d;rw[hh]at d;obtain⟨_,_,d⟩:=d;obtain⟨hle,d⟩:=d rfl;cases m:μ id with
   | none=>
    rw[m]at d;obtain⟨_,A⟩:=G id _ _ _ _ _ hh;rw[m]at A;have A:n=0:=A;omega
   | some p=>
    obtain⟨b,base⟩:=p;rw[m]at d;obtain⟨W,cap,ex,X,B,R⟩:=d;have B:=B UN;subst B;refine .mk r (v:=.aH id g (off+ix.toNat) 0) (val:=.pointer (some ⟨b,base+(off+ix.toNat)*sz+0,none⟩)) ?_ λw' _=>pk ?_
    ·show bh μ h w id g (off+ix.toNat) 0 _;unfold bh;rw[hh];exact⟨⟨_,rfl⟩,Sv _,λ_=>⟨by omega,b,base,m,⟨R.least,λhb=>by rw[hb]at F;cases F⟩,rfl⟩⟩
    ·rw[ex,s,pn hu u _ _ _ _ _ h0 h1,y,Addr.add_lit];have:base+off*sz+ix.toNat*sz=base+(off+ix.toNat)*sz+0:=by rw[SD];omega
     rw[this]
  ·exact Uq
 ·exact Uq
theorem qu (d:bR P T) (b:∀t,aX μ h S w (env t) (a.tmps.getD t undef)) (t:Nat) (x i:Operand) (hp:bB T (.index t x i) env h K):
  cb P ⟨dst,.index t x i,ty,pos,after,guard⟩ a μ h S w K:=by
 have hx:=bp b x;have hi:=bp b i;unfold bB at hp;simp only at hp;split at hp
 ·rename_i s k ix e hex f;rw[hex]at hx;rw[f]at hi;obtain⟨⟨h0,h1⟩,_,rfl,g⟩:=hp;have j:=hi.eW;have ex:=hx.gp;have hu:=d.str _ e;refine .mk g (aI.int _ _) λw' _=>pk ?_;rw[ex,j]
  have hb:(ByteArray.mk ⟨s⟩)[ix.toNat]? =some (s.getD ix.toNat 0):=by
   have c:ix.toNat<s.length:=by omega
   rw[Sz,As c];rw[getElem?_pos (ByteArray.mk ⟨s⟩) ix.toNat c];rfl
  simp only[Instr.index,asIntOf,Sem.run_bind,Sem.run_pure,Result.andThen,run_underlying hu,An h0,hb]
 ·exact Uq
theorem zC (j:bR P T) (v:bu μ h S w) (A:∀t,aX μ h S w (env t) (a.tmps.getD t undef)) (args:Array Operand) (k:Array TypeId) (hp:bB T (.call ⟨.builtin .len,args,k⟩) env h K):
  cb P ⟨dst,.call ⟨.builtin .len,args,k⟩,ty,pos,after,guard⟩ a μ h S w K:=by
 obtain⟨args⟩:=args;obtain⟨k⟩:=k;unfold bB at hp;simp only at hp;split at hp
 ·rename_i x t;have hx:=bp A x
  have fin:∀(n:Int) (val:Value),a.eval x=val->K (.int .i64 n)->(∀w',(Builtin.len_ #[t] ty #[val]).run P w'=.ok (goInt n) w')->
    cb P ⟨dst,.call ⟨.builtin .len,#[x],#[t]⟩,ty,pos,after,guard⟩ a μ h S w K:=λn val m o d=>.mk o (aI.int _ _) λw' _=>by
   simp only[execOp,resolve,invoke,builtin,Sem.run_bind,Sem.run_pure,Result.andThen_ok,T3,SE,SS,m,d];rfl
  split at hp
  ·rename_i e sz y z B n f i hex;rw[hex]at hx;obtain⟨hu,_⟩:=j.slice _ _ _ _ _ i;have he:P.elem t=e:=by simp [Program.elem,hu]
   rcases hx.lF with⟨q,c,ex,rfl⟩ | ⟨b,off,c,F,ex,_⟩
   ·exact fin _ _ ex hp λw'=>run_len_slice w' t ty _ _ _ U7
   ·exact fin _ _ ex hp λw'=>run_len_slice w' t ty _ _ _ U7
  ·rename_i e sz y z i hex;rw[hex]at hx;obtain⟨hu,_⟩:=j.slice _ _ _ _ _ i;have he:P.elem t=e:=by simp [Program.elem,hu]
   exact fin _ _ hx.iL hp λw'=>run_len_slice w' t ty _ _ _ U7
  ·rename_i e sz y z id gen off n i hex;rw[hex]at hx;obtain⟨hu,_⟩:=j.slice _ _ _ _ _ i;have he:P.elem t=e:=by simp [Program.elem,hu]
   split at hp
   ·rename_i g B C G f r;obtain⟨rfl,o⟩:=hp;have hh:=ca r;have d:=hx.gq;unfold aN at d;rw[hh]at d;obtain⟨_,_,d⟩:=d;obtain⟨hle,d⟩:=d rfl
    have m:∃q c,a.eval x=.slice q n c:=by
     cases l:μ id with
     | none=>
      rw[l]at d;obtain⟨_,u⟩:=v id _ _ _ _ _ hh;rw[l]at u;have u:C=0:=u;have:n=0:=by omega
      subst this;exact⟨_,_,d⟩
     | some p=>
      rw[l]at d;obtain⟨H,cap,ex,_⟩:=d;exact⟨_,_,ex⟩
    obtain⟨q,c,ex⟩:=m;exact fin _ _ ex o λw'=>run_len_slice w' t ty _ _ _ U7
   ·exact Uq
  ·rename_i s i hex;rw[hex]at hx;have hu:=j.str _ i;refine fin _ _ hx.gp hp λw'=>?_;simp [Builtin.len_,run_underlying hu];rfl
  ·rename_i I J L id i hex;rw[hex]at hx;obtain⟨hu,_⟩:=j.map _ _ _ _ i;split at hp
   ·rename_i g sz n e f r;obtain⟨b,base,es,c,l,ex,hb,D,_⟩:=qo v (ca r) hx.tV;refine .mk hp (aI.int _ _) λw' ha=>?_;have E:w'.heap[b]? =some (.map es c):=(ha.blocks b (Su.1 hb).1).trans hb;simp only[execOp,resolve,invoke,builtin,Sem.run_bind,Sem.run_pure,Result.andThen_ok,T3,SE,SS,ex];rw[show(Builtin.len_ #[t] ty #[.map (some b)]).run P w'=.ok (goInt es.size) w' by simp [Builtin.len_,run_underlying hu,run_getObj_map w' b es c E]];rw[D];rfl
   ·exact Uq
  ·exact Uq
 ·exact Uq
theorem pq (s:List UInt8) (l m:Nat):(ByteArray.mk ⟨s⟩).extract l m=ByteArray.mk ⟨(s.take m).drop l⟩:=by
 apply ByteArray.ext;rw[ByteArray.data_extract];apply Array.ext';rw[List.drop_take];simp [Array.toList_extract,List.extract]
theorem zD (B:bR P T) (t:bu μ h S w) (id g off len sz n:Nat) (e:TypeId) (f:Nat->List PV) (hh:h[id]? =some (au.row g sz n e f)) (v:Value) (hv:aX μ h S w (.own id g off len) v) (l m:Nat) (C:l<=m) (hm:m<=len):
  ∃k c,v=.slice k len c/\len<=c/\∀(d:Nat),m<=d->d<=c->aX μ h S w (.own id g (off+l) (m - l)) (.slice (if d=l then k else k.map (·.add (l*sz))) (m - l) (d - l)):=by
 have a:=hv.gq;unfold aN at a;rw[hh]at a;obtain⟨_,_,a⟩:=a;obtain⟨hle,a⟩:=a rfl;cases j:μ id with
 | none=>
  rw[j]at a;obtain⟨_,o⟩:=t id _ _ _ _ _ hh;rw[j]at o;have o:n=0:=o;have h0:len=0:=by omega
  subst h0;have a:v=.slice none 0 0:=a;refine⟨none,0,a,Sv _,λd h1 h2=>?_⟩;have u:m=0:=by omega
  have x:l=0:=by omega
  have y:d=0:=by omega
  subst u;subst x;subst y;show aN μ h w id g (off+0) (0 - 0) _;unfold aN;rw[hh];refine⟨⟨_,_,_,rfl⟩,Sv _,λ_=>⟨by omega,?_⟩⟩;rw[j];rfl
 | some p=>
  obtain⟨b,base⟩:=p;rw[j]at a;obtain⟨s,cap,ex,A,q,cr⟩:=a;refine⟨some s,cap,ex,A,λd h1 h2=>?_⟩;show aN μ h w id g (off+l) (m - l) _;unfold aN;rw[hh];refine⟨⟨_,_,_,rfl⟩,Sv _,λ_=>⟨by omega,?_⟩⟩;rw[j];by_cases i:d=l
  ·refine⟨s,0,by rw[An i];subst i;simp,by omega,λh=>absurd h UN,?_⟩;obtain⟨cur,r,z,q1,q2⟩:=cr;refine⟨cur,r,z,q1,S4 ?_ q2⟩;have:(off+l+0)*sz<=(off+cap)*sz:=SC _ UN;omega
  ·have q:=q UN;subst q;refine⟨⟨b,base+(off+l)*sz,none⟩,d - l,?_,by omega,λ_=>rfl,?_⟩
   ·rw[Is i,Option.map_some,Addr.add_lit,SD,Nat.add_assoc]
   ·obtain⟨cur,r,z,q1,q2⟩:=cr;refine⟨cur,r,z,q1,S4 ?_ q2⟩;have:(off+l+(d - l))*sz<=(off+cap)*sz:=SC _ UN;omega
theorem zE (sz n:Nat) (f:Nat->List PV) (v:Value) (hv:aX μ h S w (.cP sz n f) v) (l m:Nat) (s:l<=m) (hm:m<=n):
  ∃d c,v=.slice d n c/\((n<=c\/n=0)/\∀(a:Nat),m<=a->(a<=c\/m=0)->aX μ h S w (.cP sz (m - l) (λi=>f (l+i))) (.slice (if a=l then d else d.map (·.add (l*sz))) (m - l) (a - l))):=by
 rcases hv.lF with⟨d,c,ex,rfl⟩ | ⟨b,off,c,g,ex,k,hlen,hc,o,p⟩
 ·have q:m=0:=by omega
  subst q;have r:l=0:=by omega
  subst r;exact⟨d,c,ex,.inr rfl,λa _ _=>aI.iq _ _ _ _⟩
 ·refine⟨_,c,ex,.inl hc,λa h1 h2=>?_⟩;by_cases e:m=l
  ·subst e;rw[Tm];exact aI.iq _ _ _ _
  ·rw[Is UN,Option.map_some,Addr.add_lit];refine aI.cP sz (m - l) _ b (off+l*sz) (a - l) (λi j=>g (l+i) j) k (λi hi=>hlen _ UN) UN (λi j pv hi hj=>?_) (λi j pv hi hj=>p _ j pv UN hj);have:=o (l+i) j pv UN hj;rw[SD]at this;rw[<-this];congr 2;omega
theorem bQ {o:Oper} {s:Sem Value} {val:Value} {w' b:World} (he:execOp a.eval o=(do pure (Next.value (<-s)):Sem Next)) (hs:s.run P w'=.ok val b):(execOp a.eval o).run P w'=.ok (.value val) b:=by
 rw[he];exact pk hs
theorem mv (hx:∀x,aX μ h S w (ev env x) (a.eval x)) {lo:Option Operand}:(lo.map (ev env)=none->lo.map a.eval=none)/\∀k n,lo.map (ev env)=some (.int k n)->lo.map a.eval=some (.int k n):=by
 cases lo with
 | none=>exact⟨λ_=>rfl,λk n h=>(by cases h)⟩
 | some x=>
  refine⟨λh=>(by cases h),λk n hh=>?_⟩;have hh:ev env x=.int k n:=by injection hh
  have:=hx x;rw[hh]at this;show some (a.eval x)=_;rw[this.eW]
theorem xk {t e:TypeId} {i:TypeInfo} (hu:P.underlying t=some (.slice e)) (hi:P.info? e=some i) (a:Option Addr) (n c:Nat) (hc:n<=c) (w':World):
  ((Instr.sliceAt t (.slice a n c) none none none).run P w'=.ok (sliced a 0 n c i.size) w')/\
  (∀(k:IntKind) (l:Int),0<=l->l<=n->(Instr.sliceAt t (.slice a n c) (some (.int k l)) none none).run P w'=.ok (sliced a l.toNat n c i.size) w')/\
  (∀(k:IntKind) (m:Int),0<=m->m<=n->(Instr.sliceAt t (.slice a n c) none (some (.int k m)) none).run P w'=.ok (sliced a 0 m.toNat c i.size) w')/\
  (∀(k:IntKind) (l:Int) (b:IntKind) (m:Int),0<=l->l<=m->m<=n->(Instr.sliceAt t (.slice a n c) (some (.int k l)) (some (.int b m)) none).run P w'=.ok (sliced a l.toNat m.toNat c i.size) w')/\
  (∀(k:IntKind) (m:Int) (b:IntKind) (q:Int),0<=m->m<=q->q<=n->(Instr.sliceAt t (.slice a n c) none (some (.int k m)) (some (.int b q))).run P w'=.ok (sliced a 0 m.toNat q.toNat i.size) w')/\
  (∀(k:IntKind) (l:Int) (b:IntKind) (m:Int) (f:IntKind) (q:Int),0<=l->l<=m->m<=q->q<=n->(Instr.sliceAt t (.slice a n c) (some (.int k l)) (some (.int b m)) (some (.int f q))).run P w'=.ok (sliced a l.toNat m.toNat q.toNat i.size) w'):=by
 have he:P.elem t=e:=by simp [Program.elem,hu]
 have d:P.underlying t=some (.slice (P.elem t)):=by rw[he];exact hu
 have g:(n:Int)<=c:=by omega
 refine⟨?_,λk l h0 h1=>?_,λk m h0 h1=>?_,λk l b m h0 h1 h2=>?_,λk m b q h0 h1 h2=>?_,λk l b m f q h0 h1 h2 h=>?_⟩<;>rw[run_sliceAt_slice w' _ _ _ _ _ d]
 ·rw[run_slice_all w' t a n c d,he,fD hi];rfl
 ·rw[run_slice_l w' t a n c d k l h0 h1,he,fD hi];rfl
 ·rw[run_slice_h w' t a n c d k m h0 UN,he,fD hi];rfl
 ·rw[run_slice_lh w' t a n c d k b l m h0 h1 UN,he,fD hi];rfl
 ·rw[run_slice_hm w' t a n c d k b m q h0 h1 UN,he,fD hi];rfl
 ·rw[run_slice_lhm w' t a n c d k b f l m q h0 h1 h2 UN,he,fD hi];rfl
theorem cb.choose {o:Oper} (hs:cb P o a μ h S w (vd K)):cb P o a μ h S w K:=by
 obtain⟨v,val,d,hv,e⟩:=hs;cases v with
 | cP sz n f=>
  obtain⟨k,l,rfl,hf,d⟩:=d;refine⟨_,val,d,?_,e⟩;rcases hv.lF with⟨a,c,rfl,rfl⟩ | ⟨b,off,c,m,rfl,h1,h2,p,h4,q⟩
  ·exact aI.iq _ _ _ _
  ·exact aI.cP sz k l b off c m h1 (λi hi=>by rw[hf i hi];exact h2 i hi) p (λi j pv hi hj=>h4 i j pv hi U2) (λi j pv hi hj=>q i j pv hi U2)
 | str s=>
  obtain⟨_,rfl,d⟩:=d;exact⟨_,val,d,hv,e⟩
 | own id g off n=>
  obtain⟨_,_,rfl,rfl,d⟩:=d;exact⟨_,val,d,hv,e⟩
 | _=>exact⟨_,val,d,hv,e⟩
theorem ve (G:bR P T) (Y:bu μ h S w) (H:∀t,aX μ h S w (env t) (a.tmps.getD t undef)) (t:Nat) (x:Operand) (lo hi o:Option Operand) (hp:bB T (.slice t x lo hi o) env h K):
  cb P ⟨dst,.slice t x lo hi o,ty,pos,after,guard⟩ a μ h S w K:=by
 have hx:=bp H x;have r:=mv (λx=>bp H x) (lo:=lo);have u:=mv (λx=>bp H x) (lo:=hi);have V:=mv (λx=>bp H x) (lo:=o);unfold bB at hp;simp only at hp
 have key:∀(K:PV->Prop) (e:TypeId) (i:TypeInfo) (sz n:Nat) (p:Option Addr) (c:Nat) (R:Nat->Nat->PV),P.underlying t=some (.slice e)->P.info? e=some i->i.size=sz->a.eval x=.slice p n c->n<=c->
   (∀l m o,l<=m->m<=n->m<=o->o<=c->aX μ h S w (R l m) (.slice (if o=l then p else p.map (·.add (l*sz))) (m - l) (o - l)))->D4 n (hi.map (ev env)) (o.map (ev env))->
   (match lo.map (ev env),hi.map (ev env)with
    | none,none=>K (R 0 n)
    | some (.int _ l),none=>(0<=l/\l<=n)/\K (R l.toNat n)
    | none,some (.int _ m)=>(0<=m/\m<=n)/\K (R 0 m.toNat)
    | some (.int _ l),some (.int _ m)=>(0<=l/\l<=m/\m<=n)/\K (R l.toNat m.toNat)
    | _,_=>False)->cb P ⟨dst,.slice t x lo hi o,ty,pos,after,guard⟩ a μ h S w K:=by
  intro K e i sz n p c R hu y A ex hc B hm hp;subst A;have v:=λw'=>xk (P:=P) hu y p n c hc w'
  have fin:∀(l m q:Nat),l<=m->m<=n->m<=q->q<=c->K (R l m)->(∀w',(Instr.sliceAt t (.slice p n c) (lo.map a.eval) (hi.map a.eval) (o.map a.eval)).run P w'=.ok (sliced p l m q i.size) w')->
    cb P ⟨dst,.slice t x lo hi o,ty,pos,after,guard⟩ a μ h S w K:=λl m q h1 h2 C h4 I J=>.mk I (B l m q h1 h2 C h4) λw' _=>bQ rfl (by rw[ex];exact J w')
  unfold D4 at hm;split at hm
  ·rename_i j;have j:=V.1 j;split at hp
   ·rename_i d b;exact fin 0 n c UN UN hc UN hp λw'=>by rw[r.1 d,u.1 b,j];exact(v w').1
   ·rename_i k l d b;obtain⟨⟨h0,h1⟩,hp⟩:=hp;exact fin l.toNat n c UN UN hc UN hp λw'=>by rw[r.2 _ _ d,u.1 b,j];exact(v w').2.1 _ _ h0 h1
   ·rename_i k m d b;obtain⟨⟨h0,h1⟩,hp⟩:=hp;exact fin 0 m.toNat c UN UN UN UN hp λw'=>by rw[r.1 d,u.2 _ _ b,j];exact(v w').2.2.1 _ _ h0 h1
   ·rename_i k l L m d b;obtain⟨⟨h0,h1,h2⟩,hp⟩:=hp;exact fin l.toNat m.toNat c UN UN UN UN hp λw'=>by rw[r.2 _ _ d,u.2 _ _ b,j];exact(v w').2.2.2.1 _ _ _ _ h0 h1 h2
   ·exact Uq
  ·rename_i LR q j;have j:=V.2 _ _ j;split at hm
   ·rename_i k3 m M;obtain⟨W,X⟩:=hm;rw[M]at hp;split at hp
    ·rename_i d b;cases b
    ·rename_i d b;cases b
    ·rename_i k Z d b;injection b with b;injection b with N O;subst N;subst O;obtain⟨⟨h0,h1⟩,hp⟩:=hp;exact fin 0 m.toNat q.toNat UN UN UN UN hp λw'=>by rw[r.1 d,u.2 _ _ M,j];exact(v w').2.2.2.2.1 _ _ _ _ h0 W X
    ·rename_i k l L Z d b;injection b with b;injection b with N O;subst N;subst O;obtain⟨⟨h0,h1,h2⟩,hp⟩:=hp;exact fin l.toNat m.toNat q.toNat UN UN UN UN hp λw'=>by rw[r.2 _ _ d,u.2 _ _ M,j];exact(v w').2.2.2.2.2 _ _ _ _ _ _ h0 h1 W X
    ·exact Uq
   ·exact hm.elim
  ·exact hm.elim
 split at hp
 ·rename_i e sz bt z a8 n f D hex;rw[hex]at hx;replace hp:=aT hp;obtain⟨Q,hm,hp⟩:=hp;obtain rfl:=No Q;obtain⟨hu,_,inf,zv,y,A,_⟩:=G.slice _ _ _ _ _ D;have e0:(λi=>f (0+i))=f:=by funext i;rw[Sx]
  have E:=λl m (h1:l<=m) (h2:m<=n)=>zE sz n f _ hx l m h1 h2;obtain⟨p,c,ex,hc,_⟩:=E 0 0 (Sv _) (TQ _);have hc:n<=c:=by rcases hc with hc | hc<;>omega
  refine cb.choose ?_;refine key (vd K) e inf sz n p c (λl m=>.cP sz (m - l) (λi=>f (l+i))) hu y A ex hc (λl m q h1 h2 C h4=>?_) hm ?_
  ·obtain⟨Ra,c',F,_,B⟩:=E l m h1 h2;rw[ex]at F;injection F with d b j;subst d;subst j;exact B q C (.inl h4)
  ·simp only[e0,Nat.sub_zero];exact hp
 ·rename_i e sz bt z id gen off len D hex;rw[hex]at hx;obtain⟨hu,_,inf,zv,y,A,_⟩:=G.slice _ _ _ _ _ D;split at hp
  ·rename_i g a8 n' e' f sq;obtain⟨rfl,hp⟩:=hp;replace hp:=aT hp;obtain⟨Q,hm,hp⟩:=hp;obtain rfl:=No Q;have hh:=ca sq;have E:=λl m (h1:l<=m) (h2:m<=len)=>zD G Y id g off len sz n' e' f hh _ hx l m h1 h2;obtain⟨p,c,ex,hc,_⟩:=E 0 0 (Sv _) (TQ _);refine cb.choose ?_;refine key (vd K) e inf sz len p c (λl m=>.own id g (off+l) (m - l)) hu y A ex hc (λl m q h1 h2 C h4=>?_) hm ?_
   ·obtain⟨Ra,c',F,_,B⟩:=E l m h1 h2;rw[ex]at F;injection F with d b j;subst d;subst j;exact B q C h4
   ·exact hp
  ·exact Uq
 ·rename_i s D hex;rw[hex]at hx;replace hp:=aT hp;obtain⟨Oj,hp⟩:=hp;obtain rfl:o=none:=by simpa using Oj
  refine cb.choose ?_;generalize vd K=K at*;have ex:=hx.gp;have hu:=G.str _ D;have dp:(ByteArray.mk ⟨s⟩).size=s.length:=rfl
  have fin:∀(l m:Nat) (U:List UInt8),U=(s.take m).drop l->K (.str U)->(∀w',(Instr.sliceAt t (.string ⟨⟨s⟩⟩) (lo.map a.eval) (hi.map a.eval) none).run P w'=.ok (.string ((ByteArray.mk ⟨s⟩).extract l m)) w')->
    cb P ⟨dst,.slice t x lo hi none,ty,pos,after,guard⟩ a μ h S w K:=λl m U hs I J=>.mk I (aI.str _) λw' _=>bQ rfl (by rw[ex,hs,<-pq];exact J w')
  simp only[qv]at hp;split at hp
  ·rename_i d b;exact fin 0 s.length s UQ hp λw'=>by rw[r.1 d,u.1 b,run_sliceAt_string w' _ _ _ _ _ hu,run_slice_string_all w' t ⟨⟨s⟩⟩ hu];rfl
  ·rename_i k l d b;obtain⟨⟨h0,h1⟩,hp⟩:=hp;exact fin l.toNat s.length _ UQ hp λw'=>by rw[r.2 _ _ d,u.1 b,run_sliceAt_string w' _ _ _ _ _ hu,run_slice_string_l w' t ⟨⟨s⟩⟩ hu k l h0 h1];rfl
  ·rename_i k m d b;obtain⟨⟨h0,h1⟩,hp⟩:=hp;exact fin 0 m.toNat _ UQ hp λw'=>by rw[r.1 d,u.2 _ _ b,run_sliceAt_string w' _ _ _ _ _ hu,run_slice_string_h w' t ⟨⟨s⟩⟩ hu k m h0 h1]
  ·rename_i k l L m d b;obtain⟨⟨h0,h1,h2⟩,hp⟩:=hp;exact fin l.toNat m.toNat _ rfl hp λw'=>by rw[r.2 _ _ d,u.2 _ _ b,run_sliceAt_string w' _ _ _ _ _ hu,run_slice_string w' t ⟨⟨s⟩⟩ k L l m hu h0 h1 h2]
  ·exact Uq
 ·exact Uq
theorem jm:∀(cs l:List PV) (off j:Nat),off+cs.length<=l.length->(bY l off cs)[j]? =if off<=j/\j<off+cs.length then cs[j - off]? else l[j]?
 | [],l,off,j,_=>by
  simp only[bY,SK,Td];rw[Is UN]
 | c::r,l,off,j,a=>by
  simp only[bY,SA]at a ⊢;rw[jm r (l.set off c) (off+1) j US];by_cases h1:j=off
  ·subst h1;rw[Is UN,An UN,Tm,SV UN];rfl
  ·rw[SN UN];by_cases h2:off+1<=j/\j<off+1+r.length
   ·rw[An h2,An UN];have:j - off=(j - (off+1))+1:=by omega
    rw[this,List.getElem?_cons_succ]
   ·rw[Is h2,Is UN]
theorem gr:∀(cs l:List PV) (off:Nat),(bY l off cs).length=l.length
 | [],_,_=>rfl
 | c::r,l,off=>by simp only[bY];rw[gr r];simp
theorem aI.no {pv:PV} {v:Value} (h:aI S w pv v):cg pv=false:=by cases h<;>rfl
theorem yB {c:PV} (h:fR c=true):cg c=false:=by cases c<;>first | rfl | cases h
theorem xl {v:PV} (h:storable v=true) {j:Nat} {pv:PV} (hj:(cellsOf v)[j]? =some pv):cg pv=false:=by
 have hm:=SJ hj;cases v with
 | agg cs=>exact yB (Sy.1 h pv hm)
 | _=>exact yB (by rw[Tz.1 hm];exact h)
theorem gu {pv:PV} {v:Value} (hs:storable pv=true) (hv:aX μ h S w pv v):
  v.cells.toList.length=(cellsOf pv).length/\∀(j:Nat) (p:PV),(cellsOf pv)[j]? =some p->∃u,v.cells.toList[j]? =some u/\bf μ h S w p u:=by
 have one:∀(hc:bf μ h S w pv v),cellsOf pv=[pv]->v.cells.toList.length=(cellsOf pv).length/\∀(j:Nat) (p:PV),(cellsOf pv)[j]? =some p->∃u,v.cells.toList[j]? =some u/\bf μ h S w p u:=by
  intro hc he;have h1:=hc.one;have h2:v.cells=#[v]:=by cases v<;>first | rfl | cases h1
  rw[h2,he];refine⟨rfl,λj p hj=>?_⟩;cases j with
  | zero=>
   simp at hj;subst hj;exact⟨v,rfl,hc⟩
  | succ j=>simp at hj
 cases pv with
 | agg cs=>
  obtain⟨vs,rfl,h2,a⟩:=hv;refine⟨by simpa[Value.cells,cellsOf]using h2,λj p hj=>?_⟩;obtain⟨u,hu,c⟩:=a j p hj;exact⟨u,by simpa[Value.cells]using hu,c⟩
 | db vs=>cases hs
 | aG sz n e f F=>cases hs
 | dA=>cases hs
 | gS id=>exact one hv rfl
 | jK f bC=>exact one hv rfl
 | int k n=>exact one hv rfl
 | bool b=>exact one hv rfl
 | str s=>exact one hv rfl
 | aD=>exact one hv rfl
 | dx=>exact one hv rfl
 | cP sz n f=>exact one hv rfl
 | cN cs=>exact one hv rfl
 | own id gen off len=>exact one hv rfl
 | aH id gen i off=>exact one hv rfl
 | fn f=>exact one hv rfl
theorem sr:∀(l:List Value) (s off:Nat) (cs:Array Value),off+s+l.length<=cs.size->
  ((l.zipIdx s).foldl (λ(cs:Array Value) (p:Value×Nat)=>cs.setIfInBounds (off+p.2) p.1) cs).size=cs.size/\
  ∀q,((l.zipIdx s).foldl (λ(cs:Array Value) (p:Value×Nat)=>cs.setIfInBounds (off+p.2) p.1) cs)[q]? =if off+s<=q/\q<off+s+l.length then l[q - (off+s)]? else cs[q]?
 | [],s,off,cs,_=>by
  refine⟨rfl,λq=>?_⟩;simp only[List.zipIdx_nil,List.foldl_nil,SK,Td];rw[Is UN]
 | v::r,s,off,cs,b=>by
  simp only[SA]at b;obtain⟨h1,h2⟩:=sr r (s+1) off (cs.setIfInBounds (off+s) v) US;simp only[List.zipIdx_cons,List.foldl_cons,SA];refine⟨by rw[h1];simp,λq=>?_⟩;rw[h2 q];by_cases hq:q=off+s
  ·subst hq;rw[Is UN,An UN,Tm];simp [Array.getElem?_setIfInBounds,show off+s<cs.size from by omega]
  ·by_cases a:off+(s+1)<=q/\q<off+(s+1)+r.length
   ·rw[An a,An UN];have:q - (off+s)=(q - (off+(s+1)))+1:=by omega
    rw[this,List.getElem?_cons_succ]
   ·rw[Is a,Is UN,TU UN]
theorem kH (v:Value) (off:Nat) (cs:Array Value) (a:off+v.cells.size<=cs.size):
  (v.cells.zipIdx.foldl (λ(cs:Array Value) (p:Value×Nat)=>cs.setIfInBounds (off+p.2) p.1) cs).size=cs.size/\
  ∀q,(v.cells.zipIdx.foldl (λ(cs:Array Value) (p:Value×Nat)=>cs.setIfInBounds (off+p.2) p.1) cs)[q]? =if off<=q/\q<off+v.cells.size then v.cells[q - off]? else cs[q]?:=by
 have h:=sr v.cells.toList 0 off cs (by simpa using a);rw[<-Array.foldl_toList];simp only[Array.toList_zipIdx,Td,S8,SQ]at h ⊢;exact h
theorem xm {l:List PV} (hb:isByte l=true):∃v,l=[.int .u8 v]:=by
 unfold isByte at hb;split at hb
 ·exact⟨_,rfl⟩
 ·cases hb
theorem qw {g:Nat->List PV} {s:List UInt8} {n:Nat} (a:s.length=n) (hf:∀i,i<n->g i=[.int .u8 (s.getD i 0).toNat]):(∀i,i<n->isByte (g i)=true)/\(List.range n).map (λi=>byteOf (g i))=s:=by
 refine⟨λi hi=>by rw[hf i hi];rfl,?_⟩;apply List.ext_getElem (by simp [a]);intro i h1 h2;simp only[TG,List.length_range]at h1;rw[TD,List.getElem_range,hf i h1];simp [byteOf,Sz,As h2]
theorem rQ (r:bR P T) (H:bu μ h S w) (I:∀t,aX μ h S w (env t) (a.tmps.getD t undef)) (s d:Nat) (x:Operand) (hp:bB T (.convert s d x) env h K):
  cb P ⟨dst,.convert s d x,ty,pos,after,guard⟩ a μ h S w K:=by
 have hx:=bp I x;unfold bB at hp;simp only at hp;split at hp
 ·rename_i Z k k1 n hs hd hex;rw[hex]at hx
  exact .mk hp (aI.int _ _) λw' _=>bQ rfl (by
   rw[hx.eW];simp [convert,run_underlying (r.int _ _ hs),run_underlying (r.int _ _ hd),Conv.intToInt])
 ·rename_i e sz bt z hs hd;split at hp
  ·rename_i J;have hu:=(r.slice _ _ _ _ _ hs).1;have m:=r.int _ _ J;have o:=r.str _ hd
   have key:∀(b off c n:Nat) (g:Nat->List PV),a.eval x=.slice (some ⟨b,off,none⟩) n c->(∀i,i<n->isByte (g i)=true)->K (.str ((List.range n).map λi=>byteOf (g i)))->
     (∀i v,i<n->g i=[.int .u8 v]->w.cell? ⟨b,off+i,none⟩=some (.int .u8 v))->cb P ⟨dst,.convert s d x,ty,pos,after,guard⟩ a μ h S w K:=by
    intro b off c n g ex hb j y;have num:∀i,i<n->∃v,g i=[.int .u8 v]:=λi hi=>xm (hb i hi)
    let val:Nat->Int:=λi=>match g i with | [.int _ v]=>v | _=>0
    have F:∀i,i<n->g i=[.int .u8 (val i)]:=λi hi=>by
     obtain⟨v,hv⟩:=num i hi;simp only[val,hv]
    refine .mk j (aI.str _) λw' ha=>bQ rfl ?_;rw[ex,run_convert_bytes_arg w' s e hu m b off n c ((List.range n).map val) UQ (λi hi=>?_) d o]
    ·congr 2;simp only[strOfNums]
     have:((List.range n).map val).map (λq=>UInt8.ofNat q.toNat)=(List.range n).map λi=>byteOf (g i):=by
      rw[List.map_map];apply List.map_congr_left;intro i hi;rw[F i (TB.1 hi)];rfl
     rw[this]
    ·rw[ha.cell (y i _ hi (F i hi))];simp [Sz,hi]
   unfold mw at hp;split at hp
   ·rename_i hex;rw[hex]at hx;refine .mk hp (aI.str _) λw' _=>bQ rfl ?_;rw[hx.iL,run_convert_bytes_nil w' s e hu m 0 0 d o];rfl
   ·rename_i L n f hex;rw[hex]at hx;replace hp:=aT hp;obtain⟨h1,D,A,B,j⟩:=hp;obtain⟨hb,C⟩:=qw A B;replace j:K (.str D):=j;rw[<-C]at j;clear A B C;obtain rfl:=No h1;rcases hx.lF with⟨M,c,ex,rfl⟩ | ⟨b,off,c,N,ex,hS,O,hc,y,Q⟩
    ·cases M with
     | none=>
      refine .mk j (aI.str _) λw' _=>bQ rfl ?_;rw[ex,run_convert_bytes_nil w' s e hu m 0 c d o];rfl
     | some E=>
      refine .mk j (aI.str _) λw' _=>bQ rfl ?_;rw[ex,run_convert_bytes_string w' s d e _ 0 c hu m o,run_bytesToString w' E 0 c [] (by simp [loadCells,loadCellsFrom])];rfl
    ·refine key b off c n f ex hb j λi v hi hv=>?_;have q1:=y i 0 (.int .u8 v) hi (by rw[hv];rfl);have q2:=Q i 0 (.int .u8 v) hi (by rw[hv];rfl);rw[Nat.mul_one,Td]at q1;rw[q1];generalize N i 0=u at q2;cases q2;rfl
   ·rename_i id gen off n hex;rw[hex]at hx;split at hp
    ·rename_i g L R G f U;obtain⟨rfl,hp⟩:=hp;replace hp:=aT hp;obtain⟨h1,D,A,B,j⟩:=hp;obtain⟨hb,C⟩:=qw (g:=λi=>f (off+i)) A B;replace j:K (.str D):=j;rw[<-C]at j;clear A B C;obtain rfl:=No h1;have hh:=ca U;have l:=hx.gq;unfold aN at l;rw[hh]at l;obtain⟨⟨a0,l0,c0,e0⟩,_,l⟩:=l;obtain⟨HA,l⟩:=l rfl;obtain⟨O,hc⟩:=H id g 1 R G f hh;cases hm:μ id with
     | none=>
      rw[hm]at l hc;have V:n=0:=by omega
      subst V;refine .mk j (aI.str _) λw' _=>bQ rfl ?_;rw[show a.eval x=.slice none 0 0 from l,run_convert_bytes_nil w' s e hu m 0 0 d o];rfl
     | some p=>
      obtain⟨b,base⟩:=p;rw[hm]at l hc;obtain⟨E,cap,ex,cr,W,X⟩:=l;obtain⟨cur,Y,kk,y⟩:=bu.cells X hc;rcases Ta n with h0 | h0
      ·subst h0;refine .mk j (aI.str _) λw' _=>bQ rfl ?_;rw[ex,run_convert_bytes_string w' s d e _ 0 cap hu m o,run_bytesToString w' E 0 cap [] (by simp [loadCells,loadCellsFrom])];rfl
      ·rw[W UN,Nat.mul_one]at ex;refine key b (base+off) cap n (λi=>f (off+i)) ex hb j λi v hi hv=>?_;obtain⟨u,q1,q2⟩:=y (off+i) 0 (.int .u8 v) UN (by rw[hv];rfl);have q2:aI S w (.int .u8 v) u:=q2;cases q2;rw[cell_of_row w b (base+off+i) cur G (0,0) Y,<-q1];congr 1;omega
    ·exact Uq
   ·exact Uq
  ·exact Uq
 ·exact Uq
theorem qy (d:∀t,aX μ h S w (env t) (a.tmps.getD t undef)) (x:Operand) (hp:bB T (.nilCheck x) env h K):
  cb P ⟨dst,.nilCheck x,ty,pos,after,guard⟩ a μ h S w K:=by
 have hx:=bp d x;unfold bB at hp;simp only at hp;split at hp
 ·rename_i cs hex;rw[hex]at hx;obtain⟨b,off,k,ex,_⟩:=hx.nA;exact .mk hp hx λw' _=>by simp [execOp,ex]
 ·rename_i id gen i off hex;rw[hex]at hx;split at hp
  ·rename_i g sz n e f j;obtain⟨rfl,hp⟩:=hp;have hh:=ca j;have c:=hx.la;unfold bh at c;rw[hh]at c;obtain⟨_,_,c⟩:=c;obtain⟨l,b,base,m,o,hv⟩:=c rfl;exact .mk hp hx λw' _=>by simp [execOp,hv]
  ·exact Uq
 ·exact Uq
theorem pr (c:bR P T) {s sz k o size:Nat} {fl:List (Nat×Nat×Bool)} {z:List PV} {a:Bool} (e:T.get s=.struct sz fl z) (hk:fl[k]? =some (o,size,a)) (b off:Nat) (w':World):
  (Instr.fieldAt s (.pointer (some ⟨b,off,none⟩)) k).run P w'=.ok (.pointer (some ⟨b,off+o,none⟩)) w':=by
 obtain⟨fs,i,hu,hi,dp,h,_,hf⟩:=c.struct _ _ _ _ e;obtain⟨f,j,d,h1,h2,g,h4,l,m,n⟩:=hf k o size a hk;have h0:¬j.size=0:=by omega
 simp [Instr.fieldAt,run_underlying hu,h1,Instr.sureAddr,fieldPlace,fD g,h0,Addr.add_lit,h2]
theorem pO (d:bR P T) (m:∀t,aX μ h S w (env t) (a.tmps.getD t undef)) (s:Nat) (x:Operand) (k:Nat) (hp:bB T (.fieldAddr s x k) env h K):
  cb P ⟨dst,.fieldAddr s x k,ty,pos,after,guard⟩ a μ h S w K:=by
 have hx:=bp m x;unfold bB at hp;simp only at hp;split at hp
 ·rename_i sz fl z l;split at hp
  ·rename_i o size C hk;split at hp
   ·rename_i cs hex;rw[hex]at hx;obtain⟨b,off,p,ex,q,r,u⟩:=hx.nA;refine .mk hp (aI.cN (cs.drop o) b (off+o) (λj=>p (o+j)) q (λj pv hj=>?_) (λj pv hj=>?_)) λw' _=>bQ rfl (by rw[ex];exact pr d l hk b off w')
    ·rw[Tp]at hj;rw[Nat.add_assoc];exact r _ _ hj
    ·rw[Tp]at hj;exact u _ _ hj
   ·rename_i id gen i off hex;rw[hex]at hx;split at hp
    ·rename_i g D n e f v;obtain⟨rfl,hp⟩:=hp;have hh:=ca v;have c:=hx.la;unfold bh at c;rw[hh]at c;obtain⟨_,_,c⟩:=c;obtain⟨y,b,base,A,B,hv⟩:=c rfl;refine .mk hp ?_ λw' _=>bQ rfl (by rw[hv];exact pr d l hk b _ w');show bh _ _ _ _ _ _ _ _;unfold bh;rw[hh];exact⟨⟨_,rfl⟩,Sv _,λ_=>⟨y,b,base,A,B,by simp only[Nat.add_assoc]⟩⟩
    ·exact Uq
   ·exact Uq
  ·exact Uq
 ·exact Uq
theorem nH (g:∀t,aX μ h S w (env t) (a.tmps.getD t undef)) (sz:Nat) (fl:List (Nat×Nat×Bool)) (place:Nat->Option (Nat×Nat)) (i:∀(k o size:Nat) (d:Bool),fl[k]? =some (o,size,d)->place k=some (o,size)) {K:List PV->Prop}:
  ∀(l:List (Nat×Operand)) (acc:List PV) (cells:Array Value),iN env sz fl K l acc->cells.size=sz->acc.length=sz->(∀(j:Nat) (pv:PV),acc[j]? =some pv->∃u,cells[j]? =some u/\bf μ h S w pv u)->
  ∃b c,K b/\Instr.fill place cells (l.map λp=>(p.1,a.eval p.2))=some c/\c.size=sz/\b.length=sz/\∀(j:Nat) (pv:PV),b[j]? =some pv->∃u,c[j]? =some u/\bf μ h S w pv u
 | [],acc,cells,hp,hs,e,f=>⟨acc,cells,hp,rfl,hs,e,f⟩
 | (k,x)::r,acc,cells,hp,hs,e,f=>by
  unfold iN at hp;split at hp
  ·rename_i o size d hk;replace hp:=aT (bm hp);obtain⟨m,hp⟩:=hp;simp only[so]at m;obtain⟨⟨s,hlen⟩,n⟩:=m;have hlen:=No hlen;have n:=SI n;obtain⟨q,h4⟩:=gu s (bp g x);simp only[S8,SQ]at q h4;have v:(a.eval x).cells.size=size:=q.trans hlen;obtain⟨y,z⟩:=kH (a.eval x) o cells UN
   obtain⟨b,c,q1,q2,q3⟩:=nH g sz fl place i r (bY acc o (cellsOf (ev env x))) ((a.eval x).cells.zipIdx.foldl (λ(cs:Array Value) (p:Value×Nat)=>cs.setIfInBounds (o+p.2) p.1) cells) hp (y.trans hs) (by rw[gr];exact e)
    (λj pv hj=>by
     rw[jm _ _ _ _ UN]at hj;rw[z j];by_cases hc:o<=j/\j<o+size
     ·rw[An UN]at hj;rw[An UN];exact h4 _ _ hj
     ·rw[Is UN]at hj;rw[Is UN];exact f j pv hj)
   refine⟨b,c,q1,?_,q3⟩;simp only[SE,Instr.fill,i k o size d hk];rw[Is (by simp only[v,ne_eq,not_true_eq_false,false_or];simp only[Th,Tc,not_or];simp;omega)];exact q2
  ·exact Uq
theorem ss:∀(fs:List Field) (n:Nat) (fl:List (Nat×Nat×Bool)),fl.length=fs.length->
  (∀(k o size:Nat) (a:Bool),fl[k]? =some (o,size,a)->∃f j,fs[k]? =some f/\f.offset=o/\P.info? f.type=some j/\j.size=size)->
  fs.mapM (λf=>(P.info? f.type).map λi=>(f.offset,i.size))=some (fl.map λq=>(q.1,q.2.1))
 | [],n,[],_,_=>rfl
 | f::fs,n,(o,size,a)::fl,b,hf=>by
  obtain⟨e,j,h1,h2,c,h4⟩:=hf 0 o size a rfl;simp at h1;subst h1
  have d:=ss fs n fl (by simpa using b) (λk o size a hk=>by
   obtain⟨f,j,q⟩:=hf (k+1) o size a (by simpa using hk);exact⟨f,j,by simpa using q⟩)
  simp only[List.mapM_cons,SE,c,Option.map_some,Option.bind_eq_bind,T4,d,h2,h4];rfl
theorem vg (m:bR P T) (n:∀t,aX μ h S w (env t) (a.tmps.getD t undef)) (t:Nat) (parts:Array (Nat×Operand)) (hp:bB T (.build t parts) env h K):
  cb P ⟨dst,.build t parts,ty,pos,after,guard⟩ a μ h S w K:=by
 unfold bB at hp;simp only at hp;split at hp
 ·rename_i sz fl z r;obtain⟨fs,i,hu,hi,dp,s,⟨c,u,v,x,y⟩,hf⟩:=m.struct _ _ _ _ r
  have A:=ss (P:=P) fs.toList 0 fl (by simpa using s) (λk o size e hk=>by
   obtain⟨f,j,d,h1,h2,B,h4,_⟩:=hf k o size e hk;exact⟨f,j,by simpa using h1,h2,B,h4⟩)
  obtain⟨E,g,q1,q2,q3,q4,C⟩:=nH (a:=a) (μ:=μ) (h:=h) (S:=S) (w:=w) n sz fl ((fl.map λq=>(q.1,q.2.1)).toArray[·]?) (λk o size e hk=>by simp [hk]) parts.toList z c.cells hp v x (λj pv hj=>by
   have l:j<c.cells.size:=by
    have:=(an.1 hj).1;omega
   obtain⟨F,b,_,D⟩:=y j c.cells[j] (SO l);rw[hj]at b;injection b with b;subst b;exact⟨_,SO l,bf.eX (D S w)⟩)
  refine .mk q1 ⟨g,rfl,by omega,C⟩ λw' _=>bQ rfl (run_build w' t _ g ?_);unfold Program.built;simp only[hi,hu,u,A];have:(parts.map λp=>(p.1,a.eval p.2)).toList=parts.toList.map λp=>(p.1,a.eval p.2):=by simp
  rw[this];exact q2
 ·exact Uq
theorem vh {P:Program} {t:TypeId} {d:TypeDesc} {j:TypeInfo} (hu:P.underlying t=some d) (hi:P.info? t=some j) (cs:Array Value) (off:Nat) (w:World):
  (part t cs off).run P w=if ql d then .ok (.agg (cs.extract off (off+j.size))) w else match cs[off]? with | some v=>.ok v w | none=>(part t cs off).run P w:=by
 cases hd:ql d with
 | true=>simp [part,nB hu,hd,fD hi]
 | false=>
  simp only[To,Tu];cases hc:cs[off]? with
  | none=>rfl
  | some v=>simp [part,nB hu,hd,hc]
theorem vi (y:bR P T) (A:∀t,aX μ h S w (env t) (a.tmps.getD t undef)) (s:Nat) (x:Operand) (k:Nat) (hp:bB T (.field s x k) env h K):
  cb P ⟨dst,.field s x k,ty,pos,after,guard⟩ a μ h S w K:=by
 have hx:=bp A x;unfold bB at hp;simp only at hp;split at hp
 ·rename_i sz fl z B;split at hp
  ·rename_i o size C hk;split at hp
   ·rename_i cs hex;rw[hex]at hx;obtain⟨vs,ex,dp,hv⟩:=hx;obtain⟨fs,i,hu,hi,E,F,_,hf⟩:=y.struct _ _ _ _ B;obtain⟨f,j,d,h1,h2,g,h4,G,l,m⟩:=hf k o size C hk
    have n:∀w' v,(part f.type vs f.offset).run P w'=.ok v w'->(execOp a.eval ⟨dst,.field s x k,ty,pos,after,guard⟩).run P w'=.ok (.value v) w':=λw' v D=>bQ rfl (by
     rw[ex];simp [Instr.field,run_underlying hu,h1,D,asAgg])
    split at hp
    ·obtain⟨hle,p⟩:=iM _ _ _ hp;simp only[T1,Tq,T5]at p hle;refine .mk p (val:=.agg (vs.extract o (o+size))) ⟨_,rfl,by simp;omega,λq pv hq=>?_⟩ λw' _=>n w' _ (by rw[vh l g,<-m,An rfl,h2,h4]);rw[TK]at hq;split at hq
     ·rename_i H;rw[Tp]at hq;obtain⟨u,b,e⟩:=hv _ _ hq;refine⟨u,?_,e⟩;rw[Array.getElem?_extract];have:o+q<vs.size:=(Su.1 b).1;rw[An UN];exact b
     ·cases hq
    ·split at hp
     ·rename_i c r hd
      have h0:cs[o]? =some c:=by
       have:=congrArg (·[0]?) hd;simpa using this
      obtain⟨u,b,e⟩:=hv _ _ h0;exact .mk (bm hp) e.v λw' _=>n w' _ (by rw[vh l g,<-m,h2];simp [b])
     ·exact Uq
   ·exact Uq
  ·exact Uq
 ·exact Uq
theorem jy.zI {pv:PV} {v:Value} (hs:eA pv=true) (a:jy pv v):aX μ h S w pv v:=by
 have one:∀(pv:PV) (v:Value),lf pv=true->kG pv v->bf μ h S w pv v:=λpv v hs a=>by
  cases pv<;>first | (cases hs;done) | (have a:v=_:=a;subst a;first | exact aI.int _ _ | exact aI.bool _ | exact aI.str _) | exact a
 cases pv with
 | agg cs=>
  obtain⟨vs,h1,h2,c⟩:=a;exact⟨vs,h1,h2,λj pv hj=>let⟨u,hu,hc⟩:=c j pv hj;⟨u,hu,one pv u (Sy.1 hs _ (SJ hj)) hc⟩⟩
 | dA=>trivial
 | int k n=>exact one (.int k n) v rfl a
 | bool b=>exact one (.bool b) v rfl a
 | str s=>exact one (.str s) v rfl a
 | _=>cases hs
theorem jy.Ks {pv:PV} {v:Value} (hs:eA pv=true) (a:jy pv v):dP μ h S w pv v:=by
 have:=jy.zI (μ:=μ) (h:=h) (S:=S) (w:=w) hs a;cases pv with
 | db _=>cases hs
 | _=>exact this
theorem tW (D:bR P T) (O:bu μ h S w) (E:∀t,aX μ h S w (env t) (a.tmps.getD t undef)) (t:Nat) (x i:Operand) (ok:Bool) (hp:bB T (.lookup t x i ok) env h K):
  cb P ⟨dst,.lookup t x i ok,ty,pos,after,guard⟩ a μ h S w K:=by
 have hx:=bp E x;have hi:=bp E i;simp only[bB]at hp;split at hp
 ·rename_i kt et zv id Q hex;rw[hex]at hx;split at hp
  ·rename_i g sz n e f R;replace hp:=aT (bm hp);obtain⟨hk,r,b,hm,F⟩:=hp;obtain⟨hu,inf,z,U,V,dp,W,pP⟩:=D.map _ _ _ _ Q;obtain⟨k,base,es,c,cW,ex,hb,X,G⟩:=qo O (ca R) hx.tV;obtain⟨q0,h0⟩:=Option.isSome_iff_exists.1 hk;obtain⟨d,s,hd,H,I⟩:=yA D hi h0
   have J:∀m,m<=n->su (T.get kt) f m (ev env i)->∀j,j<m->∀y:MapEntry,es.toList[j]? =some y->lb P kt d s (a.eval i) y.key false:=λm Oj l j hj y hy=>by
    obtain⟨q,vp,h1,h2⟩:=l j hj;obtain⟨Y,Z,en,o,_,_,h4,u,_⟩:=G j UN;rw[h1]at o;injection o with v p;subst v;have:y=en:=by rw[SQ]at hy;exact SW (hy.symm.trans h4)
    subst this;exact I q y.key false u h2
   have run:∃val,jy r val/\eA r=true/\∀w',bg w w'->(Instr.lookup t (.map (some k)) (a.eval i) ok).run P w'=.ok (if ok then .tuple #[val,.bool b]else val) w':=by
    rcases hm with⟨rfl,A,Ok,l,q,hf,hq⟩ | ⟨rfl,rfl,l⟩
    ·obtain⟨Y,Z,en,o,_,h6,h4,u,h7⟩:=G A Ok;rw[hf]at o;injection o with v p;injection p with p _;subst v p;refine⟨en.val,h7,h6,λw' ha=>?_⟩;have B:w'.heap[k]? =some (.map es c):=(ha.blocks k (Su.1 hb).1).trans hb;have C:=qs (P:=P) (w':=w') hd es.toList A en (J A UN l) (by rw[SQ];exact h4) (I q en.key true u hq);simp [Instr.lookup,run_underlying hu,run_getObj_map w' k es c B,H,C]
    ·refine⟨z,dp,W,λw' ha=>?_⟩;have B:w'.heap[k]? =some (.map es c):=(ha.blocks k (Su.1 hb).1).trans hb
     have C:=nF (P:=P) (w':=w') hd es.toList (λj y hy=>J n (Sv _) l j (by
      have:=(an.1 hy).1;rw[<-X];simpa using this) y hy)
     simp [Instr.lookup,run_underlying hu,run_getObj_map w' k es c B,H,C,zeroValue,typeInfo,U,V]
   obtain⟨val,L,M,N⟩:=run;cases ok with
   | true=>
    refine .mk F ?_ λw' ha=>bQ rfl (by rw[ex];exact N w' ha)
    exact⟨_,rfl,rfl,λj pv hj=>by
     rcases j with _ | _ | j
     ·cases hj;exact⟨_,rfl,L.Ks M⟩
     ·cases hj;exact⟨_,rfl,aI.bool _⟩
     ·simp at hj⟩
   | false=>exact .mk (bm F) (L.zI M) λw' ha=>bQ rfl (by rw[ex];exact N w' ha)
  ·exact Uq
 ·exact Uq
theorem gM (f:bR P T) (g:bu μ h S w) (e:∀t,aX μ h S w (env t) (a.tmps.getD t undef)) {op:Op} (hp:bB T op env h K):
  cb P ⟨dst,op,ty,pos,after,guard⟩ a μ h S w K:=by
 cases op with
 | lookup t x i ok=>exact tW f g e t x i ok hp
 | makeFunc fn first captured=>exact(show False from hp).elim
 | move x=>exact .mk (bm hp) (bp e x) λ_ _=>rfl
 | assign x=>exact .mk (bm hp) (bp e x) λ_ _=>rfl
 | pick c x y=>
  have hc:=bp e c;simp only[bB]at hp;split at hp
  ·rename_i b hex;rw[hex]at hc;have j:=hc.gn;obtain⟨h1,h2⟩:=eM hp;cases b with
   | true=>exact .mk (bm (h1 rfl)) (bp e x) λw' _=>by simp [execOp,j,asBool]
   | false=>exact .mk (bm (h2 rfl)) (bp e y) λw' _=>by simp [execOp,j,asBool]
  ·exact Uq
 | binOp m t x y o=>exact zA f m t o x y _ _ (bp e x) (bp e y) hp
 | unOp u t x=>
  have hx:=bp e x;simp only[bB]at hp;split at hp
  ·rename_i b hex;rw[hex]at hx;exact .mk hp (aI.bool _) λw' _=>bQ rfl (by rw[hx.gn,unary_not];rfl)
  ·rename_i k n hex;rw[hex]at hx;exact .mk hp (aI.int _ _) λw' _=>bQ rfl (by rw[hx.eW,unary_neg];rfl)
  ·exact Uq
 | load t x=>exact qt f g t x _ (bp e x) hp
 | convert s d x=>exact rQ f g e s d x hp
 | nilCheck x=>exact qy e x hp
 | fieldAddr s x k=>exact pO f e s x k hp
 | build t parts=>exact vg f e t parts hp
 | field s x k=>exact vi f e s x k hp
 | indexAddr t x i=>exact vb f g e t x i hp
 | index t x i=>exact qu f e t x i hp
 | extract x i=>
  have hx:=bp e x;simp only[bB]at hp;split at hp
  ·rename_i vs hex;rw[hex]at hx;split at hp
   ·rename_i v hv;obtain⟨us,p,C,q⟩:=hx;obtain⟨u,hu,l⟩:=q i v hv
    have r:aX μ h S w v u:=by
     cases v with
     | db D=>exact(show False from l).elim
     | _=>exact l
    exact .mk (bm hp) r λw' _=>bQ rfl (by rw[p];simp [Instr.extract,hu])
   ·exact Uq
  ·exact Uq
 | slice t x lo hi z=>exact ve f g e t x lo hi z hp
 | call c=>
  obtain⟨A,args,B⟩:=c;cases A with
  | builtin b=>cases b with
   | len=>exact zC f g e args B hp
   | _=>exact(show False from hp).elim
  | _=>exact(show False from hp).elim
 | _=>exact(show False from hp).elim
end
section
variable {P:Program}{T:ij}{μ:Mu}{h:List au}{S:Nat->Prop}{w w1:World}
def fv (μ:Mu) (id:Nat) (p:Option (Nat×Nat)):Mu:=λj=>if j=id then p else μ j
theorem aJ (μ:Mu) (id:Nat) (p:Option (Nat×Nat)):fv μ id p id=p:=by simp [fv]
theorem aZ (μ:Mu) {id j:Nat} (p:Option (Nat×Nat)) (hj:j≠id):fv μ id p j=μ j:=by simp [fv,hj]
structure Core (μ:Mu) (h:List au) (S:Nat->Prop) (w:World):Prop where
 heap:bu μ h S w
 ok:kl μ h S w
theorem core_set (hc:Core μ h S w) (id g r sz n d:Nat) (e:TypeId) (f m:Nat->List PV) (hh:h[id]? =some (au.row g sz n e f)) (a u:Nat) (A:Array Value)
  (hg:g<=r) (Ku:r=g->μ id=some (a,u)/\d=n)
  (hb:w.heap.size<=a\/∃base cur,μ id=some (a,base)/\w.heap[a]? =some (.cells cur e (0,0))/\cur.size=A.size)
  (hw:w1.heap[a]? =some (.cells A e (0,0))) (kk:u+d*sz<=A.size)
  (cj:∀b,b<w.heap.size->b≠a->w1.heap[b]? =w.heap[b]?) (gY:w.heap.size<=w1.heap.size) (HN:w1.os=w.os) (qA:w1.tape=w.tape) (tX:w1.output=w.output)
  (hl:∀i,i<d->(m i).length=sz) (wv:∀b base,μ id=some (b,base)->¬ib w b)
  (aK:∀(i j:Nat) (pv:PV),i<d->(m i)[j]? =some pv->∃v:Value,A[u+i*sz+j]? =some v/\gZ μ h S w pv v) (Q:Nat)
  (jT:∀(i j D E:Nat) (B:TypeId) (F:Nat->List PV) (G:Nat->Prop),i<d->(m i)[j]? =some (.aG D E B F G)->Q+i<n/\(f (Q+i))[j]? =some (.aG D E B F G)):
  Fr μ h S w (fv μ id (some (a,u))) (h.set id (.row r sz d e m)) S w1/\Core (fv μ id (some (a,u))) (h.set id (.row r sz d e m)) S w1:=by
 have hid:id<h.length:=(an.1 hh).1;have X:(h.set id (au.row r sz d e m))[id]? =some (au.row r sz d e m):=by simp [hid]
 have l:∀j,j≠id->(h.set id (au.row r sz d e m))[j]? =h[j]?:=λj hj=>by rw[SN (Tl hj)]
 have vl:a<w1.heap.size:=(Su.1 hw).1
 have hB:a<w.heap.size->bA μ h a:=λs=>by
  rcases hb with hb | ⟨base,cur,hm,_,_⟩
  ·omega
  ·exact UL
 have C:∀j x y b,bN (h.set id (au.row r sz d e m)) j x y b->bN h j (if j=id then Q+x else x) y b:=λj x y b ⟨gj,dQ,nj,ej,fj,D,E,B,F,G,q1,q2,q3,q4⟩=>by
  by_cases bO:j=id
  ·subst bO;rw[X]at q1;injection q1 with q1;injection q1 with H I J K L;subst H I J K L;obtain⟨M,N⟩:=jT x y _ _ _ _ _ q2 q3;rw[An rfl];exact⟨_,_,_,_,_,_,_,_,_,_,hh,M,N,q4⟩
  ·rw[l j bO]at q1;rw[Is bO];exact UH
 have R:∀j x y b,bN h j x y b->b<w.heap.size/\b≠a:=λj x y b hx=>by
  have s:=hc.ok.lt b (.inr ⟨j,x,y,hx⟩);refine⟨s,?_⟩;rintro rfl;rcases hb with hb | ⟨base,cur,hm,_,_⟩
  ·omega
  ·exact UC
 have O:Fr μ h S w (fv μ id (some (a,u))) (h.set id (.row r sz d e m)) S w1:=by
  refine⟨by simp,λb s ph=>?_,λ_ hb=>hb,λ_ hb=>.inl hb,λb P=>?_,gY,HN,qA,tX,λj gj dQ nj ej fj hj=>?_,λj hj=>?_,λb k T cr=>?_,λj gj dQ nj ej fj b base hj hm fe=>?_,λb j x y hx fe=>?_⟩;rotate_right
  ·obtain⟨q1,q2⟩:=R j x y b hx;exact Un
  ·by_cases t:b=a
   ·subst t;exact(ph (hB s)).elim
   ·exact cj b s t
  ·rcases P with⟨j,gj,dQ,nj,ej,fj,ff,hj,hm⟩ | ⟨j,x,y,hx⟩;rotate_left
   ·exact .inl (.inr ⟨_,_,_,C j x y b hx⟩)
   by_cases bO:j=id
   ·subst bO;rw[aJ]at hm;injection hm with hm;injection hm with h1 h2;subst h1;rcases S5 a w.heap.size with s | sw
    ·exact .inl (hB s)
    ·exact .inr sw
   ·rw[l j bO]at hj;rw[aZ μ _ bO]at hm;exact UG
  ·by_cases bO:j=id
   ·subst bO;rw[hh]at hj;injection hj with hj;injection hj with H I J K L;subst H I J K L;rw[X];refine⟨hg,λhe=>?_⟩;exact Um
   ·rw[l j bO,hj];exact UI
  ·have bO:j≠id:=by rintro rfl;rw[hh]at hj;cases hj
   rw[l j bO];exact hj
  ·by_cases t:b=a
   ·subst t;obtain⟨cur,B,z,q1,q2⟩:=cr;rcases hb with hb | ⟨base,U,hm,Y,dp⟩
    ·have:=(Su.1 q1).1;omega
    ·rw[Y]at q1;injection q1 with q1;injection q1 with q1 _ _;subst q1;exact⟨A,e,_,hw,by omega⟩
   ·exact dZ.of_same (cj b cr.lt t) cr
  ·have bO:j≠id:=by rintro rfl;exact wv b base hm fe
   have t:b≠a:=by
    rintro rfl;obtain⟨es,c,q⟩:=fe;rcases hb with hb | ⟨Z,U,pQ,Y,_⟩
    ·have:=(Su.1 q).1;omega
    ·rw[Y]at q;cases q
   obtain⟨es,c,q⟩:=fe;exact⟨⟨es,c,(cj b (Su.1 q).1 t).trans q⟩,.inr ⟨⟨_,_,_,_,_,(l j bO).trans hj⟩,by rw[aZ μ _ bO];exact hm⟩⟩
 refine⟨O,⟨λj gj dQ nj ej fj hj=>?_,?_⟩⟩
 ·by_cases bO:j=id
  ·subst bO;rw[X]at hj;injection hj with hj;injection hj with H I J K L;subst H I J K L;rw[aJ];refine⟨hl,bu.nJ ⟨A,hw,kk,λi k pv hi hk=>?_⟩⟩;obtain⟨v,h1,h2⟩:=aK i k pv hi hk;refine⟨v,h1,h2.fr O hc.ok (λD E B F G he b P=>?_)⟩;rw[he]at hk;obtain⟨M,N⟩:=jT i k _ _ _ _ _ hi hk;obtain⟨q1,q2⟩:=R j (Q+i) k b ⟨_,_,_,_,_,_,_,_,_,_,hh,M,N,P⟩;exact cj b q1 q2
  ·rw[l j bO]at hj;obtain⟨h1,h2⟩:=hc.heap j gj dQ nj ej fj hj;refine⟨h1,?_⟩;rw[aZ μ _ bO];cases hm:μ j with
   | none=>rw[hm]at h2;exact h2
   | some p=>
    obtain⟨b,base⟩:=p;rw[hm]at h2;obtain⟨o,q1,q2⟩:=h2;have s:b<w.heap.size:=(Su.1 q1).1
    have t:b≠a:=by
     rintro rfl;rcases hb with hb | ⟨Z,U,pQ,_⟩
     ·omega
     ·exact UB
    exact⟨o,(cj b s t).trans q1,q2.mono (λi y pv v hi hy hr=>hr.fr O hc.ok (λD E B F G he b' P=>by
     obtain⟨q1,q2⟩:=R j i y b' ⟨_,_,_,_,_,_,_,_,_,_,hj,hi,by rw[hy,he],P⟩;exact cj b' q1 q2))⟩
 ·refine⟨λb T V=>?_,λb T=>?_,λb V=>SH (hc.ok.slt b V) gY,?_,hc.ok.my O,λb Dl j x y hx=>?_,λb j x y j' x' y' hx jb=>?_⟩;rotate_right 2
  ·obtain⟨q1,q2⟩:=R _ _ _ b (C j x y b hx);obtain⟨k,gk,Dm,nk,ek,fk,qB,hk,hm⟩:=Dl;by_cases lh:k=id
   ·subst lh;rw[aJ]at hm;injection hm with hm;injection hm with h1 h2;exact q2 h1.symm
   ·rw[l k lh]at hk;rw[aZ μ _ lh]at hm;exact hc.ok.hv b ⟨k,gk,Dm,nk,ek,fk,qB,hk,hm⟩ _ _ _ (C j x y b hx)
  ·obtain⟨M,N,r3⟩:=hc.ok.hh b _ _ _ _ _ _ (C j x y b hx) (C j' x' y' b jb);subst M;refine⟨rfl,?_,r3⟩;split at N<;>omega
  ·rcases O.own b T with h1 | h1
   ·exact hc.ok.apart b h1 V
   ·have:=hc.ok.slt b V;omega
  ·rcases T with⟨j,gj,dQ,nj,ej,fj,ff,hj,hm⟩ | ⟨j,x,y,hx⟩;rotate_left
   ·exact SH (hc.ok.lt b (.inr ⟨_,_,_,C j x y b hx⟩)) gY
   by_cases bO:j=id
   ·subst bO;rw[aJ]at hm;injection hm with hm;injection hm with h1 h2;subst h1;exact vl
   ·rw[l j bO]at hj;rw[aZ μ _ bO]at hm;exact Uz
  ·intro i j gi xo ni ei fi gj dQ nj ej fj b o o' hi hj eY eN;by_cases W:i=id
   ·by_cases bO:j=id
    ·rw[W,bO]
    ·subst W;rw[aJ]at eY;injection eY with eY;injection eY with h1 h2;subst h1;rw[l j bO]at hj;rw[aZ μ _ bO]at eN;rcases hb with hb | ⟨Z,U,pQ,_⟩
     ·have:=hc.ok.lt _ (.inl ⟨j,gj,dQ,nj,ej,fj,o',hj,eN⟩);omega
     ·exact UE
   ·rw[l i W]at hi;rw[aZ μ _ W]at eY;by_cases bO:j=id
    ·subst bO;rw[aJ]at eN;injection eN with eN;injection eN with h1 h2;subst h1;rcases hb with hb | ⟨Z,U,pQ,_⟩
     ·have:=hc.ok.lt _ (.inl ⟨i,gi,xo,ni,ei,fi,o,hi,eY⟩);omega
     ·exact UF
    ·rw[l j bO]at hj;rw[aZ μ _ bO]at eN;exact Ux
theorem sx (hc:Core μ h S w) (sz n:Nat) (e:TypeId) (f:Nat->List PV) (p:Option (Nat×Nat))
  (hp:match p with
   | none=>n=0
   | some (b,base)=>w.heap.size<=b/\∃o:Obj,w1.heap[b]? =some o/\mz (bf μ h S w) base sz n e f o)
  (ha:bg w w1) (L:∀i,i<n->(f i).length=sz) (I:∀(i j:Nat) (pv:PV),i<n->(f i)[j]? =some pv->cg pv=false):
  Fr μ h S w (fv μ h.length p) (h++[.row 0 sz n e f]) S w1/\Core (fv μ h.length p) (h++[.row 0 sz n e f]) S w1:=by
 have u:∀j o,h[j]? =some o->(h++[au.row 0 sz n e f])[j]? =some o:=λj o hj=>by
  rw[SR (an.1 hj).1];exact hj
 have M:(h++[au.row 0 sz n e f])[h.length]? =some (au.row 0 sz n e f):=by simp
 have a:∀j o,(h++[au.row 0 sz n e f])[j]? =some o->(h[j]? =some o/\j≠h.length)\/(j=h.length/\o=au.row 0 sz n e f):=λj o hj=>by
  rcases Nat.lt_trichotomy j h.length with l | heq | sq
  ·rw[SR l]at hj;exact .inl ⟨hj,by omega⟩
  ·subst heq;rw[M]at hj;injection hj with hj;exact .inr ⟨rfl,hj.symm⟩
  ·rw[SZ US]at hj;cases hj
 have J:∀j o,h[j]? =some o->fv μ h.length p j=μ j:=λj o hj=>aZ μ _ (by have:=(an.1 hj).1;omega)
 have m:∀j x y b,bN (h++[au.row 0 sz n e f]) j x y b->bN h j x y b:=λj x y b ⟨gj,dQ,nj,ej,fj,N,O,P,Q,R,q1,q2,q3,q4⟩=>by
  rcases a j _ q1 with⟨h1,h2⟩ | ⟨h1,h2⟩
  ·exact⟨_,_,_,_,_,_,_,_,_,_,h1,q2,q3,q4⟩
  ·injection h2 with z A B C D;subst z A B C D;have:=I x y _ q2 q3;cases this
 have r:Fr μ h S w (fv μ h.length p) (h++[.row 0 sz n e f]) S w1:=by
  refine⟨by simp,λb l _=>ha.blocks b l,λ_ hb=>hb,λ_ hb=>.inl hb,λb E=>?_,ha.size,ha.os,ha.tape,ha.output,λj gj dQ nj ej fj hj=>?_,λj hj=>u j _ hj,λb k s cr=>dZ.of_same (ha.blocks b cr.lt) cr,λj gj dQ nj ej fj b base hj hm fe=>⟨let⟨es,c,q⟩:=fe;⟨es,c,(ha.blocks b (Su.1 q).1).trans q⟩,.inr ⟨⟨_,_,_,_,_,u j _ hj⟩,by rw[J j _ hj];exact hm⟩⟩,λb j x y hx fe=>let⟨es,c,q⟩:=fe;⟨es,c,(ha.blocks b (Su.1 q).1).trans q⟩⟩
  ·rcases E with⟨j,gj,dQ,nj,ej,fj,ff,hj,hm⟩ | ⟨j,x,y,hx⟩;rotate_left
   ·exact .inl (.inr ⟨_,_,_,m j x y b hx⟩)
   rcases a j _ hj with⟨h1,h2⟩ | ⟨h1,h2⟩
   ·rw[aZ μ _ h2]at hm;exact .inl (.inl ⟨j,gj,dQ,nj,ej,fj,ff,h1,hm⟩)
   ·subst h1;rw[aJ]at hm;subst hm;exact .inr hp.1
  ·rw[u j _ hj];exact⟨Sv _,λ_=>⟨J j _ hj,rfl,rfl,rfl⟩⟩
 refine⟨r,⟨λj gj dQ nj ej fj hj=>?_,?_⟩⟩
 ·rcases a j _ hj with⟨h1,h2⟩ | ⟨h1,h2⟩
  ·obtain⟨q1,q2⟩:=hc.heap j gj dQ nj ej fj h1;refine⟨q1,?_⟩;rw[aZ μ _ h2];cases hm:μ j with
   | none=>rw[hm]at q2;exact q2
   | some F=>
    obtain⟨b,base⟩:=F;rw[hm]at q2;obtain⟨o,g,G⟩:=q2;have l:b<w.heap.size:=(Su.1 g).1;exact⟨o,(ha.blocks b l).trans g,G.mono (λi y pv v hi hy H=>H.fr r hc.ok (λN O P Q R he K E=>ha.blocks K (hc.ok.lt K (.inr ⟨j,i,y,_,_,_,_,_,_,_,_,_,_,h1,hi,he▸hy,E⟩))))⟩
  ·subst h1;injection h2 with z A B C D;subst z A B C D;rw[aJ];refine⟨L,?_⟩;cases p with
   | none=>exact hp
   | some F=>
    obtain⟨b,base⟩:=F;obtain⟨_,o,g,G⟩:=hp;exact⟨o,g,G.mono (λi y pv v hi hy H=>(H.fr r hc.ok).k (I i y pv hi hy))⟩
 ·refine⟨λb s t=>?_,λb s=>?_,λb t=>SH (hc.ok.slt b t) ha.size,?_,hc.ok.my r,λb T j x y hx=>?_,λb j x y U x' V hx W=>hc.ok.hh b _ _ _ _ _ _ (m j x y b hx) (m U x' V b W)⟩;rotate_right
  ·have hx:=m j x y b hx;obtain⟨k,gk,X,Y,Z,fk,qB,hk,hm⟩:=T;rcases a k _ hk with⟨h1,h2⟩ | ⟨h1,h2⟩
   ·rw[aZ μ _ h2]at hm;exact hc.ok.hv b ⟨k,gk,X,Y,Z,fk,qB,h1,hm⟩ _ _ _ hx
   ·subst h1;rw[aJ]at hm;subst hm;have:=hc.ok.lt b (.inr ⟨_,_,_,hx⟩);have:=hp.1;omega
  ·rcases r.own b s with h1 | h1
   ·exact hc.ok.apart b h1 t
   ·have:=hc.ok.slt b t;omega
  ·rcases s with⟨j,gj,dQ,nj,ej,fj,ff,hj,hm⟩ | ⟨j,x,y,hx⟩;rotate_left
   ·exact SH (hc.ok.lt b (.inr ⟨_,_,_,m j x y b hx⟩)) ha.size
   rcases a j _ hj with⟨h1,h2⟩ | ⟨h1,h2⟩
   ·rw[aZ μ _ h2]at hm;exact SH (hc.ok.lt b (.inl ⟨j,gj,dQ,nj,ej,fj,ff,h1,hm⟩)) ha.size
   ·subst h1;rw[aJ]at hm;subst hm;obtain⟨_,o,g,_⟩:=hp;exact(Su.1 g).1
  ·intro i j gi xo ni ei fi gj dQ nj ej fj b o o' hi hj eY eN;rcases a i _ hi with⟨h1,h2⟩ | ⟨h1,h2⟩
   ·rw[aZ μ _ h2]at eY;rcases a j _ hj with⟨d,h4⟩ | ⟨d,h4⟩
    ·rw[aZ μ _ h4]at eN;exact hc.ok.inj i j _ _ _ _ _ _ _ _ _ _ _ _ _ h1 d eY eN
    ·subst d;rw[aJ]at eN;subst eN;have:=hc.ok.lt _ (.inl ⟨i,gi,xo,ni,ei,fi,o,h1,eY⟩);have:=hp.1;omega
   ·subst h1;rw[aJ]at eY;rcases a j _ hj with⟨d,h4⟩ | ⟨d,h4⟩
    ·rw[aZ μ _ h4]at eN;subst eY;have:=hc.ok.lt _ (.inl ⟨j,gj,dQ,nj,ej,fj,o',d,eN⟩);have:=hp.1;omega
    ·exact d.symm
theorem iP (hc:Core μ h S w) (sz n:Nat) (e:TypeId) (f:Nat->List PV) (p:Option (Nat×Nat))
  (hp:match p with
   | none=>n=0
   | some (b,base)=>w.heap.size<=b/\∃cur:Array Value,w1.heap[b]? =some (.cells cur e (0,0))/\base+n*sz<=cur.size/\
    ∀(i j:Nat) (pv:PV),i<n->(f i)[j]? =some pv->∃v:Value,cur[base+i*sz+j]? =some v/\bf μ h S w pv v)
  (ha:bg w w1) (a:∀i,i<n->(f i).length=sz) (c:∀(i j:Nat) (pv:PV),i<n->(f i)[j]? =some pv->cg pv=false):
  Fr μ h S w (fv μ h.length p) (h++[.row 0 sz n e f]) S w1/\Core (fv μ h.length p) (h++[.row 0 sz n e f]) S w1:=by
 refine sx hc sz n e f p ?_ ha a c;cases p with
 | none=>exact hp
 | some q=>exact⟨hp.1,bu.nJ hp.2⟩
theorem dZ.qC {b k:Nat} (h:dZ w b k):¬ib w b:=by
 rintro⟨es,c,q⟩;obtain⟨cur,e,z,h1,_⟩:=h;rw[h1]at q;cases q
end
theorem gE.refl:∀(l:List PV),gE l l
 | []=>trivial
 | a::l=>⟨.same a,gE.refl l⟩
theorem gE.len:∀{l r:List PV},gE l r->r.length=l.length
 | [],[],_=>rfl
 | a::l,b::r,h=>by simp [gE.len h.2]
 | [],_::_,h=>h.elim
 | _::_,[],h=>h.elim
theorem gE.get:∀{l r:List PV},gE l r->∀{j:Nat} {b:PV},r[j]? =some b->∃a,l[j]? =some a/\Aw a b
 | [],[],_,j,b,hj=>by simp at hj
 | a::l,c::r,h,0,b,hj=>by simp at hj;subst hj;exact⟨a,rfl,h.1⟩
 | a::l,c::r,h,j+1,b,hj=>by
  obtain⟨x,q1,q2⟩:=gE.get h.2 (j:=j) UW;exact⟨x,by simpa using q1,q2⟩
 | [],_::_,h,_,_,_=>h.elim
 | _::_,[],h,_,_,_=>h.elim
theorem gE.Kv:∀{l r:List PV},gE l r->∀{j:Nat} {a:PV},l[j]? =some a->∃b,r[j]? =some b/\Aw a b
 | [],[],_,j,b,hj=>by simp at hj
 | a::l,c::r,h,0,b,hj=>by simp at hj;subst hj;exact⟨c,rfl,h.1⟩
 | a::l,c::r,h,j+1,b,hj=>by
  obtain⟨x,q1,q2⟩:=gE.Kv h.2 (j:=j) UW;exact⟨x,by simpa using q1,q2⟩
 | [],_::_,h,_,_,_=>h.elim
 | _::_,[],h,_,_,_=>h.elim
theorem Aw.HO {a b:PV} (h:Aw a b) {μ:Mu} {l:List au} {S:Nat->Prop} {w:World} {v:Value} (c:bf μ l S w a v):bf μ l S w b v:=by
 cases h with
 | same=>exact c
 | nil sz f=>
  have c:aI S w .aD v:=c;cases c;exact aI.iq _ _ _ _
 | pK sz e f=>exact bf.one c
def Re:au->au->Prop
 | .row g sz n e f,.row a b c d h=>g=a/\sz=b/\n=c/\e=d/\∀i,i<n->gE (f i) (h i)
 | .dead,.dead=>True
 | _,_=>False
def cn:List au->List au->Prop
 | [],[]=>True
 | o::l,a::b=>Re o a/\cn l b
 | _,_=>False
theorem cn.len:∀{l a:List au},cn l a->l.length=a.length
 | [],[],_=>rfl
 | o::l,b::a,h=>by simp [cn.len h.2]
 | [],_::_,h=>h.elim
 | _::_,[],h=>h.elim
theorem cn.get:∀{l b:List au},cn l b->∀{j:Nat} {g sz n:Nat} {e:TypeId} {f:Nat->List PV},l[j]? =some (au.row g sz n e f)->∃a,b[j]? =some (au.row g sz n e a)/\∀i,i<n->gE (f i) (a i)
 | o::l,c::b,h,0,g,sz,n,e,f,hj=>by
  simp at hj;subst hj;cases c with
  | dead=>exact h.1.elim
  | row d k m p a=>
   obtain⟨rfl,rfl,rfl,rfl,hf⟩:=h.1;exact⟨a,rfl,hf⟩
 | o::l,c::b,h,j+1,g,sz,n,e,f,hj=>by
  simp at hj;obtain⟨a,h1,h2⟩:=cn.get h.2 hj;exact⟨a,by simpa using h1,h2⟩
 | [],[],_,_,_,_,_,_,_,hj=>by simp at hj
 | [],_::_,h,_,_,_,_,_,_,_=>h.elim
 | _::_,[],h,_,_,_,_,_,_,_=>h.elim
theorem cn.zJ:∀{l a:List au},cn l a->∀{j:Nat} {g sz n:Nat} {e:TypeId} {b:Nat->List PV},a[j]? =some (au.row g sz n e b)->∃f,l[j]? =some (au.row g sz n e f)/\∀i,i<n->gE (f i) (b i)
 | o::l,c::a,h,0,g,sz,n,e,b,hj=>by
  simp at hj;subst hj;cases o with
  | dead=>exact h.1.elim
  | row d k m p f=>
   obtain⟨rfl,rfl,rfl,rfl,hf⟩:=h.1;exact⟨f,rfl,hf⟩
 | o::l,c::a,h,j+1,g,sz,n,e,b,hj=>by
  simp at hj;obtain⟨f,h1,h2⟩:=cn.zJ h.2 hj;exact⟨f,by simpa using h1,h2⟩
 | [],[],_,_,_,_,_,_,_,hj=>by simp at hj
 | [],_::_,h,_,_,_,_,_,_,_=>h.elim
 | _::_,[],h,_,_,_,_,_,_,_=>h.elim
theorem cn.getD:∀{l a:List au},cn l a->∀{j:Nat},l[j]? =some au.dead->a[j]? =some au.dead
 | o::l,b::a,h,0,hj=>by
  simp at hj;subst hj;cases b with
  | dead=>rfl
  | row c d e f g=>exact h.1.elim
 | o::l,b::a,h,j+1,hj=>by
  simp at hj;simpa using cn.getD h.2 hj
 | [],[],_,_,hj=>by simp at hj
 | [],_::_,h,_,_=>h.elim
 | _::_,[],h,_,_=>h.elim
theorem cn.D5 {l c:List au} (h:cn l c) {id i j b:Nat} (d:bN c id i j b):bN l id i j b:=by
 obtain⟨g,sz,n,e,o,p,q,r,s,t,q1,q2,q3,q4⟩:=d;obtain⟨f,k,m⟩:=h.zJ q1;obtain⟨a,ha,hle⟩:=(m i q2).get q3;cases hle with
 | same=>exact⟨_,_,_,_,_,_,_,_,_,_,k,q2,ha,q4⟩
 | pK=>exact q4.elim
theorem cn.Kw {l a:List au} (h:cn l a) {μ:Mu} {b:Nat} (c:qD μ a b):qD μ l b:=by
 obtain⟨id,g,sz,n,e,f,base,h1,h2⟩:=c;obtain⟨d,i,_⟩:=h.zJ h1;exact⟨id,g,sz,n,e,d,base,i,h2⟩
theorem cn.oO {l c:List au} (h:cn l c) {μ:Mu} {b:Nat} (a:bA μ c b):bA μ l b:=by
 rcases a with a | ⟨id,i,j,a⟩
 ·exact .inl (h.Kw a)
 ·exact .inr ⟨id,i,j,h.D5 a⟩
theorem cn.hid {l a:List au} (h:cn l a) {id i j b:Nat} (d:bN l id i j b):bN a id i j b:=by
 obtain⟨g,sz,n,e,f,o,p,q,r,s,q1,q2,q3,q4⟩:=d;obtain⟨t,k,m⟩:=h.get q1;obtain⟨c,hc,hle⟩:=(m i q2).Kv q3;cases hle;exact⟨_,_,_,_,_,_,_,_,_,_,k,q2,hc,q4⟩
theorem cn.owned {l c:List au} (h:cn l c) {μ:Mu} {b:Nat} (a:bA μ l b):bA μ c b:=by
 rcases a with⟨id,g,sz,n,e,f,base,h1,h2⟩ | ⟨x,y,z,a⟩
 ·obtain⟨d,i,_⟩:=h.get h1;exact .inl ⟨id,g,sz,n,e,d,base,i,h2⟩
 ·exact .inr ⟨_,_,_,h.hid a⟩
theorem cn.own {l c:List au} (h:cn l c) {μ:Mu} {w:World} {id gen off len:Nat} {v:Value} (a:aN μ l w id gen off len v):aN μ c w id gen off len v:=by
 unfold aN at*;refine⟨a.1,?_⟩;have a:=a.2;cases b:l[id]? with
 | none=>rw[b]at a;exact a.elim
 | some o=>
  cases o with
  | dead=>rw[h.getD b];trivial
  | row g sz n e f=>
   obtain⟨d,h1,_⟩:=h.get b;rw[b]at a;rw[h1];exact a
theorem cn.aH {l c:List au} (h:cn l c) {μ:Mu} {id gen i off:Nat} {v:Value} {w:World} (a:bh μ l w id gen i off v):bh μ c w id gen i off v:=by
 unfold bh at*;refine⟨a.1,?_⟩;have a:=a.2;cases b:l[id]? with
 | none=>rw[b]at a;exact a.elim
 | some o=>
  cases o with
  | dead=>rw[h.getD b];trivial
  | row g sz n e f=>
   obtain⟨d,h1,_⟩:=h.get b;rw[b]at a;rw[h1];exact a
theorem Aw.D6 {a b:PV} (h:Aw a b) (ha:eA a=true):b=a:=by
 cases h with
 | same=>rfl
 | _=>cases ha
theorem gE.D6 {d e:PV} {l:List PV} (h:gE [d,e] l) (h1:eA d=true) (h2:eA e=true):l=[d,e]:=by
 rcases l with _ | ⟨a,_ | ⟨b,_ | ⟨c,l⟩⟩⟩
 ·exact h.elim
 ·exact h.2.elim
 ·rw[h.1.D6 h1,h.2.1.D6 h2]
 ·exact h.2.2.elim
theorem cn.gS {l c:List au} (h:cn l c) {μ:Mu} {w:World} {id:Nat} {v:Value} (a:cQ μ l w id v):cQ μ c w id v:=by
 unfold cQ at*;refine⟨a.1,?_⟩;have a:=a.2;cases b:l[id]? with
 | none=>rw[b]at a;exact a.elim
 | some o=>
  cases o with
  | dead=>rw[h.getD b];trivial
  | row g sz n e f=>
   obtain⟨d,h1,_⟩:=h.get b;rw[b]at a;rw[h1];exact a
theorem cn.jK {l a:List au} (h:cn l a) {μ:Mu} {w:World} {f:Nat} {bC:List (Nat×Nat)} {v:Value} (b:iQ μ l w f bC v):iQ μ a w f bC v:=kN.mono b (λid g u hu=>h.aH hu)
theorem cn.HO {l b:List au} (h:cn l b) {μ:Mu} {S:Nat->Prop} {w:World} {pv:PV} {v:Value} (a:bf μ l S w pv v):bf μ b S w pv v:=by
 cases pv with
 | own id gen off len=>exact h.own a
 | aH id gen i off=>exact h.aH a
 | gS id=>exact h.gS a
 | jK f bC=>exact h.jK a
 | _=>exact a
theorem cn.HP {l a:List au} (h:cn l a) {μ:Mu} {S:Nat->Prop} {w:World} {pv:PV} {v:Value} (b:gZ μ l S w pv v):gZ μ a S w pv v:=by
 cases pv with
 | aG sz n e f F=>exact b
 | _=>exact bf.k (h.HO (gZ.c b)) rfl
theorem Aw.HP {a b:PV} (h:Aw a b) {μ:Mu} {l:List au} {S:Nat->Prop} {w:World} {v:Value} (c:gZ μ l S w a v):gZ μ l S w b v:=by
 cases h with
 | same=>exact c
 | nil sz f=>
  have c:aI S w .aD v:=c;cases c;exact aI.iq _ _ _ _
 | pK sz e f=>
  have c:aI S w .aD v:=c;cases c;exact fK.nil _ _ _ _ (λ_ h=>h)
theorem cn.zI {l b:List au} (h:cn l b) {μ:Mu} {S:Nat->Prop} {w:World} {pv:PV} {v:Value} (a:dP μ l S w pv v):dP μ b S w pv v:=by
 cases pv with
 | own id gen off len=>exact h.own a
 | aH id gen i off=>exact h.aH a
 | gS id=>exact h.gS a
 | jK f bC=>exact h.jK a
 | agg cs=>
  obtain⟨vs,h1,h2,c⟩:=a;exact⟨vs,h1,h2,λj pv hj=>by obtain⟨u,hu,hc⟩:=c j pv hj;exact⟨u,hu,h.HO hc⟩⟩
 | _=>exact a
theorem cn.refl:∀(l:List au),cn l l
 | []=>trivial
 | .row g sz n e f::l=>⟨⟨rfl,rfl,rfl,rfl,λ_ _=>gE.refl _⟩,cn.refl l⟩
 | .dead::l=>⟨trivial,cn.refl l⟩
theorem cn.set:∀(l:List au) (id g sz n:Nat) (e:TypeId) (f a:Nat->List PV),(∀i,i<n->gE (f i) (a i))->cn (l.set id (.row g sz n e f)) (l.set id (.row g sz n e a))
 | [],_,_,_,_,_,_,_,_=>trivial
 | o::l,0,g,sz,n,e,f,a,hf=>⟨⟨rfl,rfl,rfl,rfl,hf⟩,cn.refl l⟩
 | o::l,id+1,g,sz,n,e,f,a,hf=>⟨by cases o;exact⟨rfl,rfl,rfl,rfl,λ_ _=>gE.refl _⟩;exact trivial,cn.set l id g sz n e f a hf⟩
theorem cn.snoc:∀(l:List au) (g sz n:Nat) (e:TypeId) (f a:Nat->List PV),(∀i,i<n->gE (f i) (a i))->cn (l++[.row g sz n e f]) (l++[.row g sz n e a])
 | [],g,sz,n,e,f,a,hf=>⟨⟨rfl,rfl,rfl,rfl,hf⟩,trivial⟩
 | o::l,g,sz,n,e,f,a,hf=>⟨by cases o;exact⟨rfl,rfl,rfl,rfl,λ_ _=>gE.refl _⟩;exact trivial,cn.snoc l g sz n e f a hf⟩
theorem cn.Ol {l b:List au} (h:cn l b) {μ:Mu} {S:Nat->Prop} {w:World} {pv:PV} {v:Value} (a:aX μ l S w pv v):aX μ b S w pv v:=by
 cases pv with
 | db d=>
  obtain⟨vs,h1,h2,c⟩:=a;exact⟨vs,h1,h2,λj pv hj=>by obtain⟨u,hu,hc⟩:=c j pv hj;exact⟨u,hu,h.zI hc⟩⟩
 | own id gen off len=>exact h.own a
 | aH id gen i off=>exact h.aH a
 | gS id=>exact h.gS a
 | jK f bC=>exact h.jK a
 | agg cs=>exact h.zI (pv:=.agg cs) a
 | _=>exact a
theorem cn.core {l m:List au} (he:cn l m) {μ:Mu} {S:Nat->Prop} {w:World} (hc:Core μ l S w):Core μ m S w:=by
 refine⟨λid g sz n e f hid=>?_,⟨λb hb=>hc.ok.apart b (he.oO hb),λb hb=>hc.ok.lt b (he.oO hb),hc.ok.slt,λi j g sz n e f u x y q r b o A hi hj h1 h=>?_,hc.ok.known,λb hb id i j hx=>hc.ok.hv b (he.Kw hb) id i j (he.D5 hx),λb _ _ _ _ _ _ hx hy=>hc.ok.hh b _ _ _ _ _ _ (he.D5 hx) (he.D5 hy)⟩⟩
 ·obtain⟨r,h1,h⟩:=he.zJ hid;obtain⟨q1,q2⟩:=hc.heap id g sz n e r h1;refine⟨λi hi=>by rw[(h i hi).len];exact q1 i hi,?_⟩;cases hm:μ id with
  | none=>rw[hm]at q2;exact q2
  | some p=>
   obtain⟨b,base⟩:=p;rw[hm]at q2;obtain⟨o,B,d⟩:=q2;refine⟨o,B,?_⟩;cases o with
   | cells cur q z=>
    obtain⟨d,k,C,D⟩:=d;refine⟨d,k,C,λi j pv hi hj=>?_⟩;obtain⟨a,ha,hle⟩:=(h i hi).get hj;obtain⟨v,hv,E⟩:=D i j a hi ha;exact⟨v,hv,he.HP (hle.HP E)⟩
   | map es c=>
    obtain⟨d,k⟩:=d;refine⟨d,λi hi=>?_⟩;obtain⟨F,G,en,H,s,t,I⟩:=k i hi;have hle:=h i hi;rw[H]at hle;exact⟨F,G,en,hle.D6 s t,s,t,I⟩
   | _=>exact d.elim
 ·obtain⟨fi,q1,_⟩:=he.zJ hi;obtain⟨fj,q2,_⟩:=he.zJ hj;exact hc.ok.inj i j g sz n e fi u x y q fj b o A q1 q2 h1 h
theorem cn.fr {l h:List au} (he:cn l h) {μ0 μ:Mu} {h0:List au} {S0 S:Nat->Prop} {i w:World} (a:Fr μ0 h0 S0 i μ l S w):Fr μ0 h0 S0 i μ h S w:=by
 refine⟨by rw[<-he.len];exact a.len,a.blocks,a.sub,a.new,λb hb=>a.own b (he.oO hb),a.size,a.os,a.tape,a.output,λid g sz n e f hid=>?_,λid hid=>he.getD (a.dead id hid),a.bC,λid g sz n e f b base hj hm fe=>?_,a.me⟩;rotate_left
 ·obtain⟨j,c⟩:=a.maps id g sz n e f b base hj hm fe;refine⟨j,?_⟩;rcases c with c | ⟨⟨k,m,p,q,r,c⟩,s⟩
  ·exact .inl (he.getD c)
  ·obtain⟨t,h1,_⟩:=he.get c;exact .inr ⟨⟨_,_,_,_,_,h1⟩,s⟩
 have hg:=a.qE id g sz n e f hid;cases d:l[id]? with
 | none=>rw[d]at hg;exact hg.elim
 | some o=>
  cases o with
  | dead=>rw[he.getD d];trivial
  | row k m p q r=>
   obtain⟨t,h1,_⟩:=he.get d;rw[d]at hg;rw[h1];exact hg
section
variable {P:Program}{T:ij}{μ:Mu}{h:List au}{S:Nat->Prop}{w:World}
def cC (P:Program) (o:Oper) (a:Act) (μ:Mu) (h:List au) (S:Nat->Prop) (w:World) (K:PV->List au->Prop):Prop:=
 ∀(next:Act->World->Prop) (Q:Exit->Act->World->Prop),
  (∀v val h' μ' S' w',K v h'->aX μ' h' S' w' v val->Core μ' h' S' w'->Fr μ h S w μ' h' S' w'->next (a.put o.dst val) w')->o.wp P a w next Q
theorem cC.rows {o:Oper} {a:Act} {K:PV->List au->Prop} (b:cC P o a μ h S w (λv h1=>∃h2,cn h1 h2/\K v h2)):cC P o a μ h S w K:=by
 intro next Q c
 refine b next Q λv val h' μ' S' w' ⟨h2,he,d⟩ hv hc hf=>?_
 exact c v val h2 μ' S' w' d (he.Ol hv) (he.core hc) (he.fr hf)
theorem cC.jU {o:Oper} {a:Act} {K:PV->List au->Prop} (hc:Core μ h S w) (hs:cb P o a μ h S w (λv=>K v h)):cC P o a μ h S w K:=by
 obtain⟨v,val,b,hv,c⟩:=hs;intro next Q d
 unfold Oper.wp;rw[c w (bg.refl w)];exact d v val h μ S w b hv hc Fr.refl
theorem cC.cK {o:Oper} {a:Act} {K:PV->List au->Prop} {v:PV} {val:Value} {h':List au} {μ':Mu} {S':Nat->Prop} {w':World} (b:(execOp a.eval o).run P w=.ok (.value val) w') (c:K v h') (hv:aX μ' h' S' w' v val)
  (hc:Core μ' h' S' w') (hf:Fr μ h S w μ' h' S' w'):cC P o a μ h S w K:=by
 intro next Q d
 unfold Oper.wp;rw[b];exact d v val h' μ' S' w' c hv hc hf
theorem cC.yC {o:Oper} {a:Act} {K:PV->List au->Prop} {h':List au} {μ':Mu} {S':Nat->Prop} {w':World} (b:(execOp a.eval o).run P w=.ok .skip w') (c:K .dA h')
  (hc:Core μ' h' S' w') (hf:Fr μ h S w μ' h' S' w'):cC P o a μ h S w K:=by
 intro next Q d
 unfold Oper.wp;rw[b];exact d .dA undef h' μ' S' w' c trivial hc hf
theorem D7 (c:bR P T) {t:Nat} {n:Nat} (a:fh (T.get t)=n) (d:0<n):∃i,P.info? t=some i/\i.size=n:=by
 cases b:T.get t with
 | struct sz fl z=>
  obtain⟨fs,i,_,hi,dp,_⟩:=c.struct _ _ _ _ b;rw[b]at a;exact⟨i,hi,dp.trans a⟩
 | other=>rw[b]at a;simp [fh]at a;omega
 | _=>
  rw[b]at a;have h1:n=1:=a.symm;subst h1;refine c.one t ?_ ?_
  ·rw[b];rfl
  ·intro sz fl z hh;rw[b]at hh;cases hh
variable {a:Act}{env:Env}{K:PV->List au->Prop}{dst:Option Tmp}{ty:TypeId}{pos:String}{after:Array Edge}{guard:Option (Nat×Bool)}
theorem km (cur vs:List Value) (o q:Nat) (a:o+vs.length<=cur.length):
  (cur.take o++vs++cur.drop (o+vs.length))[q]? =if o<=q/\q<o+vs.length then vs[q - o]? else cur[q]?:=by
 have h1:(cur.take o).length=o:=by simp;omega
 by_cases ha:q<o
 ·rw[Is UN,SY,SR UN,TK,An ha]
 ·by_cases hb:q<o+vs.length
  ·rw[An ⟨by omega,hb⟩,SR US,SP UN,h1]
  ·rw[Is UN,SP US,Tp];congr 1;simp;omega
theorem vm (N:bR P T) (hc:Core μ h S w) (z:∀t,aX μ h S w (env t) (a.tmps.getD t undef)) (t:Nat) (m x:Operand) (hp:pop P T (.store t m x) env h K):
  cC P ⟨dst,.store t m x,ty,pos,after,guard⟩ a μ h S w K:=by
 have hx:=bp z x;have A:=bp z m;simp only[pop]at hp;split at hp
 ·rename_i id gen i off O;rw[O]at A;split at hp
  ·rename_i g sz n e f hg;obtain⟨rfl,hp⟩:=hp;replace hp:=aT (bm hp);obtain⟨B,r⟩:=hp;simp only[so]at B;obtain⟨⟨⟨C,o⟩,s⟩,hle⟩:=B;have o:=SI o;have s:=No s;have hle:=SI hle;have hh:=ca hg;have c:=A.la;unfold bh at c;rw[hh]at c;obtain⟨_,_,c⟩:=c;obtain⟨D,b,base,p,E,Q⟩:=c rfl;obtain⟨l,F⟩:=hc.heap id g sz n e f hh;rw[p]at F;obtain⟨cur,y,kk,G⟩:=bu.cells E.1 F;obtain⟨R,H⟩:=gu C hx;have I:∀(j:Nat) (pv:PV),(cellsOf (ev env x))[j]? =some pv->cg pv=false:=λj pv hj=>xl C hj;generalize wq:cellsOf (ev env x)=cs at*;generalize J:(a.eval x).cells.toList=vs at*;have o:0<cs.length:=by omega
   obtain⟨inf,U,V⟩:=D7 N s o;have hmul:(i+1)*sz<=n*sz:=SC _ D;rw[SD]at hmul
   have L:(storeCells ⟨b,base+i*sz+off,none⟩ vs 0).run P w=.ok () (w.setRow b (cur.toList.take (base+i*sz+off+0)++vs++cur.toList.drop (base+i*sz+off+0+vs.length)).toArray):=
    run_storeCells_at P b (base+i*sz+off) e vs 0 cur w y UN (λv hv=>by
     obtain⟨j,hj,rfl⟩:=Tb.1 hv;have W:j<cs.length:=by omega
     obtain⟨u,hu,c⟩:=H j cs[j] (As W);rw[As hj]at hu;injection hu with hu;rw[hu];exact c.one)
   rw[Td]at L
   have q:∀k,(ax f i (bY (f i) off cs) k)=if k=i then bY (f i) off cs else f k:=λk=>by
    unfold ax;by_cases hk:k=i
    ·subst hk;simp
    ·have:Nat.beq k i=false:=by
      cases hb:Nat.beq k i with
      | true=>exact(hk (No hb)).elim
      | false=>rfl
     simp [this,hk]
   have X:=core_set (w1:=w.setRow b (cur.toList.take (base+i*sz+off)++vs++cur.toList.drop (base+i*sz+off+vs.length)).toArray) hc id g g sz n n e f (ax f i (bY (f i) off cs)) hh b base
    (cur.toList.take (base+i*sz+off)++vs++cur.toList.drop (base+i*sz+off+vs.length)).toArray (Sv _) (λ_=>⟨p,rfl⟩)
    (.inr ⟨base,cur,p,y,by simp;omega⟩) (setRow_heap w b cur _ e _ y) US
    (λM _ Y=>setRow_other w b M _ Y) UQ rfl rfl rfl
    (λk hk=>by
     rw[q];split
     ·rename_i d;subst d;rw[gr];exact l _ hk
     ·exact l k hk)
    (λM fT pQ=>by rw[p]at pQ;injection pQ with pQ;injection pQ with h1 _;subst h1;exact E.1.qC)
    (λk j pv hk hj=>by
     have wx:j<sz:=by
      have h1:=(an.1 hj).1;rw[q]at h1;split at h1
      ·rw[gr,l i D]at h1;exact h1
      ·rw[l k hk]at h1;exact h1
     have Z:(cur.toList.take (base+i*sz+off)++vs++cur.toList.drop (base+i*sz+off+vs.length)).toArray[base+k*sz+j]? =if base+i*sz+off<=base+k*sz+j/\base+k*sz+j<base+i*sz+off+vs.length then vs[base+k*sz+j - (base+i*sz+off)]? else cur[base+k*sz+j]?:=by
      have HQ:=km cur.toList vs (base+i*sz+off) (base+k*sz+j) US;rw[TC,HQ];simp only[SQ]
     rw[Z];rw[q]at hj;by_cases d:k=i
     ·subst d;rw[An rfl,jm cs (f k) off j (by rw[l k hk];exact hle)]at hj;by_cases c:off<=j/\j<off+cs.length
      ·rw[An c]at hj;rw[An UN];obtain⟨u,hu,gK⟩:=H _ _ hj;exact⟨u,by rw[<-hu];congr 1;omega,gK.k (I _ _ hj)⟩
      ·rw[Is c]at hj;rw[Is UN];exact G k j pv hk hj
     ·rw[Is d]at hj
      have tX:¬(base+i*sz+off<=base+k*sz+j/\base+k*sz+j<base+i*sz+off+vs.length):=by
       rcases Nat.lt_or_gt_of_ne d with bb | sq
       ·have:(k+1)*sz<=i*sz:=SC _ bb;rw[SD]at this;omega
       ·have:(i+1)*sz<=k*sz:=SC _ sq;rw[SD]at this;omega
      rw[Is tX];exact G k j pv hk hj) 0 (λk j a8 n' e' f' F' hk hj=>by
    rw[Sx];refine⟨hk,?_⟩;rw[q]at hj;by_cases d:k=i
    ·subst d;rw[An rfl,jm cs (f k) off j (by rw[l k hk];exact hle)]at hj;by_cases c:off<=j/\j<off+cs.length
     ·rw[An c]at hj;have:=I _ _ hj;cases this
     ·rw[Is c]at hj;exact hj
    ·rw[Is d]at hj;exact hj)
   obtain⟨dt,iB⟩:=X;obtain⟨_,f',rfl,rF,r⟩:=r;refine cC.rows (cC.yC ?_ ⟨_,cn.set _ _ _ _ _ _ _ _ rF,r⟩ iB dt);have e1:(execOp a.eval ⟨dst,.store t m x,ty,pos,after,guard⟩)=(do Instr.storeAt t (a.eval m) (a.eval x);pure .skip:Sem Next):=rfl;rw[e1,Q]
   have dp:¬(a.eval x).cells.size≠inf.size:=by
    rw[V];simp only[ne_eq,Decidable.not_not];rw[<-R,<-J];simp
   simp only[Instr.storeAt,Instr.sureAddr,storeVar,Sem.run_bind,Sem.run_pure,Result.andThen,fD U,Is dp,J,L]
  ·exact Uq
 ·exact Uq
theorem rR (z:Array Value) (n q:Nat) (hq:q<n) (a:0<z.size):(madeCells z n)[q]? =z[q % z.size]?:=by
 have h1:q % z.size<z.size:=Nat.mod_lt _ a;simp [madeCells,hq,h1]
theorem D9 (i j sz:Nat) (hj:j<sz):(i*sz+j) % sz=j:=by
 rw[Nat.mul_comm,Nat.mul_add_mod];exact Nat.mod_eq_of_lt hj
theorem fU (w:World) (o:Obj):bg w (w.alloc o):=
 ⟨λb hb=>Below.heap_alloc w o b hb,by simp,rfl,rfl,rfl⟩
theorem xp (s:bR P T) (hc:Core μ h S w) (o:∀t,aX μ h S w (env t) (a.tmps.getD t undef)) (t:Nat) (l c:Operand) (hp:pop P T (.makeSlice t l c) env h K):
  cC P ⟨dst,.makeSlice t l c,ty,pos,after,guard⟩ a μ h S w K:=by
 have p:=bp o l;have cr:=bp o c;simp only[pop]at hp;split at hp
 ·rename_i e sz bytes zero k n u m v x y;rw[x]at p;rw[y]at cr;obtain⟨⟨h0,h1,h2,R⟩,_,U,rfl,z,A⟩:=hp;obtain⟨hu,dp,inf,d,B,C,D,E,F,q,r⟩:=s.slice _ _ _ _ _ v;subst C D
  have hm:(inf.bytes:Int)*m<=281474976710656:=by
   have G:(m.toNat:Int)=m:=Int.toNat_of_nonneg UN;have H:((m.toNat*inf.bytes:Nat):Int)<=140737488355328:=by omega
   rw[Int.natCast_mul,G,Int.mul_comm]at H;omega
  have I:=run_make (P:=P) w t e inf d hu B E k u n m h0 h1 hm UN
  have J:=iP (w1:=w.alloc (.cells (madeCells d.cells (m.toNat*inf.size)) e)) hc inf.size n.toNat e (λ_=>zero) (some (w.heap.size,0))
   ⟨Sv _,_,heap_alloc_new w _,by
    rw[size_madeCells,Sx];exact SC _ UN,λi j pv hi hj=>by
    have L:j<inf.size:=by rw[<-q];exact(an.1 hj).1
    have M:0+i*inf.size+j<m.toNat*inf.size:=by
     have:(i+1)*inf.size<=m.toNat*inf.size:=SC _ UN;rw[SD]at this;omega
    rw[rR _ _ _ M UN,Sx,F,D9 i j _ L];have f:j<d.cells.size:=by omega
    obtain⟨N,b,_,g⟩:=r j d.cells[j] (SO f);rw[hj]at b;injection b with b;subst b;exact⟨_,SO f,bf.eX (g S w)⟩⟩ (fU w _) (λi hi=>q) (λi j pv _ hj=>by
  have f:j<d.cells.size:=by have:=(an.1 hj).1;omega
  obtain⟨N,b,_,g⟩:=r j d.cells[j] (SO f);rw[hj]at b;injection b with b;rw[b];exact aI.no (g S w))
  obtain⟨O,Q⟩:=J;refine cC.rows (cC.cK (bQ rfl (by rw[p.eW,cr.eW];exact I)) ⟨_,cn.snoc _ _ _ _ _ _ _ z,A⟩ ?_ Q O);show aN _ _ _ _ _ _ _ _;unfold aN;rw[SP (Sv _),Tm];refine⟨⟨_,_,_,rfl⟩,Sv _,λ_=>⟨by omega,?_⟩⟩;rw[aJ];refine⟨_,m.toNat,rfl,by omega,λ_=>by simp,_,e,_,heap_alloc_new w _,?_⟩;rw[size_madeCells];simp
 ·exact Uq
theorem vn (sz len:Nat) (place:Nat->Option (Nat×Nat)) (f:∀i,place i=some (i*sz,sz)):∀(l:List (Nat×Operand)) (ρ:Operand->Value) (k:Nat) (cells:Array Value),pt len k l=true->cells.size=len*sz->
  (∀p∈l,(ρ p.2).cells.size=sz)->
  ∃d,Instr.fill place cells (l.map λp=>(p.1,ρ p.2))=some d/\d.size=len*sz/\(∀q,q<k*sz->d[q]? =cells[q]?)/\
   ∀(i j:Nat) (p:Nat×Operand),l[i]? =some p->j<sz->d[(k+i)*sz+j]? =(ρ p.2).cells[j]?
 | [],ρ,k,cells,hi,hs,_=>⟨cells,rfl,hs,λ_ _=>rfl,λi j p hp=>by simp at hp⟩
 | (c,x)::r,ρ,k,cells,hi,hs,hv=>by
  simp only[pt,so]at hi;have n:=No hi.1;subst n
  have hlen:∀(l:List (Nat×Operand)) (k:Nat),pt len k l=true->k<=len:=by
   intro l;induction l with
   | nil=>intro k h;exact T6 (No h)
   | cons p l o=>
    intro k h;obtain⟨a,b⟩:=p;simp only[pt,so]at h;have:=o (k+1) h.2;omega
  have hk:=hlen r (c+1) hi.2;have e:=hv (c,x) UQ;have s:(c+1)*sz<=len*sz:=SC _ hk;have t:=s;rw[SD]at t;obtain⟨u,g⟩:=kH (ρ x) (c*sz) cells (by rw[e];omega);obtain⟨d,h1,h2,m,h4⟩:=vn sz len place f r ρ (c+1) _ hi.2 (u.trans hs) (λp hp=>hv p (by simp [hp]));refine⟨d,?_,h2,λq hq=>?_,λi j p hp hj=>?_⟩
  ·simp only[SE,Instr.fill,f];rw[Is (by simp only[e,ne_eq,not_true_eq_false,false_or];simp only[Th,Tc,not_or];simp;omega)];exact h1
  ·rw[m q (by rw[SD];omega),g q,Is UN]
  ·cases i with
   | zero=>
    simp at hp;subst hp;rw[Td,m _ (by rw[SD];omega),g,e,An UN];congr 1;omega
   | succ i=>
    simp at hp;have:=h4 i j p hp hj;rw[show c+1+i=c+(i+1)from by omega]at this;exact this
theorem oP (C:bR P T) (hc:Core μ h S w) (D:∀t,aX μ h S w (env t) (a.tmps.getD t undef)) (t len:Nat) (parts:Array (Nat×Operand)) (hp:pop P T (.buildSlice t len parts) env h K):
  cC P ⟨dst,.buildSlice t len parts,ty,pos,after,guard⟩ a μ h S w K:=by
 simp only[pop]at hp;split at hp
 ·rename_i e sz bytes zero E;replace hp:=aT hp;obtain⟨v,b⟩:=hp;obtain⟨hu,dp,inf,f,n,F,X,G,Y,Z,Au⟩:=C.slice _ _ _ _ _ E;subst F;simp only[so]at v;obtain⟨z,hle⟩:=v;have hle:=SI hle;obtain⟨A,b⟩:=pz _ _ b;simp only[T1,Tq]at b
  have o:∀p∈parts.toList,(a.eval p.2).cells.size=inf.size/\(cellsOf (ev env p.2)).length=inf.size/\
    ∀(j:Nat) (q:PV),(cellsOf (ev env p.2))[j]? =some q->∃u,(a.eval p.2).cells[j]? =some u/\bf μ h S w q u:=λp hp=>by
   obtain⟨h1,h2⟩:=A p hp;have h2:=No h2;obtain⟨B,h4⟩:=gu h1 (bp D p.2);simp only[S8,SQ]at B h4;exact⟨B.trans h2,h2,h4⟩
  obtain⟨g,H,f2,_,I⟩:=vn inf.size len (λi=>some (i*inf.size,inf.size)) (λ_=>rfl) parts.toList a.eval 0
   ((Array.range (len*inf.size)).map (λq=>(if len*inf.size=0 then #[]else f.cells)[q % (if len*inf.size=0 then #[]else f.cells).size]!)) z UQ (λp hp=>(o p hp).1)
  have hlen:parts.toList.length=len:=by
   have key:∀(l:List (Nat×Operand)) (k:Nat),pt len k l=true->k+l.length=len:=by
    intro l;induction l with
    | nil=>intro k hh;exact No hh
    | cons p l J=>
     intro k hh;obtain⟨x,y⟩:=p;simp only[pt,so]at hh;have:=J (k+1) hh.2;simp only[SA];omega
   have:=key parts.toList 0 z;omega
  have bG:∀i,i<len->∃p,parts.toList[i]? =some p/\p∈parts.toList/\(parts.toList.map λp=>cellsOf (ev env p.2)).getD i []=cellsOf (ev env p.2):=λi hi=>by
   have r:i<parts.toList.length:=by omega
   refine⟨parts.toList[i],As r,SM r,?_⟩;rw[Sz,SL,As r];rfl
  have L:=iP (w1:=w.alloc (.cells g e)) hc inf.size len e (λk=>(parts.toList.map λp=>cellsOf (ev env p.2)).getD k []) (some (w.heap.size,0))
   ⟨Sv _,g,heap_alloc_new w _,by omega,λi j pv hi hj=>by
    obtain⟨p,s,c,d⟩:=bG i hi;rw[d]at hj;obtain⟨_,q2,q3⟩:=o p c;have M:j<inf.size:=by rw[<-q2];exact(an.1 hj).1
    have:=I i j p s M;rw[Sx]at this;obtain⟨u,N,O⟩:=q3 j pv hj;exact⟨u,by rw[<-N,<-this,Sx],O⟩⟩ (fU w _)
   (λi hi=>by
    obtain⟨p,s,c,d⟩:=bG i hi;rw[d];exact(o p c).2.1) (λi j pv hi hj=>by
    obtain⟨p,s,c,d⟩:=bG i hi;rw[d]at hj;exact xl (A p c).1 hj)
  obtain⟨Q,R⟩:=L;obtain⟨f',U,b⟩:=b;refine cC.rows (cC.cK (val:=.slice (some ⟨w.heap.size,0,none⟩) len len) (bQ rfl ?_) ⟨_,cn.snoc _ _ _ _ _ _ _ U,b⟩ ?_ R Q)
  ·have V:(parts.map λp=>(p.1,a.eval p.2)).toList=parts.toList.map λp=>(p.1,a.eval p.2):=by simp
   have W:¬(16777216<len*inf.size):=by omega
   have m:Instr.fill (λi=>some (i*inf.size,inf.size)) (Array.map (λx=>(if len*inf.size=0 then #[]else f.cells)[x % (if len*inf.size=0 then #[]else f.cells).size]!) (Array.range (len*inf.size))) (parts.map λp=>(p.1,a.eval p.2)).toList=some g:=by
    rw[V];exact H
   by_cases h0:len*inf.size=0
   ·simp [h0]at m;simp only[Instr.buildSlice,Sem.run_bind,run_underlying hu,Result.andThen,fD n];simp [h0,newRow];rw[m];rfl
   ·simp [h0]at m;simp only[Instr.buildSlice,Sem.run_bind,run_underlying hu,Result.andThen,fD n];simp [h0,W,newRow,zeroValue,typeInfo,n,G];rw[m];rfl
  ·show aN _ _ _ _ _ _ _ _;unfold aN;rw[SP (Sv _),Tm];refine⟨⟨_,_,_,rfl⟩,Sv _,λ_=>⟨by omega,?_⟩⟩;rw[aJ];exact⟨_,len,rfl,Sv _,λ_=>by simp,g,e,_,heap_alloc_new w _,by rw[Sx,Sx];omega⟩
 ·exact Uq
theorem zL (hc:Core μ h S w) (d:∀t,aX μ h S w (env t) (a.tmps.getD t undef)) (t:Nat) (x:Operand) (hp:pop P T (.box t x) env h K):
  cC P ⟨dst,.box t x,ty,pos,after,guard⟩ a μ h S w K:=by
 simp only[pop]at hp;replace hp:=aT (bm hp);obtain⟨b,e⟩:=hp;simp only[so]at b;obtain⟨c,hlen⟩:=b;have hlen:=No hlen;obtain⟨f,h4⟩:=gu c (bp d x);simp only[S8,SQ]at f h4
 have g:=iP (w1:=w.alloc (.cells (a.eval x).cells t)) hc (fh (T.get t)) 1 t (λ_=>cellsOf (ev env x)) (some (w.heap.size,0))
  ⟨Sv _,_,heap_alloc_new w _,by omega,λi j pv hi hj=>by
   obtain⟨u,hu,k⟩:=h4 j pv hj;have:i=0:=by omega
   subst this;exact⟨u,by rw[<-hu];congr 1;omega,k⟩⟩ (fU w _) (λi hi=>hlen) (λi j pv _ hj=>xl c hj)
 obtain⟨l,m⟩:=g;refine cC.cK (val:=.pointer (some ⟨w.heap.size,0,none⟩)) (bQ rfl ?_) e ?_ m l
 ·simp [Instr.box,newVar,newRow]
 ·show bh _ _ _ _ _ _ _ _;unfold bh;rw[SP (Sv _),Tm];refine⟨⟨_,rfl⟩,Sv _,λ_=>⟨by omega,w.heap.size,0,aJ _ _ _,⟨⟨_,_,_,heap_alloc_new w _,TQ _⟩,λ_=>rfl⟩,?_⟩⟩;simp
theorem vo (g:bR P T) (hc:Core μ h S w) (t:Nat) (hp:pop P T (.alloc t) env h K):
  cC P ⟨dst,.alloc t,ty,pos,after,guard⟩ a μ h S w K:=by
 simp only[pop]at hp;split at hp
 ·rename_i z k;obtain⟨i,c,hi,l,r,m,f⟩:=g.zero t z k;generalize dp:fh (T.get t)=sz at*
  have n:=iP (w1:=w.alloc (.cells c.cells t)) hc sz 1 t (λ_=>z) (some (w.heap.size,0))
   ⟨Sv _,_,heap_alloc_new w _,by omega,λi j pv hi hj=>by
    have d:j<c.cells.size:=by
     have:=(an.1 hj).1;omega
    obtain⟨o,b,_,e⟩:=f j c.cells[j] (SO d);rw[hj]at b;injection b with b;subst b;have:i=0:=by omega
    subst this;exact⟨_,by rw[<-SO d];congr 1;omega,bf.eX (e S w)⟩⟩ (fU w _) (λi hi=>m) (λi j pv _ hj=>by
  have d:j<c.cells.size:=by have:=(an.1 hj).1;omega
  obtain⟨o,b,_,e⟩:=f j c.cells[j] (SO d);rw[hj]at b;injection b with b;rw[b];exact aI.no (e S w))
  obtain⟨p,q⟩:=n;refine cC.cK (val:=.pointer (some ⟨w.heap.size,0,none⟩)) (bQ rfl ?_) hp ?_ q p
  ·simp [Instr.alloc,zeroValue,typeInfo,hi,l,newVar,newRow]
  ·show bh _ _ _ _ _ _ _ _;unfold bh;rw[SP (Sv _),Tm];refine⟨⟨_,rfl⟩,Sv _,λ_=>⟨by omega,w.heap.size,0,aJ _ _ _,⟨⟨_,_,_,heap_alloc_new w _,TQ _⟩,λ_=>rfl⟩,?_⟩⟩;simp
 ·exact Uq
end
end Go.Am
