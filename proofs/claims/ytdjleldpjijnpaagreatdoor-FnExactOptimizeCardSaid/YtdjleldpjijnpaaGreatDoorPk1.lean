/- Texts of the proof, joined and shortened. -/
import Derived.Test.YtdjleldpjijnpaaGreatDoorPk0
import Derived.WalkLawsBesides
set_option linter.unusedVariables false
set_option linter.unusedSimpArgs false
namespace Go.Am
open Go Go.RowKit
def DX:TypeDesc->Bool
 | .struct _=>true
 | .array _ _=>true
 | _=>false
def kj (P:Program):Nat->List Field->List PV->Bool
 | _,[],[]=>true
 | n,f::r,.int k _::z=>f.name != "_" &&Nat.beq f.offset n&&(match P.underlying f.type with | some (.int a)=>rN k a | _=>false)&&kj P (n+1) r z
 | n,f::r,.bool _::z=>f.name != "_" &&Nat.beq f.offset n&&(match P.underlying f.type with | some .bool=>true | _=>false)&&kj P (n+1) r z
 | n,f::r,.str _::z=>f.name != "_" &&Nat.beq f.offset n&&(match P.underlying f.type with | some .string=>true | _=>false)&&kj P (n+1) r z
 | _,_,_=>false
def Iq (P:Program) (t:Nat) (z:List PV):Bool:=match P.underlying t with
 | some (.struct fs)=>!(P.stoodInHeld t)&&!(P.eqGuardType P.depth t)&&kj P 0 fs.toList z
 | _=>false
structure da (P:Program) (T:rO):Prop where
 flat:∀t sz fl z,T.get t=.struct sz fl z->BP z=true->Iq P t z=true
 int:∀t k,T.get t=.int k->P.underlying t=some (.int k)
 bool:∀t,T.get t=.bool->P.underlying t=some .bool
 str:∀t,T.get t=.str->P.underlying t=some .string
 ptr:∀t e,T.get t=.ptr e->P.underlying t=some (.pointer e)
 slice:∀t e sz S4 z,T.get t=.slice e sz S4 z->P.underlying t=some (.slice e)/\0<sz/\∃i zv,P.info? e=some i/\i.size=sz/\i.bytes=S4/\i.zero=some zv/\zv.cells.size=sz/\z.length=sz/\
  ∀(j:Nat) (u:Value),zv.cells[j]? =some u->∃pv:PV,z[j]? =some pv/\u.oneCell'=true/\∀S w,aR S w pv u
 map:∀t k e z,T.get t=.map k e z->P.underlying t=some (.map k e)/\∃i zv,P.info? e=some i/\i.zero=some zv/\tF z zv/\kO z=true/\storable z=true
 bytes:∀t e sz S4 z,T.get t=.slice e sz S4 z->0<S4
 one:∀t,mi (T.get t)=1->(∀sz fl z,T.get t≠.struct sz fl z)->∃i,P.info? t=some i/\i.size=1
 zero:∀t z,DY (T.get t)=some z->∃i zv,P.info? t=some i/\i.zero=some zv/\zv.cells.size=mi (T.get t)/\z.length=mi (T.get t)/\
  ∀(j:Nat) (u:Value),zv.cells[j]? =some u->∃pv:PV,z[j]? =some pv/\u.oneCell'=true/\∀S w,aR S w pv u
 struct:∀t sz fl z,T.get t=.struct sz fl z->∃fs i,P.underlying t=some (.struct fs)/\P.info? t=some i/\i.size=sz/\fl.length=fs.size/\
  (∃zv,i.zero=some zv/\zv.cells.size=sz/\z.length=sz/\∀(j:Nat) (u:Value),zv.cells[j]? =some u->∃pv:PV,z[j]? =some pv/\u.oneCell'=true/\∀S w,aR S w pv u)/\
  ∀(k:Nat) (off size:Nat) (ag:Bool),fl[k]? =some (off,size,ag)->∃f j d,fs[k]? =some f/\f.offset=off/\P.info? f.type=some j/\j.size=size/\0<size/\
   P.underlying f.type=some d/\ag=DX d
section
variable {P:Program}{T:rO}{μ:Mu}{h:List al}{S:Nat->Prop}{w:World}
theorem bz.lZ {k:IntKind} {n:Int} {v:Value} (hv:bz μ h S w (.int k n) v):v=.int k n:=by
 have hv:aR S w (.int k n) v:=hv;cases hv;rfl
theorem bz.nQ {b:Bool} {v:Value} (hv:bz μ h S w (.bool b) v):v=.bool b:=by
 have hv:aR S w (.bool b) v:=hv;cases hv;rfl
theorem bz.oI {s:List UInt8} {v:Value} (hv:bz μ h S w (.str s) v):v=.string ⟨⟨s⟩⟩:=by
 have hv:aR S w (.str s) v:=hv;cases hv;rfl
theorem bz.rP {v:Value} (hv:bz μ h S w .az v):v=.slice none 0 0:=by
 have hv:aR S w .az v:=hv;cases hv;rfl
theorem bz.S5 {f:Nat} {v:Value} (hv:bz μ h S w (.fn f) v):v=.func (.func f) #[] #[]:=by
 have hv:aR S w (.fn f) v:=hv;cases hv;rfl
theorem bz.xz {sz n:Nat} {f:Nat->List PV} {v:Value} (hv:bz μ h S w (.fF sz n f) v):
  (∃a c,v=.slice a n c/\n=0)\/∃(b off c:Nat) (d:Nat->Nat->Value),v=.slice (some ⟨b,off,none⟩) n c/\S b/\(∀i,i<n->(f i).length=sz)/\n<=c/\
   (∀(i j:Nat) (pv:PV),i<n->(f i)[j]? =some pv->w.cell? ⟨b,off+i*sz+j,none⟩=some (d i j))/\(∀(i j:Nat) (pv:PV),i<n->(f i)[j]? =some pv->aR S w pv (d i j)):=by
 have hv:aR S w (.fF sz n f) v:=hv;cases hv with
 | qH _ _ a c=>exact .inl ⟨a,c,rfl,rfl⟩
 | fF _ _ _ b off c d h1 h2 h3 h4 h5=>exact .inr ⟨b,off,c,d,rfl,h1,h2,h3,h4,h5⟩
theorem bz.zR {cs:List PV} {v:Value} (hv:bz μ h S w (.fC cs) v):
  ∃(b off:Nat) (a:Nat->Value),v=.pointer (some ⟨b,off,none⟩)/\S b/\(∀(j:Nat) (pv:PV),cs[j]? =some pv->w.cell? ⟨b,off+j,none⟩=some (a j))/\(∀(j:Nat) (pv:PV),cs[j]? =some pv->aR S w pv (a j)):=by
 have hv:aR S w (.fC cs) v:=hv;cases hv with
 | fC _ b off a h1 h4 h5=>exact⟨b,off,a,rfl,h1,h4,h5⟩
theorem S6 {v:Value} {p:PV} (h:aax v=some p):aR S w p v:=by
 cases v with
 | int k n=>cases h;exact aR.int k n
 | bool b=>cases h;exact aR.bool b
 | string s=>
  obtain⟨⟨l⟩⟩:=s;cases h;exact aR.str l
 | slice a n c=>
  cases a with
  | none=>
   cases n with
   | zero=>
    cases c with
    | zero=>cases h;exact aR.az
    | succ c=>cases h
   | succ n=>cases h
  | some a=>cases h
 | pointer a=>
  cases a with
  | none=>cases h;exact aR.iH
  | some a=>cases h
 | _=>cases h
theorem KH:∀{vs:List Value} {l:List PV},PS vs=some l->vs.length=l.length/\∀(j:Nat) (pv:PV),l[j]? =some pv->∃u,vs[j]? =some u/\aR S w pv u
 | [],l,h=>by
  cases h;exact⟨rfl,λj pv hj=>by simp at hj⟩
 | v::r,l,h=>by
  unfold PS at h;cases h1:aax v with
  | none=>rw[h1]at h;cases h
  | some p=>
   cases h2:PS r with
   | none=>rw[h1,h2]at h;cases h
   | some q=>
    rw[h1,h2]at h;cases h;obtain⟨q1,q2⟩:=KH h2;refine⟨by simp [q1],λj pv hj=>?_⟩;cases j with
    | zero=>simp at hj;subst hj;exact⟨v,rfl,S6 h1⟩
    | succ j=>obtain⟨u,r1,a⟩:=q2 j pv amc;exact⟨u,by simpa using r1,a⟩
theorem KI (v:Value):bz μ h S w (ofValue v) v:=by
 cases v with
 | int k n=>exact aR.int k n
 | bool b=>exact aR.bool b
 | string s=>
  obtain⟨⟨l⟩⟩:=s;exact aR.str l
 | slice a n c=>
  cases a with
  | none=>
   cases n with
   | zero=>
    cases c with
    | zero=>exact aR.az
    | succ c=>trivial
   | succ n=>trivial
  | some a=>trivial
 | pointer a=>
  cases a with
  | none=>exact aR.iH
  | some a=>trivial
 | agg vs=>
  simp only[ofValue];cases hl:PS vs.toList with
  | none=>trivial
  | some l=>
   obtain⟨q1,q2⟩:=KH (S:=S) (w:=w) hl;exact⟨vs,rfl,by simpa using q1,λj pv hj=>by obtain⟨u,r1,d⟩:=q2 j pv hj;exact⟨u,by simpa using r1,bK.kN d⟩⟩
 | _=>trivial
theorem bM {env:Env} {a:Act} (b:∀t,bz μ h S w (env t) (a.tmps.getD t undef)) (x:Operand):bz μ h S w (ev env x) (a.eval x):=by
 cases x with
 | tmp t=>exact b t
 | const v=>exact KI v
 | global g=>trivial
 | func f=>exact aR.fn f
def dq (P:Program) (o:Oper) (a:Act) (μ:Mu) (h:List al) (S:Nat->Prop) (w:World) (K:PV->Prop):Prop:=
 ∃v val,K v/\bz μ h S w v val/\∀w',cc w w'->(execOp a.eval o).run P w'=.ok (.value val) w'
theorem dq.mk {o:Oper} {a:Act} {K:PV->Prop} {v:PV} {val:Value} (b:K v) (hv:bz μ h S w v val) (c:∀w',cc w w'->(execOp a.eval o).run P w'=.ok (.value val) w'):dq P o a μ h S w K:=⟨v,val,b,hv,c⟩
variable {a:Act}{env:Env}{K:PV->Prop}{dst:Option Tmp}{ty:TypeId}{pos:String}{after:Array Edge}{guard:Option (Nat×Bool)}
theorem BQ {s:Sem Value} {w' a:World} {val:Value} (hs:s.run P w'=.ok val a):(do pure (Next.value (<-s)):Sem Next).run P w'=.ok (.value val) a:=by
 simp [hs]
theorem toList_mk (l:List UInt8):(ByteArray.mk ⟨l⟩).toList=l:=by
 have h:(ByteArray.mk ⟨l⟩).toList=(ByteArray.mk ⟨l⟩).data.toList:=by simp
 rw[h]
theorem OH {a:BinOp} {t:TypeId} {x y:Operand} {u b val:Value} {w':World} (hg:eqGuard a t x y u b=pure ()) (c:(binOp a t u b).run P w'=.ok val w'):
  (do eqGuard a t x y u b;binOp a t u b:Sem Value).run P w'=.ok val w':=by
 rw[hg];simp [c]
theorem uW {P:Program} {t:TypeId} {d:TypeDesc} (hu:P.underlying t=some d) (hd:DX d=false) (cs:Array Value) (off:Nat) (v:Value) (hc:cs[off]? =some v) (w:World):(part t cs off).run P w=.ok v w:=by
 have:(isAgg t).run P w=.ok false w:=by
  unfold isAgg;simp only[Sem.run_bind,run_underlying hu,Result.andThen];cases d<;>first | rfl | cases hd
 simp [part,this,hc]
theorem cj {g q:Bool} {o:Option Bool} {b:Bool} (h:GI g q o=some b):g=true/\∃c,o=some c/\b=(q&&c):=by
 cases o with
 | none=>cases h
 | some c=>cases g with
  | true=>exact⟨rfl,c,rfl,(aim h).symm⟩
  | false=>cases h
theorem tG {P:Program} {μ:Mu} {h:List al} {S:Nat->Prop} {w w':World} {xs p:Array Value} (d:Nat):∀(fs:List Field) (z l m:List PV) (n:Nat) (b:Bool),kj P n fs z=true->
  (∀(j:Nat) (pv:PV),l[j]? =some pv->∃u,xs[n+j]? =some u/\bK μ h S w pv u)->(∀(j:Nat) (pv:PV),m[j]? =some pv->∃u,p[n+j]? =some u/\bK μ h S w pv u)->
  GJ z l m=some b->(Op.eqFields (d+1) xs p fs).run P w'=.ok b w'
 | [],z,l,m,n,b,hf,_,_,g=>by
  cases z with
  | nil=>
   cases l with
   | nil=>cases m with
    | nil=>cases g;rfl
    | cons _ _=>cases g
   | cons _ _=>cases g
  | cons _ _=>simp [kj]at hf
 | f::fs,z,l,m,n,b,hf,E,hy,g=>by
  have go:∀(s t:PV) (v x:Value) (q c:Bool) (dd:TypeDesc) (z r i:List PV),l=s::r->m=t::i->(∀u,bK μ h S w s u->u=v)->(∀u,bK μ h S w t u->u=x)->f.name≠ "_" ->f.offset=n->P.underlying f.type=some dd->DX dd=false->
    (Op.equalIn (d+1) f.type v x).run P w'=.ok q w'->kj P (n+1) fs z=true->GJ z r i=some c->(Op.eqFields (d+1) xs p (f::fs)).run P w'=.ok (q&&c) w':=by
   intro s t v x q c dd z r i I e2 y A J o hu hd hq B K;subst I e2;obtain⟨F,L,C⟩:=E 0 s rfl;obtain⟨G,M,D⟩:=hy 0 t rfl;obtain rfl:=y F C;obtain rfl:=A G D
   have N:=tG (w':=w') d fs z r i (n+1) c B (λj pv hj=>by
     obtain⟨u,q1,q2⟩:=E (j+1) pv amc;exact⟨u,by rw[<-q1];congr 1;omega,q2⟩) (λj pv hj=>by
     obtain⟨u,q1,q2⟩:=hy (j+1) pv amc;exact⟨u,by rw[<-q1];congr 1;omega,q2⟩) K
   have O:=uW hu hd xs f.offset F (by rw[o];exact L) w';have Q:=uW hu hd p f.offset G (by rw[o];exact M) w';unfold Op.eqFields;rw[As J];simp only[Sem.run_bind,O,Q,hq,Result.andThen_ok];cases q with
   | true=>simpa using N
   | false=>simp
  unfold GJ at g;split at g
  ·simp [kj]at hf
  ·rename_i k H z R a r T e i;simp only[kj,No,ajE]at hf;obtain⟨⟨⟨h1,h2⟩,h3⟩,h4⟩:=hf;have h2:=ahz h2;obtain⟨hg,c,hc,rfl⟩:=cj g;simp only[No]at hg;obtain rfl:=ez hg.1;obtain rfl:=ez hg.2;split at h3
   ·rename_i U hu;exact go _ _ (.int k a) (.int k e) (a==e) c _ z r i rfl rfl (λu hu=>by have hu:aR S w (.int k a) u:=hu;cases hu;rfl) (λu hu=>by have hu:aR S w (.int k e) u:=hu;cases hu;rfl) h1 h2 hu rfl (run_equalIn_int w' d _ _ _ _ _ hu) h4 hc
   ·cases h3
  ·rename_i H z a r e i;simp only[kj,No,ajE]at hf;obtain⟨⟨⟨h1,h2⟩,h3⟩,h4⟩:=hf;have h2:=ahz h2;obtain⟨hg,c,hc,rfl⟩:=cj g;split at h3
   ·rename_i hu;exact go _ _ (.bool a) (.bool e) (a==e) c _ z r i rfl rfl (λu hu=>by have hu:aR S w (.bool a) u:=hu;cases hu;rfl) (λu hu=>by have hu:aR S w (.bool e) u:=hu;cases hu;rfl) h1 h2 hu rfl (run_equalIn_bool w' d _ _ _ hu) h4 hc
   ·cases h3
  ·rename_i H z a r e i;simp only[kj,No,ajE]at hf;obtain⟨⟨⟨h1,h2⟩,h3⟩,h4⟩:=hf;have h2:=ahz h2;obtain⟨hg,c,hc,rfl⟩:=cj g;split at h3
   ·rename_i hu
    exact go _ _ (.string ⟨⟨a⟩⟩) (.string ⟨⟨e⟩⟩) (a==e) c _ z r i rfl rfl (λu hu=>by have hu:aR S w (.str a) u:=hu;cases hu;rfl) (λu hu=>by have hu:aR S w (.str e) u:=hu;cases hu;rfl) h1 h2 hu rfl (by
     rw[run_equalIn_string w' d _ _ _ hu,toList_mk,toList_mk]) h4 hc
   ·cases h3
  ·cases g
theorem PT (p:da P T) (d:BinOp) (t q:TypeId) (x y:Operand) (C D:PV) (m:bz μ h S w C (a.eval x)) (hy:bz μ h S w D (a.eval y)) (hp:PU (T.get t) d C D K):
  dq P ⟨dst,.binOp d t x y q,ty,pos,after,guard⟩ a μ h S w K:=by
 have key:∀(v:PV) (val:Value),K v->bz μ h S w v val->eqGuard d t x y (a.eval x) (a.eval y)=pure ()->(∀w',(binOp d t (a.eval x) (a.eval y)).run P w'=.ok val w')->
   dq P ⟨dst,.binOp d t x y q,ty,pos,after,guard⟩ a μ h S w K:=λv val e hv hg r=>.mk e hv λw' _=>BQ (OH hg (r w'))
 unfold PU at hp;split at hp
 ·rename_i k n Q E;have ex:=m.lZ;have c:=hy.lZ;have hg:eqGuard d t x y (a.eval x) (a.eval y)=pure ():=by rw[ex];apply eqGuard_at_int
  cases d<;>simp only at hp
  case shl=>
   have h0:¬E<0:=by omega
   exact key _ _ hp.2 (aR.int _ _) hg λw'=>by rw[ex,c,binOp_shl];simp only[Op.shift,An h0];rfl
  case shr=>
   have h0:¬E<0:=by omega
   exact key _ _ hp.2 (aR.int _ _) hg λw'=>by rw[ex,c,binOp_shr];simp only[Op.shift,An h0];rfl
  all_goals
   replace hp:=bw hp;obtain⟨u,hp⟩:=hp;obtain rfl:=ez u
  case and=>exact key _ _ hp (aR.int _ _) hg λw'=>by rw[ex,c,binOp_and,intBits_and];rfl
  case or=>exact key _ _ hp (aR.int _ _) hg λw'=>by rw[ex,c,binOp_or,intBits_or];rfl
  case xor=>exact key _ _ hp (aR.int _ _) hg λw'=>by rw[ex,c,binOp_xor,intBits_xor];rfl
  case andNot=>exact key _ _ hp (aR.int _ _) hg λw'=>by rw[ex,c,binOp_andNot,intBits_andNot];rfl
  case add=>exact key _ _ hp (aR.int _ _) hg λw'=>by rw[ex,c,binOp_add];rfl
  case sub=>exact key _ _ hp (aR.int _ _) hg λw'=>by rw[ex,c,binOp_sub];rfl
  case mul=>exact key _ _ hp (aR.int _ _) hg λw'=>by rw[ex,c,binOp_mul];rfl
  case quo=>exact key _ _ hp.2 (aR.int _ _) hg λw'=>by rw[ex,c,binOp_quo];simp [Op.intDiv,hp.1]
  case rem=>exact key _ _ hp.2 (aR.int _ _) hg λw'=>by rw[ex,c,binOp_rem];simp [Op.intDiv,hp.1]
  case eql=>exact key _ _ hp (aR.bool _) hg λw'=>by rw[ex,c,binOp_eql];rfl
  case neq=>exact key _ _ hp (aR.bool _) hg λw'=>by rw[ex,c,binOp_neq];rfl
  case lss=>exact key _ _ hp (aR.bool _) hg λw'=>by rw[ex,c,binOp_lss];rfl
  case leq=>exact key _ _ hp (aR.bool _) hg λw'=>by rw[ex,c,binOp_leq];rfl
  case gtr=>exact key _ _ hp (aR.bool _) hg λw'=>by rw[ex,c,binOp_gtr];rfl
  case geq=>exact key _ _ hp (aR.bool _) hg λw'=>by rw[ex,c,binOp_geq];rfl
 ·rename_i b R;have ex:=m.nQ;have c:=hy.nQ;have hg:eqGuard d t x y (a.eval x) (a.eval y)=pure ():=by rw[ex];apply eqGuard_at_bool
  split at hp
  ·rename_i f;exact key _ _ hp (aR.bool _) hg λw'=>by rw[ex,c];exact run_eql_bool w' t _ _ (p.bool _ f)
  ·rename_i f;exact key _ _ hp (aR.bool _) hg λw'=>by rw[ex,c];exact run_neq_bool w' t _ _ (p.bool _ f)
  ·exact alc
 ·rename_i s g;have ex:=m.oI;have c:=hy.oI;have hg:eqGuard d t x y (a.eval x) (a.eval y)=pure ():=by rw[ex];apply eqGuard_at_string
  cases d<;>simp only at hp
  case add=>
   obtain⟨L,_,rfl,M⟩:=hp;refine key _ _ M (aR.str _) hg λw'=>?_;rw[ex,c,binOp_string_add]
   have h1:¬(((ByteArray.mk ⟨s⟩).size+(ByteArray.mk ⟨g⟩).size:Nat):Int)>IntKind.i64.max:=by
    have N:(ByteArray.mk ⟨s⟩).size=s.length:=rfl;have e2:(ByteArray.mk ⟨g⟩).size=g.length:=rfl;rw[N,e2,IntKind.max_i64];omega
   simp only[Op.stringOp,An h1]
   have h2:ByteArray.mk ⟨s⟩++ByteArray.mk ⟨g⟩=ByteArray.mk ⟨s++g⟩:=by
    apply ByteArray.ext;simp [ByteArray.data_append]
   rw[h2];rfl
  case eql=>exact key _ _ hp (aR.bool _) hg λw'=>by rw[ex,c,binOp_string_eql,toList_mk,toList_mk];rfl
  case neq=>exact key _ _ hp (aR.bool _) hg λw'=>by rw[ex,c,binOp_string_neq,toList_mk,toList_mk];rfl
  case lss=>exact key _ _ hp (aR.bool _) hg λw'=>by rw[ex,c,binOp_string_lss,toList_mk,toList_mk];rfl
  case leq=>exact key _ _ hp (aR.bool _) hg λw'=>by rw[ex,c,binOp_string_leq,toList_mk,toList_mk];rfl
  case gtr=>exact key _ _ hp (aR.bool _) hg λw'=>by rw[ex,c,binOp_string_gtr,toList_mk,toList_mk];rfl
  case geq=>exact key _ _ hp (aR.bool _) hg λw'=>by rw[ex,c,binOp_string_geq,toList_mk,toList_mk];rfl
  all_goals exact hp.elim
 ·rename_i F G;split at hp
  ·rename_i sz fl z f;replace hp:=bw hp;obtain⟨O,hp⟩:=hp;have i:=p.flat _ _ _ _ f O;unfold Iq at i;split at i
   ·rename_i fs hu;simp only[No,aid]at i;obtain⟨⟨h1,h2⟩,h3⟩:=i;obtain⟨xs,ex,_,A⟩:=m;obtain⟨o,c,_,B⟩:=hy;have H:P.fieldsOf t=fs:=by simp [Program.fieldsOf,hu]
    have I:∀b,GJ z F G=some b->∀w',(Op.equalIn 10000 t (.agg xs) (.agg o)).run P w'=.ok b w':=λb u w'=>by
     rw[run_equalIn_struct w' 9999 t xs o (by rw[H];exact hu) h1,H];exact tG (μ:=μ) (h:=h) (S:=S) (w:=w) 9998 fs.toList z F G 0 b h3 (λj pv hj=>by rw[ahx];exact A j pv hj) (λj pv hj=>by rw[ahx];exact B j pv hj) u
    have l:∀(b:Bool),K (.bool b)->(∀w',(binOp d t (.agg xs) (.agg o)).run P w'=.ok (.bool b) w')->dq P ⟨dst,.binOp d t x y q,ty,pos,after,guard⟩ a μ h S w K:=λb e r=>.mk e (aR.bool b) λw' _=>BQ (by
     rw[ex,c];simp [run_eqGuard_agg w' d t x y xs o h2,r w'])
    split at hp
    ·rename_i b J;split at hp
     ·obtain⟨_,rfl,e⟩:=hp;exact l _ e λw'=>by rw[run_eql_struct,I b J w'];rfl
     ·obtain⟨_,rfl,e⟩:=hp;exact l _ e λw'=>by rw[run_neq_struct,I b J w'];rfl
     ·exact alc
    ·exact alc
   ·cases i
  ·exact alc
 ·exact alc
theorem zT {t:TypeId} {d:TypeDesc} (hu:P.underlying t=some d) (w':World):(isAgg t).run P w'=.ok (DX d) w':=by
 unfold isAgg;simp only[Sem.run_bind,run_underlying hu,Result.andThen];cases d<;>rfl
def V5 (μ:Mu) (h:List al) (S:Nat->Prop) (w:World) (cells:List PV) (b off:Nat):Prop:=
 ∀(j:Nat) (pv:PV),cells[j]? =some pv->∃u,w.cell? ⟨b,off+j,none⟩=some u/\bK μ h S w pv u
theorem DZ (m:da P T) (t:Nat) (x:Operand) (cells:List PV) (b off:Nat) (o:a.eval x=.pointer (some ⟨b,off,none⟩)) (hc:V5 μ h S w cells b off) (hp:Bg T t cells K)
  (p:∀pv u,pv∈cells->bK μ h S w pv u->bz μ h S w pv u):
  dq P ⟨dst,.load t x,ty,pos,after,guard⟩ a μ h S w K:=by
 have key:∀(v:PV) (val:Value),K v->bz μ h S w v val->(∀w',cc w w'->(loadVar t ⟨b,off,none⟩).run P w'=.ok val w')->
   dq P ⟨dst,.load t x,ty,pos,after,guard⟩ a μ h S w K:=λv val n hv q=>.mk n hv λw' ha=>by
  refine BQ ?_;rw[o];simp [Instr.loadAt,Instr.sureAddr,q w' ha]
 have one:∀d,P.underlying t=some d->DX d=false->(∃c r,cells=c::r/\K c)->
   dq P ⟨dst,.load t x,ty,pos,after,guard⟩ a μ h S w K:=λd hu hd ⟨c,r,l,n⟩=>by
  obtain⟨u,s,y⟩:=hc 0 c (by rw[l];rfl);refine key c u n (p c u (by rw[l];simp) y) λw' ha=>?_;have h0:=ha.cell s;rw[aiv]at h0;unfold loadVar;simp only[Sem.run_bind,zT hu,hd,Result.andThen];simp [run_load,h0]
 unfold Bg at hp;split at hp
 ·rename_i sz fl A g;obtain⟨fs,i,hu,hi,B,_⟩:=m.struct _ _ _ _ g;replace hp:=rQ _ _ _ hp;obtain⟨hle,n⟩:=hp;simp only[ajM,aiC]at n
  have hf:∃f:Nat->Value,∀(j:Nat) (pv:PV),cells[j]? =some pv->w.cell? ⟨b,off+j,none⟩=some (f j)/\bK μ h S w pv (f j):=by
   refine⟨λj=>(w.cell? ⟨b,off+j,none⟩).getD undef,λj pv hj=>?_⟩;obtain⟨u,h1,h2⟩:=hc j pv hj;simp only[h1,ajN];exact⟨trivial,h2⟩
  obtain⟨f,hf⟩:=hf;refine key _ (.agg ((List.range sz).map f).toArray) n ⟨_,rfl,by simp [Nat.min_eq_left hle],λj pv hj=>?_⟩ λw' ha=>?_
  ·rw[ajp]at hj;split at hj
   ·rename_i C;obtain⟨h1,h2⟩:=hf j pv hj;exact⟨f j,by simp [C],h2⟩
   ·cases hj
  ·unfold loadVar;have hd:DX (.struct fs)=true:=rfl;simp only[Sem.run_bind,zT hu,hd,Result.andThen]
   have hl:=run_loadCells (P:=P) w' ⟨b,off,none⟩ sz f (λj hj=>by
    rw[Addr.add_lit];have D:j<cells.length:=ahS hj hle;exact ha.cell (hf j _ (abF D)).1)
   simp [sizeOf,typeInfo,hi,B,hl]
 ·exact alc
 ·rename_i h1 h2
  have l:∃c r,cells=c::r/\K c:=by
   cases cells with
   | nil=>exact hp.elim
   | cons c r=>exact⟨c,r,rfl,bT hp⟩
  cases g:T.get t with
  | int k=>exact one _ (m.int _ _ g) rfl l
  | bool=>exact one _ (m.bool _ g) rfl l
  | str=>exact one _ (m.str _ g) rfl l
  | slice e sz E z=>exact one _ (m.slice _ _ _ _ _ g).1 rfl l
  | struct sz fl A=>exact(h1 _ _ _ g).elim
  | map k e z=>exact one _ (m.map _ _ _ _ g).1 rfl l
  | ptr e=>exact one _ (m.ptr _ _ g) rfl l
  | other=>exact(h2 g).elim
theorem dz {id:Nat} {g sz n:Nat} {e:TypeId} {f:Nat->List PV} (hh:cH h id=.row g sz n e f):h[id]? =some (al.row g sz n e f):=by
 unfold cH at hh;rw[ahA]at hh;cases a:h[id]? with
 | none=>rw[a]at hh;cases hh
 | some o=>rw[a]at hh;simp at hh;rw[hh]
theorem bz.pT {id gen off len:Nat} {v:Value} (hv:bz μ h S w (.own id gen off len) v):bg μ h w id gen off len v:=hv
theorem bz.wS {id gen i off:Nat} {v:Value} (hv:bz μ h S w (.aF id gen i off) v):bS μ h w id gen i off v:=hv
theorem bz.Ir {id:Nat} {v:Value} (hv:bz μ h S w (.ke id) v):gg μ h w id v:=hv
theorem D0 (hH:bH μ h S w) {id g sz n:Nat} {e:TypeId} {f:Nat->List PV} {v:Value} (hh:h[id]? =some (al.row g sz n e f)) (a:gg μ h w id v):
  ∃b base es c,μ id=some (b,base)/\v=.map (some b)/\w.heap[b]? =some (.map es c)/\es.size=n/\
   ∀i,i<n->∃(kp d:PV) (en:MapEntry),f i=[kp,d]/\kO kp=true/\kO d=true/\es[i]? =some en/\tF kp en.key/\tF d en.val:=by
 unfold gg at a;rw[hh]at a;obtain⟨_,b,base,j,⟨es,c,k⟩,rfl⟩:=a;obtain⟨_,l⟩:=hH id g sz n e f hh;rw[j]at l;obtain⟨o,h1,h2⟩:=l;obtain rfl:=aim (k.symm.trans h1);exact⟨b,base,es,c,j,rfl,k,h2.1,h2.2⟩
theorem zU:∀(z xs d:List PV) (b:Bool),GJ z xs d=some b->∀(j:Nat) (pv:PV),d[j]? =some pv->∀u,vA pv u->bK μ h S w pv u
 | z,xs,d,b,a,j,pv,hj,u,hu=>by
  unfold GJ at a;split at a
  ·simp at hj
  ·obtain⟨_,c,hc,_⟩:=cj a;cases j with
   | zero=>simp at hj;subst hj;have hu:u=_:=hu;subst hu;exact aR.int _ _
   | succ j=>exact zU _ _ _ c hc j pv amc u hu
  ·obtain⟨_,c,hc,_⟩:=cj a;cases j with
   | zero=>simp at hj;subst hj;have hu:u=_:=hu;subst hu;exact aR.bool _
   | succ j=>exact zU _ _ _ c hc j pv amc u hu
  ·obtain⟨_,c,hc,_⟩:=cj a;cases j with
   | zero=>simp at hj;subst hj;have hu:u=_:=hu;subst hu;exact aR.str _
   | succ j=>exact zU _ _ _ c hc j pv amc u hu
  ·cases a
theorem CR:∀(z xs d:List PV) (b:Bool),GJ z xs d=some b->xs.length=z.length
 | z,xs,d,b,a=>by
  unfold GJ at a;split at a
  ·rfl
  ·obtain⟨_,c,hc,_⟩:=cj a;simp [CR _ _ _ c hc]
  ·obtain⟨_,c,hc,_⟩:=cj a;simp [CR _ _ _ c hc]
  ·obtain⟨_,c,hc,_⟩:=cj a;simp [CR _ _ _ c hc]
  ·cases a
theorem Nx {kt:TypeId} {fs:Array Field} {z xs:List PV} {a:Array Value} (hu:P.underlying kt=some (.struct fs)) (hf:kj P 0 fs.toList z=true)
  (b:∀(j:Nat) (pv:PV),xs[j]? =some pv->∃u,a[j]? =some u/\bK μ h S w pv u) (hl:xs.length=z.length) (em:Bool) (w':World):(Instr.checkKey em 10000 kt (.agg a)).run P w'=.ok () w':=by
 rw[show 10000=9999+1 from rfl,Instr.checkKey];simp only[Sem.run_bind,run_underlying hu,Result.andThen_ok];rw[<-Array.forIn_toList];replace b:∀(j:Nat) (pv:PV),xs[j]? =some pv->∃u,a[0+j]? =some u/\bK μ h S w pv u:=λj pv hj=>by rw[ahx];exact b j pv hj
 generalize(0:Nat)=n at hf b;generalize fs.toList=L at hf;clear hu;induction L generalizing n z xs with
 | nil=>simp
 | cons f L i=>
  cases z with
  | nil=>simp [kj]at hf
  | cons c z=>
   cases xs with
   | nil=>simp at hl
   | cons p xs=>
    have g:kj P (n+1) L z=true->(∀(j:Nat) (pv:PV),xs[j]? =some pv->∃u,a[n+1+j]? =some u/\bK μ h S w pv u):=λ_ j pv hj=>by
     obtain⟨u,q1,q2⟩:=b (j+1) pv amc;exact⟨u,by rw[<-q1];congr 1;omega,q2⟩
    obtain⟨u,l,_⟩:=b 0 p rfl
    have key:∃d,P.underlying f.type=some d/\DX d=false/\f.name≠ "_" /\f.offset=n/\kj P (n+1) L z=true/\∀u,(Instr.checkKey em 9999 f.type u).run P w'=.ok () w':=by
     cases c with
     | int k s=>
      simp only[kj,No,ajE]at hf;obtain⟨⟨⟨h1,h2⟩,h3⟩,h4⟩:=hf;split at h3
      ·rename_i t hu;exact alk
      ·cases h3
     | bool v=>
      simp only[kj,No,ajE]at hf;obtain⟨⟨⟨h1,h2⟩,h3⟩,h4⟩:=hf;split at h3
      ·rename_i hu;exact alk
      ·cases h3
     | str x=>
      simp only[kj,No,ajE]at hf;obtain⟨⟨⟨h1,h2⟩,h3⟩,h4⟩:=hf;split at h3
      ·rename_i hu;exact alk
      ·cases h3
     | _=>simp [kj]at hf
    obtain⟨d,hu,hd,hn,m,e,o⟩:=key;have q:=uW hu hd a f.offset u (by rw[m];exact l) w';have r:=o u;simp only[List.forIn_cons,Sem.run_bind,hn,ne_eq,not_false_eq_true,aiz,Result.andThen_ok,q,r,Sem.run_pure];exact i ams (n+1) (g e) e
def wT (P:Program) (kt:TypeId) (d:TypeDesc) (s:Bool) (key a:Value) (q:Bool):Prop:=
 match s with
 | false=>Instr.sameNow d key a=some q
 | true=>Instr.sameNow d key a=none/\∀w',(Op.equal kt key a).run P w'=.ok q w'
theorem OJ (n:da P T) {kt:Nat} {a:PV} {key:Value} {t:Bool} (o:bz μ h S w a key) (h0:kA (T.get kt) a a=some t):
  ∃d s,P.underlying kt=some d/\(∀(em:Bool) (w':World),(Instr.checkKey em 10000 kt key).run P w'=.ok () w')/\∀(kp:PV) (b:Value) (q:Bool),tF kp b->kA (T.get kt) a kp=some q->wT P kt d s key b q:=by
 cases e:T.get kt with
 | int k=>
  rw[e]at h0;cases a<;>simp only[kA]at h0<;>try cases h0
  rename_i C x;have hu:=n.int _ _ e;obtain⟨f,_⟩:=cj h0;simp only[No]at f;obtain rfl:=ez f.1;obtain rfl:=o.lZ;refine⟨_,false,hu,λem w'=>by rw[show 10000=9999+1 from rfl,Instr.checkKey];simp [run_underlying hu],λkp b q hs hq=>?_⟩;cases kp<;>simp only[kA]at hq<;>try cases hq
  rename_i D p;obtain⟨hg,c,hc,rfl⟩:=cj hq;injection hc with hc;subst hc;simp only[No]at hg;obtain rfl:=ez hg.2;obtain rfl:b=_:=hs;simp [wT,Instr.sameNow]
 | str=>
  rw[e]at h0;cases a<;>simp only[kA]at h0<;>try cases h0
  rename_i x;have hu:=n.str _ e;obtain rfl:=o.oI;refine⟨_,false,hu,λem w'=>by rw[show 10000=9999+1 from rfl,Instr.checkKey];simp [run_underlying hu],λkp b q hs hq=>?_⟩;cases kp<;>simp only[kA]at hq<;>try cases hq
  obtain rfl:b=_:=hs;rename_i p;simp only[wT,Instr.sameNow];congr 1;show((Array.mk x)==(Array.mk p))=(x==p);rw[aic,aio,aio,Array.mk.injEq]
 | struct sz fl z=>
  rw[e]at h0;cases a<;>simp only[kA]at h0<;>try cases h0
  rename_i xs;split at h0
  ·rename_i v;have g:=n.flat _ _ _ _ e v;unfold Iq at g;split at g
   ·rename_i fs hu;simp only[No,aid]at g;obtain⟨⟨h1,h2⟩,h3⟩:=g;obtain⟨y,ex,_,i⟩:=(show jz μ h S w (.agg xs) key from o);subst ex;have A:P.fieldsOf kt=fs:=by simp [Program.fieldsOf,hu]
    refine⟨_,true,hu,λem w'=>Nx hu h3 i (CR z xs xs t h0) em w',λkp b q hs hq=>?_⟩;cases kp<;>simp only[kA,v]at hq<;>try cases hq
    rename_i m;obtain⟨l,rfl,_,r⟩:=(show ∃vs:Array Value,b=.agg vs/\vs.size=m.length/\∀(j:Nat) (pv:PV),m[j]? =some pv->∃u:Value,vs[j]? =some u/\vA pv u from hs);refine⟨rfl,λw'=>?_⟩;show(Op.equalIn 10000 kt (.agg y) (.agg l)).run P w'=_;rw[run_equalIn_struct w' 9999 kt y l (by rw[A];exact hu) h1,A]
    exact tG (μ:=μ) (h:=h) (S:=S) (w:=w) 9998 fs.toList z xs m 0 q h3 (λj pv hj=>by rw[ahx];exact i j pv hj) (λj pv hj=>by
     rw[ahx];obtain⟨u,hu,B⟩:=r j pv hj;exact⟨u,hu,zU z xs m q hq j pv hj u B⟩) hq
   ·cases g
  ·cases h0
 | _=>
  rw[e]at h0;cases a<;>simp [kA]at h0
theorem D1 {d:TypeDesc} {key:Value}:∀(l:List MapEntry) (i s:Nat) (en:MapEntry),(∀j,j<i->∀x:MapEntry,l[j]? =some x->Instr.sameNow d key x.key=some false)->l[i]? =some en->Instr.sameNow d key en.key=some true->
  Instr.findNow d key l s=some (some (s+i,en.val))
 | [],i,s,en,_,h,_=>by simp at h
 | x::l,0,s,en,_,h,hq=>by
  simp at h;subst h;simp [Instr.findNow,hq]
 | x::l,i+1,s,en,hf,h,hq=>by
  have h0:=hf 0 alV x rfl;have:=D1 l i (s+1) en (λj hj y hy=>hf (j+1) alV y amo) amg hq;simp only[Instr.findNow,h0,this];congr 3;omega
theorem zV {d:TypeDesc} {key:Value}:∀(l:List MapEntry) (s:Nat),(∀(j:Nat) (x:MapEntry),l[j]? =some x->Instr.sameNow d key x.key=some false)->Instr.findNow d key l s=some none
 | [],s,_=>rfl
 | x::l,s,hf=>by
  have h0:=hf 0 x rfl;simp only[Instr.findNow,h0];exact zV l (s+1) (λj y hy=>hf (j+1) y amo)
theorem D2 {kt:TypeId} {key:Value} {w':World}:∀(l:List MapEntry) (i s:Nat) (en:MapEntry),(∀j,j<i->∀x:MapEntry,l[j]? =some x->(Op.equal kt key x.key).run P w'=.ok false w')->l[i]? =some en->(Op.equal kt key en.key).run P w'=.ok true w'->
  (Instr.findAsking kt key l s).run P w'=.ok (some (s+i,en.val)) w'
 | [],i,s,en,_,h,_=>by simp at h
 | x::l,0,s,en,_,h,hq=>by
  simp at h;subst h;simp [Instr.findAsking,hq]
 | x::l,i+1,s,en,hf,h,hq=>by
  have h0:=hf 0 alV x rfl;have:=D2 l i (s+1) en (λj hj y hy=>hf (j+1) alV y amo) amg hq;simp only[Instr.findAsking,Sem.run_bind,h0,Result.andThen_ok,aiP,aiO,this];congr 3;omega
theorem zW {kt:TypeId} {key:Value} {w':World}:∀(l:List MapEntry) (s:Nat),(∀(j:Nat) (x:MapEntry),l[j]? =some x->(Op.equal kt key x.key).run P w'=.ok false w')->(Instr.findAsking kt key l s).run P w'=.ok none w'
 | [],s,_=>rfl
 | x::l,s,hf=>by
  have h0:=hf 0 x rfl;simp only[Instr.findAsking,Sem.run_bind,h0,Result.andThen_ok,aiP,aiO];exact zW l (s+1) (λj y hy=>hf (j+1) y amo)
theorem D3 {kt:TypeId} {d:TypeDesc} {s:Bool} {key:Value} {w':World} (hu:P.underlying kt=some d) (l:List MapEntry) (i:Nat) (en:MapEntry) (hf:∀j,j<i->∀x:MapEntry,l[j]? =some x->wT P kt d s key x.key false)
  (hi:l[i]? =some en) (hq:wT P kt d s key en.key true):(Instr.findKey kt key l).run P w'=.ok (some (i,en.val)) w':=by
 unfold Instr.findKey;cases s with
 | false=>
  have:=D1 l i 0 en hf hi hq;rw[ahx]at this;simp [run_underlying hu,this]
 | true=>
  have h1:=D2 (P:=P) (w':=w') l i 0 en (λj hj x a=>(hf j hj x a).2 w') hi (hq.2 w');rw[ahx]at h1
  have h2:Instr.findNow d key l 0=none:=by
   cases l with
   | nil=>simp at hi
   | cons x l=>
    have h3:Instr.sameNow d key x.key=none:=by
     cases i with
     | zero=>simp at hi;subst hi;exact hq.1
     | succ i=>exact(hf 0 alV x rfl).1
    simp [Instr.findNow,h3]
  simp [run_underlying hu,h2,h1]
theorem zX {kt:TypeId} {d:TypeDesc} {s:Bool} {key:Value} {w':World} (hu:P.underlying kt=some d) (l:List MapEntry) (hf:∀(j:Nat) (x:MapEntry),l[j]? =some x->wT P kt d s key x.key false):
  (Instr.findKey kt key l).run P w'=.ok none w':=by
 unfold Instr.findKey;cases s with
 | false=>simp [run_underlying hu,zV l 0 hf]
 | true=>
  have h1:=zW (P:=P) (w':=w') (kt:=kt) (key:=key) l 0 (λj x a=>(hf j x a).2 w');cases l with
  | nil=>simp [run_underlying hu,Instr.findNow]
  | cons x l=>
   have h3:Instr.sameNow d key x.key=none:=(hf 0 x rfl).1;simp [run_underlying hu,Instr.findNow,h3,h1]
theorem bK.v {pv:PV} {u:Value} (hc:bK μ h S w pv u):bz μ h S w pv u:=by
 cases pv<;>first | exact(show False from hc).elim | trivial | exact hc
theorem D4 (k:da P T) (hH:bH μ h S w) (t:Nat) (x:Operand) (l:PV) (m:bz μ h S w l (a.eval x)) (hp:zY T t l h K):
  dq P ⟨dst,.load t x,ty,pos,after,guard⟩ a μ h S w K:=by
 unfold zY at hp;split at hp
 ·rename_i cells;obtain⟨b,off,o,p,_,h2,h3⟩:=m.zR;exact DZ k t x cells b off p (λj pv hj=>⟨o j,h2 j pv hj,bK.kN (h3 j pv hj)⟩) hp λpv u _ hc=>hc.v
 ·rename_i id gen i off;split at hp
  ·rename_i g sz n e f hg;obtain⟨rfl,_,rfl,hp⟩:=hp;have hh:=dz hg;have d:=m.wS;unfold bS at d;rw[hh]at d;obtain⟨_,_,d⟩:=d;obtain⟨q,b,base,r,s,hv⟩:=d rfl;obtain⟨hl,hc⟩:=hH id g sz n e f hh;rw[r]at hc;obtain⟨cur,y,A,z⟩:=bH.cells s.1 hc;refine DZ k t x _ b (base+i*sz+off) hv (λj pv hj=>?_) hp λpv u _ hc=>hc.v;rw[aiE]at hj;obtain⟨v,h1,h2⟩:=z i (off+j) pv q hj;refine⟨v,?_,h2.c⟩;rw[cell_of_row w b (base+i*sz+off+j) cur e (0,0) y,<-h1];congr 1;omega
  ·exact alc
 ·exact alc
theorem mZ {e:TypeId} {i:TypeInfo} (hi:P.info? e=some i) (w':World):(sizeOf e).run P w'=.ok i.size w':=by
 simp [sizeOf,typeInfo,hi]
theorem BR {t e:TypeId} {i:TypeInfo} (hu:P.underlying t=some (.slice e)) (hi:P.info? e=some i) (a:Addr) (n c:Nat) (k:IntKind) (x:Int) (h0:0<=x) (h1:x<n) (w':World):
  (Instr.indexAt t (.slice (some a) n c) (.int k x)).run P w'=.ok (.pointer (some (a.add (x.toNat*i.size)))) w':=by
 have he:P.elem t=e:=by simp [Program.elem,hu]
 rw[run_indexAt_slice w' t a n c k x amq,As ⟨h0,h1⟩,he,mZ hi];rfl
theorem KJ (G:da P T) (hH:bH μ h S w) (H:∀t,bz μ h S w (env t) (a.tmps.getD t undef)) (t:Nat) (x i:Operand) (hp:ck T (.indexAddr t x i) env h K):
  dq P ⟨dst,.indexAddr t x i,ty,pos,after,guard⟩ a μ h S w K:=by
 have s:=bM H x;have hi:=bM H i;unfold ck at hp;simp only at hp;split at hp
 ·rename_i e sz I z J n f k d y hex m;rw[hex]at s;rw[m]at hi;replace hp:=bw hp;obtain⟨o,⟨h0,h1⟩,_,rfl,A⟩:=hp;obtain rfl:=ahz o;have B:=hi.lZ;obtain⟨hu,_,inf,L,C,D,_⟩:=G.slice _ _ _ _ _ y;rcases s.xz with⟨_,_,_,rfl⟩ | ⟨b,off,c,M,ex,N,hl,hc,O,Q⟩
  ·omega
  ·have q:d.toNat<n:=by omega
   refine .mk A (aR.fC (f d.toNat) b (off+d.toNat*sz) (M d.toNat) N (λj pv hj=>O _ j pv q hj) (λj pv hj=>Q _ j pv q hj)) λw' _=>BQ ?_;rw[ex,B,BR hu C _ _ _ _ _ h0 h1,D,Addr.add_lit]
 ·rename_i e sz I z id gen off len k d y hex m;rw[hex]at s;rw[m]at hi;have B:=hi.lZ;obtain⟨hu,_,inf,L,C,D,_⟩:=G.slice _ _ _ _ _ y;split at hp
  ·rename_i g J n W f R;obtain⟨rfl,hp⟩:=hp;replace hp:=bw hp;obtain⟨o,⟨h0,h1⟩,_,rfl,A⟩:=hp;obtain⟨o,r⟩:=Bool.and_eq_true_iff.1 o;obtain rfl:=ahz o;have hh:=dz R;have l:=s.pT;unfold bg at l;rw[hh]at l;obtain⟨_,_,l⟩:=l;obtain⟨hle,l⟩:=l rfl;cases u:μ id with
   | none=>
    rw[u]at l;obtain⟨_,E⟩:=hH id _ _ _ _ _ hh;rw[u]at E;have E:n=0:=E;omega
   | some p=>
    obtain⟨b,base⟩:=p;rw[u]at l;obtain⟨X,cap,ex,Y,F,U⟩:=l;have F:=F alV;subst F;refine .mk A (v:=.aF id g (off+d.toNat) 0) (val:=.pointer (some ⟨b,base+(off+d.toNat)*sz+0,none⟩)) ?_ λw' _=>BQ ?_
    ·show bS μ h w id g (off+d.toNat) 0 _;unfold bS;rw[hh];exact⟨⟨_,rfl⟩,ahy _,λ_=>⟨by omega,b,base,u,⟨U.least,λV=>by rw[V]at r;cases r⟩,rfl⟩⟩
    ·rw[ex,B,BR hu C _ _ _ _ _ h0 h1,D,Addr.add_lit];have:base+off*sz+d.toNat*sz=base+(off+d.toNat)*sz+0:=by rw[ahK];omega
     rw[this]
  ·exact alc
 ·exact alc
theorem D5 (g:da P T) (d:∀t,bz μ h S w (env t) (a.tmps.getD t undef)) (t:Nat) (x i:Operand) (hp:ck T (.index t x i) env h K):
  dq P ⟨dst,.index t x i,ty,pos,after,guard⟩ a μ h S w K:=by
 have e:=bM d x;have hi:=bM d i;unfold ck at hp;simp only at hp;split at hp
 ·rename_i s k b j hex c;rw[hex]at e;rw[c]at hi;obtain⟨⟨h0,h1⟩,_,rfl,l⟩:=hp;have m:=hi.lZ;have ex:=e.oI;have hu:=g.str _ j;refine .mk l (aR.int _ _) λw' _=>BQ ?_;rw[ex,m]
  have n:(ByteArray.mk ⟨s⟩)[b.toNat]? =some (s.getD b.toNat 0):=by
   have f:b.toNat<s.length:=by omega
   rw[ahA,abF f];rw[getElem?_pos (ByteArray.mk ⟨s⟩) b.toNat f];rfl
  simp only[Instr.index,asIntOf,Sem.run_bind,Sem.run_pure,Result.andThen,run_underlying hu,As h0,n]
 ·exact alc
theorem PW (k:da P T) (hH:bH μ h S w) (B:∀t,bz μ h S w (env t) (a.tmps.getD t undef)) (args:Array Operand) (l:Array TypeId) (hp:ck T (.call ⟨.builtin .len,args,l⟩) env h K):
  dq P ⟨dst,.call ⟨.builtin .len,args,l⟩,ty,pos,after,guard⟩ a μ h S w K:=by
 obtain⟨args⟩:=args;obtain⟨l⟩:=l;unfold ck at hp;simp only at hp;split at hp
 ·rename_i x t;have i:=bM B x
  have fin:∀(n:Int) (val:Value),a.eval x=val->K (.int .i64 n)->(∀w',(Builtin.len_ #[t] ty #[val]).run P w'=.ok (goInt n) w')->
    dq P ⟨dst,.call ⟨.builtin .len,#[x],#[t]⟩,ty,pos,after,guard⟩ a μ h S w K:=λn val o q d=>.mk q (aR.int _ _) λw' _=>by
   simp only[execOp,resolve,invoke,builtin,Sem.run_bind,Sem.run_pure,Result.andThen_ok,ajy,ahE,ahR,o,d];rfl
  split at hp
  ·rename_i e sz y z C n f j hex;rw[hex]at i;obtain⟨hu,_⟩:=k.slice _ _ _ _ _ j;have he:P.elem t=e:=by simp [Program.elem,hu]
   rcases i.xz with⟨r,c,ex,rfl⟩ | ⟨b,off,c,F,ex,_⟩
   ·exact fin _ _ ex hp λw'=>run_len_slice w' t ty _ _ _ amq
   ·exact fin _ _ ex hp λw'=>run_len_slice w' t ty _ _ _ amq
  ·rename_i e sz y z j hex;rw[hex]at i;obtain⟨hu,_⟩:=k.slice _ _ _ _ _ j;have he:P.elem t=e:=by simp [Program.elem,hu]
   exact fin _ _ i.rP hp λw'=>run_len_slice w' t ty _ _ _ amq
  ·rename_i e sz y z id gen off n j hex;rw[hex]at i;obtain⟨hu,_⟩:=k.slice _ _ _ _ _ j;have he:P.elem t=e:=by simp [Program.elem,hu]
   split at hp
   ·rename_i g C D G f u;obtain⟨rfl,q⟩:=hp;have hh:=dz u;have d:=i.pT;unfold bg at d;rw[hh]at d;obtain⟨_,_,d⟩:=d;obtain⟨hle,d⟩:=d rfl
    have o:∃r c,a.eval x=.slice r n c:=by
     cases m:μ id with
     | none=>
      rw[m]at d;obtain⟨_,v⟩:=hH id _ _ _ _ _ hh;rw[m]at v;have v:D=0:=v;have:n=0:=by omega
      subst this;exact⟨_,_,d⟩
     | some p=>
      rw[m]at d;obtain⟨H,cap,ex,_⟩:=d;exact⟨_,_,ex⟩
    obtain⟨r,c,ex⟩:=o;exact fin _ _ ex q λw'=>run_len_slice w' t ty _ _ _ amq
   ·exact alc
  ·rename_i s j hex;rw[hex]at i;have hu:=k.str _ j;refine fin _ _ i.oI hp λw'=>?_;simp [Builtin.len_,run_underlying hu];rfl
  ·rename_i I J z0 id j hex;rw[hex]at i;obtain⟨hu,_⟩:=k.map _ _ _ _ j;split at hp
   ·rename_i g sz n e f u;obtain⟨b,base,es,c,m,ex,A,hn,_⟩:=D0 hH (dz u) i.Ir;refine .mk hp (aR.int _ _) λw' ha=>?_;have E:w'.heap[b]? =some (.map es c):=(ha.blocks b (ahB.1 A).1).trans A;simp only[execOp,resolve,invoke,builtin,Sem.run_bind,Sem.run_pure,Result.andThen_ok,ajy,ahE,ahR,ex];rw[show(Builtin.len_ #[t] ty #[.map (some b)]).run P w'=.ok (goInt es.size) w' by simp [Builtin.len_,run_underlying hu,run_getObj_map w' b es c E]];rw[hn];rfl
   ·exact alc
  ·exact alc
 ·exact alc
theorem BS (s:List UInt8) (l m:Nat):(ByteArray.mk ⟨s⟩).extract l m=ByteArray.mk ⟨(s.take m).drop l⟩:=by
 apply ByteArray.ext;rw[ByteArray.data_extract];apply Array.ext';rw[List.drop_take];simp [Array.toList_extract,List.extract]
theorem PX (B:da P T) (hH:bH μ h S w) (id g off len sz n:Nat) (e:TypeId) (f:Nat->List PV) (hh:h[id]? =some (al.row g sz n e f)) (v:Value) (hv:bz μ h S w (.own id g off len) v) (l m:Nat) (hl:l<=m) (hm:m<=len):
  ∃k c,v=.slice k len c/\len<=c/\∀(d:Nat),m<=d->d<=c->bz μ h S w (.own id g (off+l) (m - l)) (.slice (if d=l then k else k.map (·.add (l*sz))) (m - l) (d - l)):=by
 have a:=hv.pT;unfold bg at a;rw[hh]at a;obtain⟨_,_,a⟩:=a;obtain⟨hle,a⟩:=a rfl;cases j:μ id with
 | none=>
  rw[j]at a;obtain⟨_,o⟩:=hH id _ _ _ _ _ hh;rw[j]at o;have o:n=0:=o;have h0:len=0:=by omega
  subst h0;have a:v=.slice none 0 0:=a;refine⟨none,0,a,ahy _,λd h1 h2=>?_⟩;have q:m=0:=by omega
  have x:l=0:=by omega
  have y:d=0:=by omega
  subst q;subst x;subst y;show bg μ h w id g (off+0) (0 - 0) _;unfold bg;rw[hh];refine⟨⟨_,_,_,rfl⟩,ahy _,λ_=>⟨by omega,?_⟩⟩;rw[j];rfl
 | some p=>
  obtain⟨b,base⟩:=p;rw[j]at a;obtain⟨t,cap,ex,A,r,u⟩:=a;refine⟨some t,cap,ex,A,λd h1 h2=>?_⟩;show bg μ h w id g (off+l) (m - l) _;unfold bg;rw[hh];refine⟨⟨_,_,_,rfl⟩,ahy _,λ_=>⟨by omega,?_⟩⟩;rw[j];by_cases i:d=l
  ·refine⟨t,0,by rw[As i];subst i;simp,by omega,λh=>absurd h alV,?_⟩;obtain⟨cur,s,z,q1,q2⟩:=u;refine⟨cur,s,z,q1,air ?_ q2⟩;have:(off+l+0)*sz<=(off+cap)*sz:=ahH _ alV;omega
  ·have r:=r alV;subst r;refine⟨⟨b,base+(off+l)*sz,none⟩,d - l,?_,by omega,λ_=>rfl,?_⟩
   ·rw[An i,ajo,Addr.add_lit,ahK,ajJ]
   ·obtain⟨cur,s,z,q1,q2⟩:=u;refine⟨cur,s,z,q1,air ?_ q2⟩;have:(off+l+(d - l))*sz<=(off+cap)*sz:=ahH _ alV;omega
theorem PY (sz n:Nat) (f:Nat->List PV) (v:Value) (hv:bz μ h S w (.fF sz n f) v) (l m:Nat) (hl:l<=m) (hm:m<=n):
  ∃d c,v=.slice d n c/\((n<=c\/n=0)/\∀(a:Nat),m<=a->(a<=c\/m=0)->bz μ h S w (.fF sz (m - l) (λi=>f (l+i))) (.slice (if a=l then d else d.map (·.add (l*sz))) (m - l) (a - l))):=by
 rcases hv.xz with⟨d,c,ex,rfl⟩ | ⟨b,off,c,k,ex,o,hlen,hc,p,q⟩
 ·have e:m=0:=by omega
  subst e;have r:l=0:=by omega
  subst r;exact⟨d,c,ex,.inr rfl,λa _ _=>aR.qH _ _ _ _⟩
 ·refine⟨_,c,ex,.inl hc,λa h1 h2=>?_⟩;by_cases g:m=l
  ·subst g;rw[aiM];exact aR.qH _ _ _ _
  ·rw[An alV,ajo,Addr.add_lit];refine aR.fF sz (m - l) _ b (off+l*sz) (a - l) (λi j=>k (l+i) j) o (λi hi=>hlen _ alV) alV (λi j pv hi hj=>?_) (λi j pv hi hj=>q _ j pv alV hj);have:=p (l+i) j pv alV hj;rw[ahK]at this;rw[<-this];congr 2;omega
theorem cQ {o:Oper} {s:Sem Value} {val:Value} {w' b:World} (he:execOp a.eval o=(do pure (Next.value (<-s)):Sem Next)) (hs:s.run P w'=.ok val b):(execOp a.eval o).run P w'=.ok (.value val) b:=by
 rw[he];exact BQ hs
theorem yN (b:∀x,bz μ h S w (ev env x) (a.eval x)) {lo:Option Operand}:(lo.map (ev env)=none->lo.map a.eval=none)/\∀k n,lo.map (ev env)=some (.int k n)->lo.map a.eval=some (.int k n):=by
 cases lo with
 | none=>exact⟨λ_=>rfl,λk n h=>(by cases h)⟩
 | some x=>
  refine⟨λh=>(by cases h),λk n hh=>?_⟩;have hh:ev env x=.int k n:=by injection hh
  have:=b x;rw[hh]at this;show some (a.eval x)=_;rw[this.lZ]
theorem Ny {t e:TypeId} {i:TypeInfo} (hu:P.underlying t=some (.slice e)) (hi:P.info? e=some i) (a:Option Addr) (n c:Nat) (hc:n<=c) (w':World):
  ((Instr.sliceAt t (.slice a n c) none none none).run P w'=.ok (sliced a 0 n c i.size) w')/\
  (∀(k:IntKind) (l:Int),0<=l->l<=n->(Instr.sliceAt t (.slice a n c) (some (.int k l)) none none).run P w'=.ok (sliced a l.toNat n c i.size) w')/\
  (∀(k:IntKind) (m:Int),0<=m->m<=n->(Instr.sliceAt t (.slice a n c) none (some (.int k m)) none).run P w'=.ok (sliced a 0 m.toNat c i.size) w')/\
  (∀(k:IntKind) (l:Int) (d:IntKind) (m:Int),0<=l->l<=m->m<=n->(Instr.sliceAt t (.slice a n c) (some (.int k l)) (some (.int d m)) none).run P w'=.ok (sliced a l.toNat m.toNat c i.size) w')/\
  (∀(k:IntKind) (m:Int) (d:IntKind) (q:Int),0<=m->m<=q->q<=n->(Instr.sliceAt t (.slice a n c) none (some (.int k m)) (some (.int d q))).run P w'=.ok (sliced a 0 m.toNat q.toNat i.size) w')/\
  (∀(k:IntKind) (l:Int) (d:IntKind) (m:Int) (f:IntKind) (q:Int),0<=l->l<=m->m<=q->q<=n->(Instr.sliceAt t (.slice a n c) (some (.int k l)) (some (.int d m)) (some (.int f q))).run P w'=.ok (sliced a l.toNat m.toNat q.toNat i.size) w'):=by
 have he:P.elem t=e:=by simp [Program.elem,hu]
 have b:P.underlying t=some (.slice (P.elem t)):=by rw[he];exact hu
 have g:(n:Int)<=c:=by omega
 refine⟨?_,λk l h0 h1=>?_,λk m h0 h1=>?_,λk l d m h0 h1 h2=>?_,λk m d q h0 h1 h2=>?_,λk l d m f q h0 h1 h2 h3=>?_⟩<;>rw[run_sliceAt_slice w' _ _ _ _ _ b]
 ·rw[run_slice_all w' t a n c b,he,mZ hi];rfl
 ·rw[run_slice_l w' t a n c b k l h0 h1,he,mZ hi];rfl
 ·rw[run_slice_h w' t a n c b k m h0 alV,he,mZ hi];rfl
 ·rw[run_slice_lh w' t a n c b k d l m h0 h1 alV,he,mZ hi];rfl
 ·rw[run_slice_hm w' t a n c b k d m q h0 h1 alV,he,mZ hi];rfl
 ·rw[run_slice_lhm w' t a n c b k d f l m q h0 h1 h2 alV,he,mZ hi];rfl
theorem dq.choose {o:Oper} (hs:dq P o a μ h S w (KK K)):dq P o a μ h S w K:=by
 obtain⟨v,val,d,hv,e⟩:=hs;cases v with
 | fF sz n f=>
  obtain⟨k,l,rfl,hf,d⟩:=d;refine⟨_,val,d,?_,e⟩;rcases hv.xz with⟨a,c,rfl,rfl⟩ | ⟨b,off,c,m,rfl,h1,h2,h3,h4,h5⟩
  ·exact aR.qH _ _ _ _
  ·exact aR.fF sz k l b off c m h1 (λi hi=>by rw[hf i hi];exact h2 i hi) h3 (λi j pv hi hj=>h4 i j pv hi amm) (λi j pv hi hj=>h5 i j pv hi amm)
 | str s=>
  obtain⟨_,rfl,d⟩:=d;exact⟨_,val,d,hv,e⟩
 | own id g off n=>
  obtain⟨_,_,rfl,rfl,d⟩:=d;exact⟨_,val,d,hv,e⟩
 | _=>exact⟨_,val,d,hv,e⟩
theorem KL (I:da P T) (hH:bH μ h S w) (J:∀t,bz μ h S w (env t) (a.tmps.getD t undef)) (t:Nat) (x:Operand) (lo hi j:Option Operand) (hp:ck T (.slice t x lo hi j) env h K):
  dq P ⟨dst,.slice t x lo hi j,ty,pos,after,guard⟩ a μ h S w K:=by
 have y:=bM J x;have r:=yN (λx=>bM J x) (lo:=lo);have u:=yN (λx=>bM J x) (lo:=hi);have B:=yN (λx=>bM J x) (lo:=j);unfold ck at hp;simp only at hp
 have key:∀(K:PV->Prop) (e:TypeId) (i:TypeInfo) (sz n:Nat) (o:Option Addr) (c:Nat) (R:Nat->Nat->PV),P.underlying t=some (.slice e)->P.info? e=some i->i.size=sz->a.eval x=.slice o n c->n<=c->
   (∀l m j,l<=m->m<=n->m<=j->j<=c->bz μ h S w (R l m) (.slice (if j=l then o else o.map (·.add (l*sz))) (m - l) (j - l)))->V7 n (hi.map (ev env)) (j.map (ev env))->
   (match lo.map (ev env),hi.map (ev env)with
    | none,none=>K (R 0 n)
    | some (.int _ l),none=>(0<=l/\l<=n)/\K (R l.toNat n)
    | none,some (.int _ m)=>(0<=m/\m<=n)/\K (R 0 m.toNat)
    | some (.int _ l),some (.int _ m)=>(0<=l/\l<=m/\m<=n)/\K (R l.toNat m.toNat)
    | _,_=>False)->dq P ⟨dst,.slice t x lo hi j,ty,pos,after,guard⟩ a μ h S w K:=by
  intro K e i sz n o c R hu C D ex hc E hm hp;subst D;have A:=λw'=>Ny (P:=P) hu C o n c hc w'
  have fin:∀(l m q:Nat),l<=m->m<=n->m<=q->q<=c->K (R l m)->(∀w',(Instr.sliceAt t (.slice o n c) (lo.map a.eval) (hi.map a.eval) (j.map a.eval)).run P w'=.ok (sliced o l m q i.size) w')->
    dq P ⟨dst,.slice t x lo hi j,ty,pos,after,guard⟩ a μ h S w K:=λl m q h1 h2 h3 h4 L M=>.mk L (E l m q h1 h2 h3 h4) λw' _=>cQ rfl (by rw[ex];exact M w')
  unfold V7 at hm;split at hm
  ·rename_i d;have d:=B.1 d;split at hp
   ·rename_i b e2;exact fin 0 n c alV alV hc alV hp λw'=>by rw[r.1 b,u.1 e2,d];exact(A w').1
   ·rename_i k l b e2;obtain⟨⟨h0,h1⟩,hp⟩:=hp;exact fin l.toNat n c alV alV hc alV hp λw'=>by rw[r.2 _ _ b,u.1 e2,d];exact(A w').2.1 _ _ h0 h1
   ·rename_i k m b e2;obtain⟨⟨h0,h1⟩,hp⟩:=hp;exact fin 0 m.toNat c alV alV alV alV hp λw'=>by rw[r.1 b,u.2 _ _ e2,d];exact(A w').2.2.1 _ _ h0 h1
   ·rename_i k l N m b e2;obtain⟨⟨h0,h1,h2⟩,hp⟩:=hp;exact fin l.toNat m.toNat c alV alV alV alV hp λw'=>by rw[r.2 _ _ b,u.2 _ _ e2,d];exact(A w').2.2.2.1 _ _ _ _ h0 h1 h2
   ·exact alc
  ·rename_i Z q d;have d:=B.2 _ _ d;split at hm
   ·rename_i k3 m v;obtain⟨F,Y⟩:=hm;rw[v]at hp;split at hp
    ·rename_i b e2;cases e2
    ·rename_i b e2;cases e2
    ·rename_i k m' b e2;injection e2 with e2;injection e2 with O Q;subst O;subst Q;obtain⟨⟨h0,h1⟩,hp⟩:=hp;exact fin 0 m.toNat q.toNat alV alV alV alV hp λw'=>by rw[r.1 b,u.2 _ _ v,d];exact(A w').2.2.2.2.1 _ _ _ _ h0 F Y
    ·rename_i k l N m' b e2;injection e2 with e2;injection e2 with O Q;subst O;subst Q;obtain⟨⟨h0,h1,h2⟩,hp⟩:=hp;exact fin l.toNat m.toNat q.toNat alV alV alV alV hp λw'=>by rw[r.2 _ _ b,u.2 _ _ v,d];exact(A w').2.2.2.2.2 _ _ _ _ _ _ h0 h1 F Y
    ·exact alc
   ·exact hm.elim
  ·exact hm.elim
 split at hp
 ·rename_i e sz bt z bF n f G hex;rw[hex]at y;replace hp:=bw hp;obtain⟨U,hm,hp⟩:=hp;obtain rfl:=ahz U;obtain⟨hu,_,inf,zv,C,D,_⟩:=I.slice _ _ _ _ _ G;have e0:(λi=>f (0+i))=f:=by funext i;rw[ahx]
  have H:=λl m (h1:l<=m) (h2:m<=n)=>PY sz n f _ y l m h1 h2;obtain⟨o,c,ex,hc,_⟩:=H 0 0 (ahy _) (aih _);have hc:n<=c:=by rcases hc with hc | hc<;>omega
  refine dq.choose ?_;refine key (KK K) e inf sz n o c (λl m=>.fF sz (m - l) (λi=>f (l+i))) hu C D ex hc (λl m q h1 h2 h3 h4=>?_) hm ?_
  ·obtain⟨V,c',p,_,E⟩:=H l m h1 h2;rw[ex]at p;injection p with b e2 d;subst b;subst d;exact E q h3 (.inl h4)
  ·simp only[e0,Nat.sub_zero];exact hp
 ·rename_i e sz bt z id gen off len G hex;rw[hex]at y;obtain⟨hu,_,inf,zv,C,D,_⟩:=I.slice _ _ _ _ _ G;split at hp
  ·rename_i g bF n' e' f GK;obtain⟨rfl,hp⟩:=hp;replace hp:=bw hp;obtain⟨U,hm,hp⟩:=hp;obtain rfl:=ahz U;have hh:=dz GK;have H:=λl m (h1:l<=m) (h2:m<=len)=>PX I hH id g off len sz n' e' f hh _ y l m h1 h2;obtain⟨o,c,ex,hc,_⟩:=H 0 0 (ahy _) (aih _);refine dq.choose ?_;refine key (KK K) e inf sz len o c (λl m=>.own id g (off+l) (m - l)) hu C D ex hc (λl m q h1 h2 h3 h4=>?_) hm ?_
   ·obtain⟨V,c',p,_,E⟩:=H l m h1 h2;rw[ex]at p;injection p with b e2 d;subst b;subst d;exact E q h3 h4
   ·exact hp
  ·exact alc
 ·rename_i s G hex;rw[hex]at y;replace hp:=bw hp;obtain⟨W,hp⟩:=hp;obtain rfl:j=none:=by simpa using W
  refine dq.choose ?_;generalize KK K=K at*;have ex:=y.oI;have hu:=I.str _ G;have iB:(ByteArray.mk ⟨s⟩).size=s.length:=rfl
  have fin:∀(l m:Nat) (X:List UInt8),X=(s.take m).drop l->K (.str X)->(∀w',(Instr.sliceAt t (.string ⟨⟨s⟩⟩) (lo.map a.eval) (hi.map a.eval) none).run P w'=.ok (.string ((ByteArray.mk ⟨s⟩).extract l m)) w')->
    dq P ⟨dst,.slice t x lo hi none,ty,pos,after,guard⟩ a μ h S w K:=λl m X hs L M=>.mk L (aR.str _) λw' _=>cQ rfl (by rw[ex,hs,<-BS];exact M w')
  simp only[D6]at hp;split at hp
  ·rename_i b e2;exact fin 0 s.length s alW hp λw'=>by rw[r.1 b,u.1 e2,run_sliceAt_string w' _ _ _ _ _ hu,run_slice_string_all w' t ⟨⟨s⟩⟩ hu];rfl
  ·rename_i k l b e2;obtain⟨⟨h0,h1⟩,hp⟩:=hp;exact fin l.toNat s.length _ alW hp λw'=>by rw[r.2 _ _ b,u.1 e2,run_sliceAt_string w' _ _ _ _ _ hu,run_slice_string_l w' t ⟨⟨s⟩⟩ hu k l h0 h1];rfl
  ·rename_i k m b e2;obtain⟨⟨h0,h1⟩,hp⟩:=hp;exact fin 0 m.toNat _ alW hp λw'=>by rw[r.1 b,u.2 _ _ e2,run_sliceAt_string w' _ _ _ _ _ hu,run_slice_string_h w' t ⟨⟨s⟩⟩ hu k m h0 h1]
  ·rename_i k l N m b e2;obtain⟨⟨h0,h1,h2⟩,hp⟩:=hp;exact fin l.toNat m.toNat _ rfl hp λw'=>by rw[r.2 _ _ b,u.2 _ _ e2,run_sliceAt_string w' _ _ _ _ _ hu,run_slice_string w' t ⟨⟨s⟩⟩ k N l m hu h0 h1 h2]
  ·exact alc
 ·exact alc
theorem sW:∀(cs l:List PV) (off j:Nat),off+cs.length<=l.length->(eF l off cs)[j]? =if off<=j/\j<off+cs.length then cs[j - off]? else l[j]?
 | [],l,off,j,_=>by
  simp only[eF,aii,aiv];rw[An alV]
 | c::r,l,off,j,hl=>by
  simp only[eF,ahN]at hl ⊢;rw[sW r (l.set off c) (off+1) j alX];by_cases h1:j=off
  ·subst h1;rw[An alV,As alV,aiM,ain alV];rfl
  ·rw[ahQ alV];by_cases h2:off+1<=j/\j<off+1+r.length
   ·rw[As h2,As alV];have:j - off=(j - (off+1))+1:=by omega
    rw[this,aiu]
   ·rw[An h2,An alV]
theorem oJ:∀(cs l:List PV) (off:Nat),(eF l off cs).length=l.length
 | [],_,_=>rfl
 | c::r,l,off=>by simp only[eF];rw[oJ r];simp
theorem aR.no {pv:PV} {v:Value} (h:aR S w pv v):dj pv=false:=by cases h<;>rfl
theorem OK {c:PV} (h:nE c=true):dj c=false:=by cases c<;>first | rfl | cases h
theorem NA {v:PV} (h:storable v=true) {j:Nat} {pv:PV} (hj:(cellsOf v)[j]? =some pv):dj pv=false:=by
 have hm:=ahJ hj;cases v with
 | agg cs=>exact OK (ahC.1 h pv hm)
 | _=>exact OK (by rw[aiQ.1 hm];exact h)
theorem oK {pv:PV} {v:Value} (hs:storable pv=true) (hv:bz μ h S w pv v):
  v.cells.toList.length=(cellsOf pv).length/\∀(j:Nat) (p:PV),(cellsOf pv)[j]? =some p->∃u,v.cells.toList[j]? =some u/\bK μ h S w p u:=by
 have one:∀(hc:bK μ h S w pv v),cellsOf pv=[pv]->v.cells.toList.length=(cellsOf pv).length/\∀(j:Nat) (p:PV),(cellsOf pv)[j]? =some p->∃u,v.cells.toList[j]? =some u/\bK μ h S w p u:=by
  intro hc he;have h1:=hc.one;have h2:v.cells=#[v]:=by cases v<;>first | rfl | cases h1
  rw[h2,he];refine⟨rfl,λj p hj=>?_⟩;cases j with
  | zero=>
   simp at hj;subst hj;exact⟨v,rfl,hc⟩
  | succ j=>simp at hj
 cases pv with
 | agg cs=>
  obtain⟨vs,rfl,h2,h3⟩:=hv;refine⟨by simpa[Value.cells,cellsOf]using h2,λj p hj=>?_⟩;obtain⟨u,hu,a⟩:=h3 j p hj;exact⟨u,by simpa[Value.cells]using hu,a⟩
 | eG vs=>cases hs
 | bu sz n e f F=>cases hs
 | jw=>cases hs
 | ke id=>exact one hv rfl
 | qE f bJ=>exact one hv rfl
 | int k n=>exact one hv rfl
 | bool b=>exact one hv rfl
 | str s=>exact one hv rfl
 | az=>exact one hv rfl
 | iH=>exact one hv rfl
 | fF sz n f=>exact one hv rfl
 | fC cs=>exact one hv rfl
 | own id gen off len=>exact one hv rfl
 | aF id gen i off=>exact one hv rfl
 | fn f=>exact one hv rfl
theorem GL:∀(l:List Value) (s off:Nat) (cs:Array Value),off+s+l.length<=cs.size->
  ((l.zipIdx s).foldl (λ(cs:Array Value) (p:Value×Nat)=>cs.setIfInBounds (off+p.2) p.1) cs).size=cs.size/\
  ∀q,((l.zipIdx s).foldl (λ(cs:Array Value) (p:Value×Nat)=>cs.setIfInBounds (off+p.2) p.1) cs)[q]? =if off+s<=q/\q<off+s+l.length then l[q - (off+s)]? else cs[q]?
 | [],s,off,cs,_=>by
  refine⟨rfl,λq=>?_⟩;simp only[List.zipIdx_nil,List.foldl_nil,aii,aiv];rw[An alV]
 | v::r,s,off,cs,hl=>by
  simp only[ahN]at hl;obtain⟨h1,h2⟩:=GL r (s+1) off (cs.setIfInBounds (off+s) v) alX;simp only[List.zipIdx_cons,List.foldl_cons,ahN];refine⟨by rw[h1];simp,λq=>?_⟩;rw[h2 q];by_cases hq:q=off+s
  ·subst hq;rw[An alV,As alV,aiM];simp [Array.getElem?_setIfInBounds,show off+s<cs.size from by omega]
  ·by_cases a:off+(s+1)<=q/\q<off+(s+1)+r.length
   ·rw[As a,As alV];have:q - (off+s)=(q - (off+(s+1)))+1:=by omega
    rw[this,aiu]
   ·rw[An a,An alV,ajC alV]
theorem vB (v:Value) (off:Nat) (cs:Array Value) (hl:off+v.cells.size<=cs.size):
  (v.cells.zipIdx.foldl (λ(cs:Array Value) (p:Value×Nat)=>cs.setIfInBounds (off+p.2) p.1) cs).size=cs.size/\
  ∀q,(v.cells.zipIdx.foldl (λ(cs:Array Value) (p:Value×Nat)=>cs.setIfInBounds (off+p.2) p.1) cs)[q]? =if off<=q/\q<off+v.cells.size then v.cells[q - off]? else cs[q]?:=by
 have h:=GL v.cells.toList 0 off cs ams;rw[<-Array.foldl_toList];simp only[Array.toList_zipIdx,aiv,ais,ahV]at h ⊢;exact h
theorem NB {l:List PV} (a:isByte l=true):∃v,l=[.int .u8 v]:=by
 unfold isByte at a;split at a
 ·exact⟨_,rfl⟩
 ·cases a
theorem D7 {g:Nat->List PV} {s:List UInt8} {n:Nat} (hl:s.length=n) (hf:∀i,i<n->g i=[.int .u8 (s.getD i 0).toNat]):(∀i,i<n->isByte (g i)=true)/\(List.range n).map (λi=>byteOf (g i))=s:=by
 refine⟨λi hi=>by rw[hf i hi];rfl,?_⟩;apply ajO (by simp [hl]);intro i h1 h2;simp only[aiY,List.length_range]at h1;rw[ajP,List.getElem_range,hf i h1];simp [byteOf,ahA,abF h2]
theorem FU (A:da P T) (hH:bH μ h S w) (M:∀t,bz μ h S w (env t) (a.tmps.getD t undef)) (s d:Nat) (x:Operand) (hp:ck T (.convert s d x) env h K):
  dq P ⟨dst,.convert s d x,ty,pos,after,guard⟩ a μ h S w K:=by
 have y:=bM M x;unfold ck at hp;simp only at hp;split at hp
 ·rename_i k0 k k1 n hs hd hex;rw[hex]at y
  exact .mk hp (aR.int _ _) λw' _=>cQ rfl (by
   rw[y.lZ];simp [convert,run_underlying (A.int _ _ hs),run_underlying (A.int _ _ hd),Conv.intToInt])
 ·rename_i e sz bt z hs hd;split at hp
  ·rename_i F;have hu:=(A.slice _ _ _ _ _ hs).1;have l:=A.int _ _ F;have m:=A.str _ hd
   have key:∀(b off c n:Nat) (g:Nat->List PV),a.eval x=.slice (some ⟨b,off,none⟩) n c->(∀i,i<n->isByte (g i)=true)->K (.str ((List.range n).map λi=>byteOf (g i)))->
     (∀i v,i<n->g i=[.int .u8 v]->w.cell? ⟨b,off+i,none⟩=some (.int .u8 v))->dq P ⟨dst,.convert s d x,ty,pos,after,guard⟩ a μ h S w K:=by
    intro b off c n g ex B j C;have num:∀i,i<n->∃v,g i=[.int .u8 v]:=λi hi=>NB (B i hi)
    let val:Nat->Int:=λi=>match g i with | [.int _ v]=>v | _=>0
    have J:∀i,i<n->g i=[.int .u8 (val i)]:=λi hi=>by
     obtain⟨v,hv⟩:=num i hi;simp only[val,hv]
    refine .mk j (aR.str _) λw' ha=>cQ rfl ?_;rw[ex,run_convert_bytes_arg w' s e hu l b off n c ((List.range n).map val) alW (λi hi=>?_) d m]
    ·congr 2;simp only[strOfNums]
     have:((List.range n).map val).map (λq=>UInt8.ofNat q.toNat)=(List.range n).map λi=>byteOf (g i):=by
      rw[List.map_map];apply List.map_congr_left;intro i hi;rw[J i (ajk.1 hi)];rfl
     rw[this]
    ·rw[ha.cell (C i _ hi (J i hi))];simp [ahA,hi]
   unfold yO at hp;split at hp
   ·rename_i hex;rw[hex]at y;refine .mk hp (aR.str _) λw' _=>cQ rfl ?_;rw[y.rP,run_convert_bytes_nil w' s e hu l 0 0 d m];rfl
   ·rename_i N n f hex;rw[hex]at y;replace hp:=bw hp;obtain⟨h1,G,D,E,j⟩:=hp;obtain⟨B,o⟩:=D7 D E;replace j:K (.str G):=j;rw[<-o]at j;clear D E o;obtain rfl:=ahz h1;rcases y.xz with⟨O,c,ex,rfl⟩ | ⟨b,off,c,Q,ex,hS,hl,hc,C,R⟩
    ·cases O with
     | none=>
      refine .mk j (aR.str _) λw' _=>cQ rfl ?_;rw[ex,run_convert_bytes_nil w' s e hu l 0 c d m];rfl
     | some H=>
      refine .mk j (aR.str _) λw' _=>cQ rfl ?_;rw[ex,run_convert_bytes_string w' s d e _ 0 c hu l m,run_bytesToString w' H 0 c [] (by simp [loadCells,loadCellsFrom])];rfl
    ·refine key b off c n f ex B j λi v hi hv=>?_;have q1:=C i 0 (.int .u8 v) hi (by rw[hv];rfl);have q2:=R i 0 (.int .u8 v) hi (by rw[hv];rfl);rw[Nat.mul_one,aiv]at q1;rw[q1];generalize Q i 0=u at q2;cases q2;rfl
   ·rename_i id gen off n hex;rw[hex]at y;split at hp
    ·rename_i g N U L f V;obtain⟨rfl,hp⟩:=hp;replace hp:=bw hp;obtain⟨h1,G,D,E,j⟩:=hp;obtain⟨B,o⟩:=D7 (g:=λi=>f (off+i)) D E;replace j:K (.str G):=j;rw[<-o]at j;clear D E o;obtain rfl:=ahz h1;have hh:=dz V;have r:=y.pT;unfold bg at r;rw[hh]at r;obtain⟨⟨a0,l0,c0,e0⟩,_,r⟩:=r;obtain⟨W,r⟩:=r rfl;obtain⟨hl,hc⟩:=hH id g 1 U L f hh;cases hm:μ id with
     | none=>
      rw[hm]at r hc;have I:n=0:=by omega
      subst I;refine .mk j (aR.str _) λw' _=>cQ rfl ?_;rw[show a.eval x=.slice none 0 0 from r,run_convert_bytes_nil w' s e hu l 0 0 d m];rfl
     | some p=>
      obtain⟨b,base⟩:=p;rw[hm]at r hc;obtain⟨H,cap,ex,dy,X,Y⟩:=r;obtain⟨cur,Z,vN,C⟩:=bH.cells Y hc;rcases aiq n with h0 | h0
      ·subst h0;refine .mk j (aR.str _) λw' _=>cQ rfl ?_;rw[ex,run_convert_bytes_string w' s d e _ 0 cap hu l m,run_bytesToString w' H 0 cap [] (by simp [loadCells,loadCellsFrom])];rfl
      ·rw[X alV,Nat.mul_one]at ex;refine key b (base+off) cap n (λi=>f (off+i)) ex B j λi v hi hv=>?_;obtain⟨u,q1,q2⟩:=C (off+i) 0 (.int .u8 v) alV (by rw[hv];rfl);have q2:aR S w (.int .u8 v) u:=q2;cases q2;rw[cell_of_row w b (base+off+i) cur L (0,0) Z,<-q1];congr 1;omega
    ·exact alc
   ·exact alc
  ·exact alc
 ·exact alc
theorem D8 (j:∀t,bz μ h S w (env t) (a.tmps.getD t undef)) (x:Operand) (hp:ck T (.nilCheck x) env h K):
  dq P ⟨dst,.nilCheck x,ty,pos,after,guard⟩ a μ h S w K:=by
 have c:=bM j x;unfold ck at hp;simp only at hp;split at hp
 ·rename_i cs hex;rw[hex]at c;obtain⟨b,off,l,ex,_⟩:=c.zR;exact .mk hp c λw' _=>by simp [execOp,ex]
 ·rename_i id gen i off hex;rw[hex]at c;split at hp
  ·rename_i g sz n e f k;obtain⟨rfl,hp⟩:=hp;have hh:=dz k;have d:=c.wS;unfold bS at d;rw[hh]at d;obtain⟨_,_,d⟩:=d;obtain⟨m,b,base,o,p,hv⟩:=d rfl;exact .mk hp c λw' _=>by simp [execOp,hv]
  ·exact alc
 ·exact alc
theorem BT (c:da P T) {s sz k o size:Nat} {fl:List (Nat×Nat×Bool)} {z:List PV} {a:Bool} (e:T.get s=.struct sz fl z) (g:fl[k]? =some (o,size,a)) (b off:Nat) (w':World):
  (Instr.fieldAt s (.pointer (some ⟨b,off,none⟩)) k).run P w'=.ok (.pointer (some ⟨b,off+o,none⟩)) w':=by
 obtain⟨fs,i,hu,hi,h,l,_,hf⟩:=c.struct _ _ _ _ e;obtain⟨f,j,d,h1,h2,h3,h4,h5,h6,h7⟩:=hf k o size a g;have h0:¬j.size=0:=by omega
 simp [Instr.fieldAt,run_underlying hu,h1,Instr.sureAddr,fieldPlace,mZ h3,h0,Addr.add_lit,h2]
theorem CC (l:da P T) (q:∀t,bz μ h S w (env t) (a.tmps.getD t undef)) (s:Nat) (x:Operand) (k:Nat) (hp:ck T (.fieldAddr s x k) env h K):
  dq P ⟨dst,.fieldAddr s x k,ty,pos,after,guard⟩ a μ h S w K:=by
 have d:=bM q x;unfold ck at hp;simp only at hp;split at hp
 ·rename_i sz fl z m;split at hp
  ·rename_i o size E p;split at hp
   ·rename_i cs hex;rw[hex]at d;obtain⟨b,off,r,ex,u,v,y⟩:=d.zR;refine .mk hp (aR.fC (cs.drop o) b (off+o) (λj=>r (o+j)) u (λj pv hj=>?_) (λj pv hj=>?_)) λw' _=>cQ rfl (by rw[ex];exact BT l m p b off w')
    ·rw[aiE]at hj;rw[ajJ];exact v _ _ hj
    ·rw[aiE]at hj;exact y _ _ hj
   ·rename_i id gen i off hex;rw[hex]at d;split at hp
    ·rename_i g F n e f A;obtain⟨rfl,hp⟩:=hp;have hh:=dz A;have c:=d.wS;unfold bS at c;rw[hh]at c;obtain⟨_,_,c⟩:=c;obtain⟨B,b,base,C,D,hv⟩:=c rfl;refine .mk hp ?_ λw' _=>cQ rfl (by rw[hv];exact BT l m p b _ w');show bS _ _ _ _ _ _ _ _;unfold bS;rw[hh];exact⟨⟨_,rfl⟩,ahy _,λ_=>⟨B,b,base,C,D,by simp only[ajJ]⟩⟩
    ·exact alc
   ·exact alc
  ·exact alc
 ·exact alc
theorem zZ (g:∀t,bz μ h S w (env t) (a.tmps.getD t undef)) (sz:Nat) (fl:List (Nat×Nat×Bool)) (place:Nat->Option (Nat×Nat)) (b:∀(k o size:Nat) (e:Bool),fl[k]? =some (o,size,e)->place k=some (o,size)) {K:List PV->Prop}:
  ∀(l:List (Nat×Operand)) (acc:List PV) (cells:Array Value),rR env sz fl K l acc->cells.size=sz->acc.length=sz->(∀(j:Nat) (pv:PV),acc[j]? =some pv->∃u,cells[j]? =some u/\bK μ h S w pv u)->
  ∃c d,K c/\Instr.fill place cells (l.map λp=>(p.1,a.eval p.2))=some d/\d.size=sz/\c.length=sz/\∀(j:Nat) (pv:PV),c[j]? =some pv->∃u,d[j]? =some u/\bK μ h S w pv u
 | [],acc,cells,hp,hs,hl,f=>⟨acc,cells,hp,rfl,hs,hl,f⟩
 | (k,x)::r,acc,cells,hp,hs,hl,f=>by
  unfold rR at hp;split at hp
  ·rename_i o size e n;replace hp:=bw (bT hp);obtain⟨i,hp⟩:=hp;simp only[No]at i;obtain⟨⟨q,hlen⟩,m⟩:=i;have hlen:=ahz hlen;have m:=ahW m;obtain⟨h3,h4⟩:=oK q (bM g x);simp only[ais,ahV]at h3 h4;have s:(a.eval x).cells.size=size:=h3.trans hlen;obtain⟨v,g2⟩:=vB (a.eval x) o cells alV
   obtain⟨c,d,q1,q2,q3⟩:=zZ g sz fl place b r (eF acc o (cellsOf (ev env x))) ((a.eval x).cells.zipIdx.foldl (λ(cs:Array Value) (p:Value×Nat)=>cs.setIfInBounds (o+p.2) p.1) cells) hp (v.trans hs) (by rw[oJ];exact hl)
    (λj pv hj=>by
     rw[sW _ _ _ _ alV]at hj;rw[g2 j];by_cases hc:o<=j/\j<o+size
     ·rw[As alV]at hj;rw[As alV];exact h4 _ _ hj
     ·rw[An alV]at hj;rw[An alV];exact f j pv hj)
   refine⟨c,d,q1,?_,q3⟩;simp only[ahE,Instr.fill,b k o size e n];rw[An (by simp only[s,ne_eq,not_true_eq_false,false_or];simp only[aiD,aij,not_or];simp;omega)];exact q2
  ·exact alc
theorem GM:∀(fs:List Field) (n:Nat) (fl:List (Nat×Nat×Bool)),fl.length=fs.length->
  (∀(k o size:Nat) (a:Bool),fl[k]? =some (o,size,a)->∃f j,fs[k]? =some f/\f.offset=o/\P.info? f.type=some j/\j.size=size)->
  fs.mapM (λf=>(P.info? f.type).map λi=>(f.offset,i.size))=some (fl.map λq=>(q.1,q.2.1))
 | [],n,[],_,_=>rfl
 | f::fs,n,(o,size,a)::fl,hl,hf=>by
  obtain⟨d,j,h1,h2,h3,h4⟩:=hf 0 o size a rfl;simp at h1;subst h1
  have b:=GM fs n fl ams (λk o size a c=>by
   obtain⟨f,j,q⟩:=hf (k+1) o size a (by simpa using c);exact⟨f,j,by simpa using q⟩)
  simp only[List.mapM_cons,ahE,h3,ajo,Option.bind_eq_bind,ajQ,b,h2,h4];rfl
theorem KM (n:da P T) (r:∀t,bz μ h S w (env t) (a.tmps.getD t undef)) (t:Nat) (parts:Array (Nat×Operand)) (hp:ck T (.build t parts) env h K):
  dq P ⟨dst,.build t parts,ty,pos,after,guard⟩ a μ h S w K:=by
 unfold ck at hp;simp only at hp;split at hp
 ·rename_i sz fl z s;obtain⟨fs,i,hu,hi,C,u,⟨b,v,x,y,A⟩,hf⟩:=n.struct _ _ _ _ s
  have c:=GM (P:=P) fs.toList 0 fl (by simpa using u) (λk o size g e=>by
   obtain⟨f,j,d,h1,h2,h3,h4,_⟩:=hf k o size g e;exact⟨f,j,by simpa using h1,h2,h3,h4⟩)
  obtain⟨D,l,q1,q2,q3,q4,B⟩:=zZ (a:=a) (μ:=μ) (h:=h) (S:=S) (w:=w) r sz fl ((fl.map λq=>(q.1,q.2.1)).toArray[·]?) (λk o size g e=>by simp [e]) parts.toList z b.cells hp x y (λj pv hj=>by
   have m:j<b.cells.size:=by
    have:=(Is.1 hj).1;omega
   obtain⟨pv',h5,_,h6⟩:=A j b.cells[j] (ahX m);rw[hj]at h5;injection h5 with h5;subst h5;exact⟨_,ahX m,bK.kN (h6 S w)⟩)
  refine .mk q1 ⟨l,rfl,by omega,B⟩ λw' _=>cQ rfl (run_build w' t _ l ?_);unfold Program.built;simp only[hi,hu,v,c];have:(parts.map λp=>(p.1,a.eval p.2)).toList=parts.toList.map λp=>(p.1,a.eval p.2):=by simp
  rw[this];exact q2
 ·exact alc
theorem KN {P:Program} {t:TypeId} {d:TypeDesc} {j:TypeInfo} (hu:P.underlying t=some d) (hi:P.info? t=some j) (cs:Array Value) (off:Nat) (w:World):
  (part t cs off).run P w=if DX d then .ok (.agg (cs.extract off (off+j.size))) w else match cs[off]? with | some v=>.ok v w | none=>(part t cs off).run P w:=by
 cases hd:DX d with
 | true=>simp [part,zT hu,hd,mZ hi]
 | false=>
  simp only[aiP,aiO];cases hc:cs[off]? with
  | none=>rfl
  | some v=>simp [part,zT hu,hd,hc]
theorem KO (n:da P T) (p:∀t,bz μ h S w (env t) (a.tmps.getD t undef)) (s:Nat) (x:Operand) (k:Nat) (hp:ck T (.field s x k) env h K):
  dq P ⟨dst,.field s x k,ty,pos,after,guard⟩ a μ h S w K:=by
 have g:=bM p x;unfold ck at hp;simp only at hp;split at hp
 ·rename_i sz fl z y;split at hp
  ·rename_i o size A B;split at hp
   ·rename_i cs hex;rw[hex]at g;obtain⟨vs,ex,D,hv⟩:=g;obtain⟨fs,i,hu,hi,E,F,_,hf⟩:=n.struct _ _ _ _ y;obtain⟨f,j,d,h1,h2,h3,h4,h5,h6,h7⟩:=hf k o size A B
    have l:∀w' v,(part f.type vs f.offset).run P w'=.ok v w'->(execOp a.eval ⟨dst,.field s x k,ty,pos,after,guard⟩).run P w'=.ok (.value v) w':=λw' v C=>cQ rfl (by
     rw[ex];simp [Instr.field,run_underlying hu,h1,C,asAgg])
    split at hp
    ·obtain⟨hle,m⟩:=rQ _ _ _ hp;simp only[ajM,aiC,ajc]at m hle;refine .mk m (val:=.agg (vs.extract o (o+size))) ⟨_,rfl,by simp;omega,λq pv hq=>?_⟩ λw' _=>l w' _ (by rw[KN h6 h3,<-h7,As rfl,h2,h4]);rw[ajp]at hq;split at hq
     ·rename_i G;rw[aiE]at hq;obtain⟨u,b,e⟩:=hv _ _ hq;refine⟨u,?_,e⟩;rw[Array.getElem?_extract];have:o+q<vs.size:=(ahB.1 b).1;rw[As alV];exact b
     ·cases hq
    ·split at hp
     ·rename_i c r hd
      have h0:cs[o]? =some c:=by
       have:=congrArg (·[0]?) hd;simpa using this
      obtain⟨u,b,e⟩:=hv _ _ h0;exact .mk (bT hp) e.v λw' _=>l w' _ (by rw[KN h6 h3,<-h7,h2];simp [b])
     ·exact alc
   ·exact alc
  ·exact alc
 ·exact alc
theorem tF.P0 {pv:PV} {v:Value} (hs:kO pv=true) (a:tF pv v):bz μ h S w pv v:=by
 have one:∀(pv:PV) (v:Value),wU pv=true->vA pv v->bK μ h S w pv v:=λpv v hs a=>by
  cases pv<;>first | (cases hs;done) | (have a:v=_:=a;subst a;first | exact aR.int _ _ | exact aR.bool _ | exact aR.str _) | exact a
 cases pv with
 | agg cs=>
  obtain⟨vs,h1,h2,h3⟩:=a;exact⟨vs,h1,h2,λj pv hj=>let⟨u,hu,hc⟩:=h3 j pv hj;⟨u,hu,one pv u (ahC.1 hs _ (ahJ hj)) hc⟩⟩
 | jw=>trivial
 | int k n=>exact one (.int k n) v rfl a
 | bool b=>exact one (.bool b) v rfl a
 | str s=>exact one (.str s) v rfl a
 | _=>cases hs
theorem tF.ac8 {pv:PV} {v:Value} (hs:kO pv=true) (a:tF pv v):jz μ h S w pv v:=by
 have:=tF.P0 (μ:=μ) (h:=h) (S:=S) (w:=w) hs a;cases pv with
 | eG _=>cases hs
 | _=>exact this
theorem Iu (E:da P T) (hH:bH μ h S w) (F:∀t,bz μ h S w (env t) (a.tmps.getD t undef)) (t:Nat) (x i:Operand) (ok:Bool) (hp:ck T (.lookup t x i ok) env h K):
  dq P ⟨dst,.lookup t x i ok,ty,pos,after,guard⟩ a μ h S w K:=by
 have G:=bM F x;have hi:=bM F i;simp only[ck]at hp;split at hp
 ·rename_i kt Z zv id O hex;rw[hex]at G;split at hp
  ·rename_i g sz n e f Q;replace hp:=bw (bT hp);obtain⟨R,r,b,hm,H⟩:=hp;obtain⟨hu,inf,z,U,V,W,X,xV⟩:=E.map _ _ _ _ O;obtain⟨k,base,es,c,eu,ex,p,hn,I⟩:=D0 hH (dz Q) G.Ir;obtain⟨q0,h0⟩:=Option.isSome_iff_exists.1 R;obtain⟨d,s,hd,J,L⟩:=OJ E hi h0
   have M:∀m,m<=n->GN (T.get kt) f m (ev env i)->∀j,j<m->∀y:MapEntry,es.toList[j]? =some y->wT P kt d s (a.eval i) y.key false:=λm Y hM j hj y hy=>by
    obtain⟨kp,vp,h1,h2⟩:=hM j hj;obtain⟨q,u,en,h3,_,_,h4,h5,_⟩:=I j alV;rw[h1]at h3;injection h3 with v e2;subst v;have:y=en:=by rw[ahV]at hy;exact aim (hy.symm.trans h4)
    subst this;exact L kp y.key false h5 h2
   have run:∃val,tF r val/\kO r=true/\∀w',cc w w'->(Instr.lookup t (.map (some k)) (a.eval i) ok).run P w'=.ok (if ok then .tuple #[val,.bool b]else val) w':=by
    rcases hm with⟨rfl,A,B,hM,kp,hf,hq⟩ | ⟨rfl,rfl,hM⟩
    ·obtain⟨q,u,en,h3,_,h6,h4,h5,h7⟩:=I A B;rw[hf]at h3;injection h3 with v e2;injection e2 with e2 _;subst v e2;refine⟨en.val,h7,h6,λw' ha=>?_⟩;have C:w'.heap[k]? =some (.map es c):=(ha.blocks k (ahB.1 p).1).trans p;have D:=D3 (P:=P) (w':=w') hd es.toList A en (M A alV hM) (by rw[ahV];exact h4) (L kp en.key true h5 hq);simp [Instr.lookup,run_underlying hu,run_getObj_map w' k es c C,J,D]
    ·refine⟨z,W,X,λw' ha=>?_⟩;have C:w'.heap[k]? =some (.map es c):=(ha.blocks k (ahB.1 p).1).trans p
     have D:=zX (P:=P) (w':=w') hd es.toList (λj y hy=>M n (ahy _) hM j (by
      have:=(Is.1 hy).1;rw[<-hn];simpa using this) y hy)
     simp [Instr.lookup,run_underlying hu,run_getObj_map w' k es c C,J,D,zeroValue,typeInfo,U,V]
   obtain⟨val,l,o,N⟩:=run;cases ok with
   | true=>
    refine .mk H ?_ λw' ha=>cQ rfl (by rw[ex];exact N w' ha)
    exact⟨_,rfl,rfl,λj pv hj=>by
     rcases j with _ | _ | j
     ·cases hj;exact⟨_,rfl,l.ac8 o⟩
     ·cases hj;exact⟨_,rfl,aR.bool _⟩
     ·simp at hj⟩
   | false=>exact .mk (bT H) (l.P0 o) λw' ha=>cQ rfl (by rw[ex];exact N w' ha)
  ·exact alc
 ·exact alc
theorem Ea {env:Env} {K:List (Nat×Nat)->Prop}:∀(l:List Operand) (acc:List (Nat×Nat)),wV env K l acc->∃bJ,K (acc.reverse++bJ)/\bJ.length=l.length/\∀(j:Nat) (x:Operand) (p:Nat×Nat),l[j]? =some x->bJ[j]? =some p->ev env x=.aF p.1 p.2 0 0
 | [],acc,h=>⟨[],by rw[aiL];exact h,rfl,λj x p a=>by simp at a⟩
 | x::r,acc,h=>by
  unfold wV at h;split at h
  ·rename_i id gen he;obtain⟨bJ,h1,h2,h3⟩:=Ea r _ h;refine⟨(id,gen)::bJ,by simpa using h1,by simp [h2],λj y p hy hp=>?_⟩;cases j with
   | zero=>simp at hy hp;subst hy;subst hp;exact he
   | succ j=>exact h3 j y p amo amj
  ·exact h.elim
theorem Eb (c:∀t,bz μ h S w (env t) (a.tmps.getD t undef)) (fn:Fn) (first captured:Array Operand) (hp:ck T (.makeFunc fn first captured) env h K):
  dq P ⟨dst,.makeFunc fn first captured,ty,pos,after,guard⟩ a μ h S w K:=by
 simp only[ck]at hp;split at hp
 ·rename_i f;obtain⟨hf,hp⟩:=bw hp;obtain⟨bJ,d,hl,hc⟩:=Ea _ _ hp;have e:first=#[]:=by simpa[Array.isEmpty]using hf
  subst e;refine .mk (val:=.func (.func f) #[] (captured.map a.eval)) (by simpa using d) ?_ λw' ha=>by first | rfl | simp [execOp,Instr.makeFunc]
  show qv μ h w f bJ _;refine⟨_,rfl,by simpa using hl.symm,λj p hj=>?_⟩;have g:j<captured.toList.length:=by rw[<-hl];exact(Is.1 hj).1
  have b:=abF g;refine⟨a.eval captured.toList[j],by rw[ajq,<-ahV,b];rfl,?_⟩;have he:=hc j _ p b hj;have hv:=bM c captured.toList[j];rw[he]at hv;exact hv
 ·exact alc
theorem pz (f:da P T) (hH:bH μ h S w) (e:∀t,bz μ h S w (env t) (a.tmps.getD t undef)) {op:Op} (hp:ck T op env h K):
  dq P ⟨dst,op,ty,pos,after,guard⟩ a μ h S w K:=by
 cases op with
 | lookup t x i ok=>exact Iu f hH e t x i ok hp
 | makeFunc fn first captured=>exact Eb e fn first captured hp
 | move x=>exact .mk (bT hp) (bM e x) λ_ _=>rfl
 | assign x=>exact .mk (bT hp) (bM e x) λ_ _=>rfl
 | pick c x y=>
  have hc:=bM e c;simp only[ck]at hp;split at hp
  ·rename_i b hex;rw[hex]at hc;have m:=hc.nQ;obtain⟨h1,h2⟩:=lD hp;cases b with
   | true=>exact .mk (bT (h1 rfl)) (bM e x) λw' _=>by simp [execOp,m,asBool]
   | false=>exact .mk (bT (h2 rfl)) (bM e y) λw' _=>by simp [execOp,m,asBool]
  ·exact alc
 | binOp p t x y q=>exact PT f p t q x y _ _ (bM e x) (bM e y) hp
 | unOp u t x=>
  have g:=bM e x;simp only[ck]at hp;split at hp
  ·rename_i b hex;rw[hex]at g;exact .mk hp (aR.bool _) λw' _=>cQ rfl (by rw[g.nQ,unary_not];rfl)
  ·rename_i k n hex;rw[hex]at g;exact .mk hp (aR.int _ _) λw' _=>cQ rfl (by rw[g.lZ,unary_neg];rfl)
  ·exact alc
 | load t x=>exact D4 f hH t x _ (bM e x) hp
 | convert s d x=>exact FU f hH e s d x hp
 | nilCheck x=>exact D8 e x hp
 | fieldAddr s x k=>exact CC f e s x k hp
 | build t parts=>exact KM f e t parts hp
 | field s x k=>exact KO f e s x k hp
 | indexAddr t x i=>exact KJ f hH e t x i hp
 | index t x i=>exact D5 f e t x i hp
 | extract x i=>
  have g:=bM e x;simp only[ck]at hp;split at hp
  ·rename_i vs hex;rw[hex]at g;split at hp
   ·rename_i v hv;obtain⟨us,r,e2,z⟩:=g;obtain⟨u,hu,o⟩:=z i v hv
    have j:bz μ h S w v u:=by
     cases v with
     | eG ps=>exact(show False from o).elim
     | _=>exact o
    exact .mk (bT hp) j λw' _=>cQ rfl (by rw[r];simp [Instr.extract,hu])
   ·exact alc
  ·exact alc
 | slice t x lo hi A=>exact KL f hH e t x lo hi A hp
 | call c=>
  obtain⟨l,args,B⟩:=c;cases l with
  | builtin b=>cases b with
   | len=>exact PW f hH e args B hp
   | _=>exact(show False from hp).elim
  | _=>exact(show False from hp).elim
 | _=>exact(show False from hp).elim
end
section
variable {P:Program}{T:rO}{μ:Mu}{h:List al}{S:Nat->Prop}{w w1:World}
def oV (μ:Mu) (id:Nat) (p:Option (Nat×Nat)):Mu:=λj=>if j=id then p else μ j
theorem bp (μ:Mu) (id:Nat) (p:Option (Nat×Nat)):oV μ id p id=p:=by simp [oV]
theorem cw (μ:Mu) {id j:Nat} (p:Option (Nat×Nat)) (hj:j≠id):oV μ id p j=μ j:=by simp [oV,hj]
structure Core (μ:Mu) (h:List al) (S:Nat->Prop) (w:World):Prop where
 heap:bH μ h S w
 ok:sA μ h S w
theorem ue (hc:Core μ h S w) (id g E sz n r:Nat) (e:TypeId) (f t:Nat->List PV) (hh:h[id]? =some (al.row g sz n e f)) (d I:Nat) (J:Array Value)
  (hg:g<=E) (aa:E=g->μ id=some (d,I)/\r=n)
  (l:w.heap.size<=d\/∃base cur,μ id=some (d,base)/\w.heap[d]? =some (.cells cur e (0,0))/\cur.size=J.size)
  (hw:w1.heap[d]? =some (.cells J e (0,0))) (vN:I+r*sz<=J.size)
  (H:∀b,b<w.heap.size->b≠d->w1.heap[b]? =w.heap[b]?) (vC:w.heap.size<=w1.heap.size) (ad:w1.os=w.os) (KP:w1.tape=w.tape) (ND:w1.output=w.output)
  (hl:∀i,i<r->(t i).length=sz) (JA:∀b base,μ id=some (b,base)->¬pr w b)
  (aY:∀(i j:Nat) (pv:PV),i<r->(t i)[j]? =some pv->∃v:Value,J[I+i*sz+j]? =some v/\qw μ h S w pv v) (KQ:Nat)
  (wW:∀(i j O P:Nat) (K:TypeId) (Q:Nat->List PV) (R:Nat->Prop),i<r->(t i)[j]? =some (.bu O P K Q R)->KQ+i<n/\(f (KQ+i))[j]? =some (.bu O P K Q R)):
  Fr μ h S w (oV μ id (some (d,I))) (h.set id (.row E sz r e t)) S w1/\Core (oV μ id (some (d,I))) (h.set id (.row E sz r e t)) S w1:=by
 have hid:id<h.length:=(Is.1 hh).1;have gu:(h.set id (al.row E sz r e t))[id]? =some (al.row E sz r e t):=by simp [hid]
 have s:∀j,j≠id->(h.set id (al.row E sz r e t))[j]? =h[j]?:=λj hj=>by rw[ahQ (aiI hj)]
 have Ta:d<w1.heap.size:=(ahB.1 hw).1
 have wX:d<w.heap.size->cf μ h d:=λF=>by
  rcases l with l | ⟨base,cur,hm,_,_⟩
  ·omega
  ·exact .inl ⟨id,g,sz,n,e,f,base,hh,hm⟩
 have L:∀j x y b,cV (h.set id (al.row E sz r e t)) j x y b->cV h j (if j=id then KQ+x else x) y b:=λj x y b ⟨u,A,B,C,D,O,P,K,Q,R,q1,q2,q3,q4⟩=>by
  by_cases a:j=id
  ·subst a;rw[gu]at q1;injection q1 with q1;injection q1 with T e2 U V W;subst T e2 U V W;obtain⟨r1,X⟩:=wW x y _ _ _ _ _ q2 q3;rw[As rfl];exact⟨_,_,_,_,_,_,_,_,_,_,hh,r1,X,q4⟩
  ·rw[s j a]at q1;rw[An a];exact alQ
 have um:∀j x y b,cV h j x y b->b<w.heap.size/\b≠d:=λj x y b m=>by
  have F:=hc.ok.lt b (.inr ⟨j,x,y,m⟩);refine⟨F,?_⟩;rintro rfl;rcases l with l | ⟨base,cur,hm,_,_⟩
  ·omega
  ·exact hc.ok.hv b ⟨id,g,sz,n,e,f,base,hh,hm⟩ j x y m
 have Y:Fr μ h S w (oV μ id (some (d,I))) (h.set id (.row E sz r e t)) S w1:=by
  refine⟨by simp,λb F wo=>?_,λ_ l=>l,λ_ l=>.inl l,λb Z=>?_,vC,ad,KP,ND,λj u A B C D hj=>?_,λj hj=>?_,λb k AO dy=>?_,λj u A B C D b base hj hm nF=>?_,λb j x y m nF=>?_⟩;rotate_right
  ·obtain⟨q1,q2⟩:=um j x y b m;obtain⟨es,c,q⟩:=nF;exact⟨es,c,(H b q1 q2).trans q⟩
  ·by_cases G:b=d
   ·subst G;exact(wo (wX F)).elim
   ·exact H b F G
  ·rcases Z with⟨j,u,A,B,C,D,oW,hj,hm⟩ | ⟨j,x,y,m⟩;rotate_left
   ·exact .inl (.inr ⟨_,_,_,L j x y b m⟩)
   by_cases a:j=id
   ·subst a;rw[bp]at hm;injection hm with hm;injection hm with h1 h2;subst h1;rcases aip d w.heap.size with F | OL
    ·exact .inl (wX F)
    ·exact .inr OL
   ·rw[s j a]at hj;rw[cw μ _ a]at hm;exact .inl (.inl ⟨j,u,A,B,C,D,oW,hj,hm⟩)
  ·by_cases a:j=id
   ·subst a;rw[hh]at hj;injection hj with hj;injection hj with T e2 U V W;subst T e2 U V W;rw[gu];refine⟨hg,λhe=>?_⟩;obtain⟨h1,h2⟩:=aa he;exact⟨by rw[bp,h1],rfl,h2,rfl⟩
   ·rw[s j a,hj];exact⟨ahy _,λ_=>⟨cw μ _ a,rfl,rfl,rfl⟩⟩
  ·have a:j≠id:=by rintro rfl;rw[hh]at hj;cases hj
   rw[s j a];exact hj
  ·by_cases G:b=d
   ·subst G;obtain⟨cur,K,z,q1,q2⟩:=dy;rcases l with l | ⟨base,Bi,hm,mb,iB⟩
    ·have:=(ahB.1 q1).1;omega
    ·rw[mb]at q1;injection q1 with q1;injection q1 with q1 _ _;subst q1;exact⟨J,e,_,hw,by omega⟩
   ·exact jV.of_same (H b dy.lt G) dy
  ·have a:j≠id:=by rintro rfl;exact JA b base hm nF
   have G:b≠d:=by
    rintro rfl;obtain⟨es,c,q⟩:=nF;rcases l with l | ⟨oC,Bi,M,mb,_⟩
    ·have:=(ahB.1 q).1;omega
    ·rw[mb]at q;cases q
   obtain⟨es,c,q⟩:=nF;exact⟨⟨es,c,(H b (ahB.1 q).1 G).trans q⟩,.inr ⟨⟨_,_,_,_,_,(s j a).trans hj⟩,by rw[cw μ _ a];exact hm⟩⟩
 refine⟨Y,⟨λj u A B C D hj=>?_,?_⟩⟩
 ·by_cases a:j=id
  ·subst a;rw[gu]at hj;injection hj with hj;injection hj with T e2 U V W;subst T e2 U V W;rw[bp];refine⟨hl,bH.Ec ⟨J,hw,vN,λi k pv hi N=>?_⟩⟩;obtain⟨v,h1,h2⟩:=aY i k pv hi N;refine⟨v,h1,h2.fr Y hc.ok (λO P K Q R he b Z=>?_)⟩;rw[he]at N;obtain⟨r1,X⟩:=wW i k _ _ _ _ _ hi N;obtain⟨q1,q2⟩:=um j (KQ+i) k b ⟨_,_,_,_,_,_,_,_,_,_,hh,r1,X,Z⟩;exact H b q1 q2
  ·rw[s j a]at hj;obtain⟨h1,h2⟩:=hc.heap j u A B C D hj;refine⟨h1,?_⟩;rw[cw μ _ a];cases hm:μ j with
   | none=>rw[hm]at h2;exact h2
   | some p=>
    obtain⟨b,base⟩:=p;rw[hm]at h2;obtain⟨o,q1,q2⟩:=h2;have F:b<w.heap.size:=(ahB.1 q1).1
    have G:b≠d:=by
     rintro rfl;rcases l with l | ⟨oC,Bi,M,_⟩
     ·omega
     ·exact a (hc.ok.inj j id _ _ _ _ _ _ _ _ _ _ _ _ _ hj hh hm M)
    exact⟨o,(H b F G).trans q1,q2.mono (λi y pv v hi hy hr=>hr.fr Y hc.ok (λO P K Q R he b' Z=>by
     obtain⟨q1,q2⟩:=um j i y b' ⟨_,_,_,_,_,_,_,_,_,_,hj,hi,by rw[hy,he],Z⟩;exact H b' q1 q2))⟩
 ·refine⟨λb AO OM=>?_,λb AO=>?_,λb OM=>ahS (hc.ok.slt b OM) vC,?_,hc.ok.Bj Y,λb XO j x y m=>?_,λb j x y j' x' y' m vO=>?_⟩;rotate_right 2
  ·obtain⟨q1,q2⟩:=um _ _ _ b (L j x y b m);obtain⟨k,gk,XP,nk,ek,fk,KR,N,hm⟩:=XO;by_cases yP:k=id
   ·subst yP;rw[bp]at hm;injection hm with hm;injection hm with h1 h2;exact q2 h1.symm
   ·rw[s k yP]at N;rw[cw μ _ yP]at hm;exact hc.ok.hv b ⟨k,gk,XP,nk,ek,fk,KR,N,hm⟩ _ _ _ (L j x y b m)
  ·obtain⟨r1,X,r3⟩:=hc.ok.hh b _ _ _ _ _ _ (L j x y b m) (L j' x' y' b vO);subst r1;refine⟨rfl,?_,r3⟩;split at X<;>omega
  ·rcases Y.own b AO with h1 | h1
   ·exact hc.ok.apart b h1 OM
   ·have:=hc.ok.slt b OM;omega
  ·rcases AO with⟨j,u,A,B,C,D,oW,hj,hm⟩ | ⟨j,x,y,m⟩;rotate_left
   ·exact ahS (hc.ok.lt b (.inr ⟨_,_,_,L j x y b m⟩)) vC
   by_cases a:j=id
   ·subst a;rw[bp]at hm;injection hm with hm;injection hm with h1 h2;subst h1;exact Ta
   ·rw[s j a]at hj;rw[cw μ _ a]at hm;exact ahS (hc.ok.lt b (.inl ⟨j,u,A,B,C,D,oW,hj,hm⟩)) vC
  ·intro i j gi P1 ni ei fi u A B C D b o o' hi hj oQ nN;by_cases KS:i=id
   ·by_cases a:j=id
    ·rw[KS,a]
    ·subst KS;rw[bp]at oQ;injection oQ with oQ;injection oQ with h1 h2;subst h1;rw[s j a]at hj;rw[cw μ _ a]at nN;rcases l with l | ⟨oC,Bi,M,_⟩
     ·have:=hc.ok.lt _ (.inl ⟨j,u,A,B,C,D,o',hj,nN⟩);omega
     ·exact hc.ok.inj i j _ _ _ _ _ _ _ _ _ _ _ _ _ hh hj M nN
   ·rw[s i KS]at hi;rw[cw μ _ KS]at oQ;by_cases a:j=id
    ·subst a;rw[bp]at nN;injection nN with nN;injection nN with h1 h2;subst h1;rcases l with l | ⟨oC,Bi,M,_⟩
     ·have:=hc.ok.lt _ (.inl ⟨i,gi,P1,ni,ei,fi,o,hi,oQ⟩);omega
     ·exact hc.ok.inj i j _ _ _ _ _ _ _ _ _ _ _ _ _ hi hh oQ M
    ·rw[s j a]at hj;rw[cw μ _ a]at nN;exact alF
theorem GO (hc:Core μ h S w) (sz n:Nat) (e:TypeId) (f:Nat->List PV) (p:Option (Nat×Nat))
  (hp:match p with
   | none=>n=0
   | some (b,base)=>w.heap.size<=b/\∃o:Obj,w1.heap[b]? =some o/\yQ (bK μ h S w) base sz n e f o)
  (ha:cc w w1) (hl:∀i,i<n->(f i).length=sz) (O:∀(i j:Nat) (pv:PV),i<n->(f i)[j]? =some pv->dj pv=false):
  Fr μ h S w (oV μ h.length p) (h++[.row 0 sz n e f]) S w1/\Core (oV μ h.length p) (h++[.row 0 sz n e f]) S w1:=by
 have C:∀j o,h[j]? =some o->(h++[al.row 0 sz n e f])[j]? =some o:=λj o hj=>by
  rw[aia (Is.1 hj).1];exact hj
 have T:(h++[al.row 0 sz n e f])[h.length]? =some (al.row 0 sz n e f):=by simp
 have s:∀j o,(h++[al.row 0 sz n e f])[j]? =some o->(h[j]? =some o/\j≠h.length)\/(j=h.length/\o=al.row 0 sz n e f):=λj o hj=>by
  rcases Nat.lt_trichotomy j h.length with t | heq | GK
  ·rw[aia t]at hj;exact .inl ⟨hj,by omega⟩
  ·subst heq;rw[T]at hj;injection hj with hj;exact .inr ⟨rfl,hj.symm⟩
  ·rw[ahO alX]at hj;cases hj
 have P:∀j o,h[j]? =some o->oV μ h.length p j=μ j:=λj o hj=>cw μ _ (by have:=(Is.1 hj).1;omega)
 have u:∀j x y b,cV (h++[al.row 0 sz n e f]) j x y b->cV h j x y b:=λj x y b ⟨d,g,l,m,r,U,V,W,X,Y,q1,q2,q3,q4⟩=>by
  rcases s j _ q1 with⟨h1,h2⟩ | ⟨h1,h2⟩
  ·exact⟨_,_,_,_,_,_,_,_,_,_,h1,q2,q3,q4⟩
  ·injection h2 with D e2 E F G;subst D e2 E F G;have:=O x y _ q2 q3;cases this
 have z:Fr μ h S w (oV μ h.length p) (h++[.row 0 sz n e f]) S w1:=by
  refine⟨by simp,λb t _=>ha.blocks b t,λ_ H=>H,λ_ H=>.inl H,λb I=>?_,ha.size,ha.os,ha.tape,ha.output,λj d g l m r hj=>?_,λj hj=>C j _ hj,λb k A Q=>jV.of_same (ha.blocks b Q.lt) Q,λj d g l m r b base hj hm J=>⟨let⟨es,c,q⟩:=J;⟨es,c,(ha.blocks b (ahB.1 q).1).trans q⟩,.inr ⟨⟨_,_,_,_,_,C j _ hj⟩,by rw[P j _ hj];exact hm⟩⟩,λb j x y a J=>let⟨es,c,q⟩:=J;⟨es,c,(ha.blocks b (ahB.1 q).1).trans q⟩⟩
  ·rcases I with⟨j,d,g,l,m,r,K,hj,hm⟩ | ⟨j,x,y,a⟩;rotate_left
   ·exact .inl (.inr ⟨_,_,_,u j x y b a⟩)
   rcases s j _ hj with⟨h1,h2⟩ | ⟨h1,h2⟩
   ·rw[cw μ _ h2]at hm;exact .inl (.inl ⟨j,d,g,l,m,r,K,h1,hm⟩)
   ·subst h1;rw[bp]at hm;subst hm;exact .inr hp.1
  ·rw[C j _ hj];exact⟨ahy _,λ_=>⟨P j _ hj,rfl,rfl,rfl⟩⟩
 refine⟨z,⟨λj d g l m r hj=>?_,?_⟩⟩
 ·rcases s j _ hj with⟨h1,h2⟩ | ⟨h1,h2⟩
  ·obtain⟨q1,q2⟩:=hc.heap j d g l m r h1;refine⟨q1,?_⟩;rw[cw μ _ h2];cases hm:μ j with
   | none=>rw[hm]at q2;exact q2
   | some L=>
    obtain⟨b,base⟩:=L;rw[hm]at q2;obtain⟨o,r1,M⟩:=q2;have t:b<w.heap.size:=(ahB.1 r1).1;exact⟨o,(ha.blocks b t).trans r1,M.mono (λi y pv v hi hy N=>N.fr z hc.ok (λU V W X Y he R I=>ha.blocks R (hc.ok.lt R (.inr ⟨j,i,y,_,_,_,_,_,_,_,_,_,_,h1,hi,he▸hy,I⟩))))⟩
  ·subst h1;injection h2 with D e2 E F G;subst D e2 E F G;rw[bp];refine⟨hl,?_⟩;cases p with
   | none=>exact hp
   | some L=>
    obtain⟨b,base⟩:=L;obtain⟨_,o,r1,M⟩:=hp;exact⟨o,r1,M.mono (λi y pv v hi hy N=>(N.fr z hc.ok).k (O i y pv hi hy))⟩
 ·refine⟨λb A B=>?_,λb A=>?_,λb B=>ahS (hc.ok.slt b B) ha.size,?_,hc.ok.Bj z,λb Z j x y a=>?_,λb j x y j' x' y' a vO=>hc.ok.hh b _ _ _ _ _ _ (u j x y b a) (u j' x' y' b vO)⟩;rotate_right
  ·have a:=u j x y b a;obtain⟨k,gk,XP,nk,ek,fk,KR,hk,hm⟩:=Z;rcases s k _ hk with⟨h1,h2⟩ | ⟨h1,h2⟩
   ·rw[cw μ _ h2]at hm;exact hc.ok.hv b ⟨k,gk,XP,nk,ek,fk,KR,h1,hm⟩ _ _ _ a
   ·subst h1;rw[bp]at hm;subst hm;have:=hc.ok.lt b (.inr ⟨_,_,_,a⟩);have:=hp.1;omega
  ·rcases z.own b A with h1 | h1
   ·exact hc.ok.apart b h1 B
   ·have:=hc.ok.slt b B;omega
  ·rcases A with⟨j,d,g,l,m,r,K,hj,hm⟩ | ⟨j,x,y,a⟩;rotate_left
   ·exact ahS (hc.ok.lt b (.inr ⟨_,_,_,u j x y b a⟩)) ha.size
   rcases s j _ hj with⟨h1,h2⟩ | ⟨h1,h2⟩
   ·rw[cw μ _ h2]at hm;exact ahS (hc.ok.lt b (.inl ⟨j,d,g,l,m,r,K,h1,hm⟩)) ha.size
   ·subst h1;rw[bp]at hm;subst hm;obtain⟨_,o,r1,_⟩:=hp;exact(ahB.1 r1).1
  ·intro i j gi P1 ni ei fi d g l m r b o o' hi hj oQ nN;rcases s i _ hi with⟨h1,h2⟩ | ⟨h1,h2⟩
   ·rw[cw μ _ h2]at oQ;rcases s j _ hj with⟨h3,h4⟩ | ⟨h3,h4⟩
    ·rw[cw μ _ h4]at nN;exact hc.ok.inj i j _ _ _ _ _ _ _ _ _ _ _ _ _ h1 h3 oQ nN
    ·subst h3;rw[bp]at nN;subst nN;have:=hc.ok.lt _ (.inl ⟨i,gi,P1,ni,ei,fi,o,h1,oQ⟩);have:=hp.1;omega
   ·subst h1;rw[bp]at oQ;rcases s j _ hj with⟨h3,h4⟩ | ⟨h3,h4⟩
    ·rw[cw μ _ h4]at nN;subst oQ;have:=hc.ok.lt _ (.inl ⟨j,d,g,l,m,r,o',h3,nN⟩);have:=hp.1;omega
    ·exact h3.symm
theorem rS (hc:Core μ h S w) (sz n:Nat) (e:TypeId) (f:Nat->List PV) (p:Option (Nat×Nat))
  (hp:match p with
   | none=>n=0
   | some (b,base)=>w.heap.size<=b/\∃cur:Array Value,w1.heap[b]? =some (.cells cur e (0,0))/\base+n*sz<=cur.size/\
    ∀(i j:Nat) (pv:PV),i<n->(f i)[j]? =some pv->∃v:Value,cur[base+i*sz+j]? =some v/\bK μ h S w pv v)
  (ha:cc w w1) (hl:∀i,i<n->(f i).length=sz) (a:∀(i j:Nat) (pv:PV),i<n->(f i)[j]? =some pv->dj pv=false):
  Fr μ h S w (oV μ h.length p) (h++[.row 0 sz n e f]) S w1/\Core (oV μ h.length p) (h++[.row 0 sz n e f]) S w1:=by
 refine GO hc sz n e f p ?_ ha hl a;cases p with
 | none=>exact hp
 | some q=>exact⟨hp.1,bH.Ec hp.2⟩
theorem jV.yJ {b k:Nat} (h:jV w b k):¬pr w b:=by
 rintro⟨es,c,q⟩;obtain⟨cur,e,z,h1,_⟩:=h;rw[h1]at q;cases q
end
theorem ng.refl:∀(l:List PV),ng l l
 | []=>trivial
 | a::l=>⟨.same a,ng.refl l⟩
theorem ng.len:∀{l r:List PV},ng l r->r.length=l.length
 | [],[],_=>rfl
 | a::l,b::r,h=>by simp [ng.len h.2]
 | [],_::_,h=>h.elim
 | _::_,[],h=>h.elim
theorem ng.get:∀{l r:List PV},ng l r->∀{j:Nat} {b:PV},r[j]? =some b->∃a,l[j]? =some a/\QU a b
 | [],[],_,j,b,hj=>by simp at hj
 | a::l,c::r,h,0,b,hj=>by simp at hj;subst hj;exact⟨a,rfl,h.1⟩
 | a::l,c::r,h,j+1,b,hj=>by
  obtain⟨x,q1,q2⟩:=ng.get h.2 (j:=j) amc;exact⟨x,by simpa using q1,q2⟩
 | [],_::_,h,_,_,_=>h.elim
 | _::_,[],h,_,_,_=>h.elim
theorem ng.ac9:∀{l r:List PV},ng l r->∀{j:Nat} {a:PV},l[j]? =some a->∃b,r[j]? =some b/\QU a b
 | [],[],_,j,b,hj=>by simp at hj
 | a::l,c::r,h,0,b,hj=>by simp at hj;subst hj;exact⟨c,rfl,h.1⟩
 | a::l,c::r,h,j+1,b,hj=>by
  obtain⟨x,q1,q2⟩:=ng.ac9 h.2 (j:=j) amc;exact⟨x,by simpa using q1,q2⟩
 | [],_::_,h,_,_,_=>h.elim
 | _::_,[],h,_,_,_=>h.elim
theorem QU.aay {a b:PV} (h:QU a b) {μ:Mu} {l:List al} {S:Nat->Prop} {w:World} {v:Value} (c:bK μ l S w a v):bK μ l S w b v:=by
 cases h with
 | same=>exact c
 | nil sz f=>
  have c:aR S w .az v:=c;cases c;exact aR.qH _ _ _ _
 | zq sz e f=>exact bK.one c
def OEq:al->al->Prop
 | .row g sz n e f,.row a b c d h=>g=a/\sz=b/\n=c/\e=d/\∀i,i<n->ng (f i) (h i)
 | .dead,.dead=>True
 | _,_=>False
def dE:List al->List al->Prop
 | [],[]=>True
 | o::l,a::b=>OEq o a/\dE l b
 | _,_=>False
theorem dE.len:∀{l a:List al},dE l a->l.length=a.length
 | [],[],_=>rfl
 | o::l,b::a,h=>by simp [dE.len h.2]
 | [],_::_,h=>h.elim
 | _::_,[],h=>h.elim
theorem dE.get:∀{l b:List al},dE l b->∀{j:Nat} {g sz n:Nat} {e:TypeId} {f:Nat->List PV},l[j]? =some (al.row g sz n e f)->∃a,b[j]? =some (al.row g sz n e a)/\∀i,i<n->ng (f i) (a i)
 | o::l,c::b,h,0,g,sz,n,e,f,hj=>by
  simp at hj;subst hj;cases c with
  | dead=>exact h.1.elim
  | row d k m p a=>
   obtain⟨rfl,rfl,rfl,rfl,hf⟩:=h.1;exact⟨a,rfl,hf⟩
 | o::l,c::b,h,j+1,g,sz,n,e,f,hj=>by
  simp at hj;obtain⟨a,h1,h2⟩:=dE.get h.2 hj;exact⟨a,by simpa using h1,h2⟩
 | [],[],_,_,_,_,_,_,_,hj=>by simp at hj
 | [],_::_,h,_,_,_,_,_,_,_=>h.elim
 | _::_,[],h,_,_,_,_,_,_,_=>h.elim
theorem dE.P2:∀{l a:List al},dE l a->∀{j:Nat} {g sz n:Nat} {e:TypeId} {b:Nat->List PV},a[j]? =some (al.row g sz n e b)->∃f,l[j]? =some (al.row g sz n e f)/\∀i,i<n->ng (f i) (b i)
 | o::l,c::a,h,0,g,sz,n,e,b,hj=>by
  simp at hj;subst hj;cases o with
  | dead=>exact h.1.elim
  | row d k m p f=>
   obtain⟨rfl,rfl,rfl,rfl,hf⟩:=h.1;exact⟨f,rfl,hf⟩
 | o::l,c::a,h,j+1,g,sz,n,e,b,hj=>by
  simp at hj;obtain⟨f,h1,h2⟩:=dE.P2 h.2 hj;exact⟨f,by simpa using h1,h2⟩
 | [],[],_,_,_,_,_,_,_,hj=>by simp at hj
 | [],_::_,h,_,_,_,_,_,_,_=>h.elim
 | _::_,[],h,_,_,_,_,_,_,_=>h.elim
theorem dE.getD:∀{l a:List al},dE l a->∀{j:Nat},l[j]? =some al.dead->a[j]? =some al.dead
 | o::l,b::a,h,0,hj=>by
  simp at hj;subst hj;cases b with
  | dead=>rfl
  | row c d e f g=>exact h.1.elim
 | o::l,b::a,h,j+1,hj=>by
  simp at hj;simpa using dE.getD h.2 hj
 | [],[],_,_,hj=>by simp at hj
 | [],_::_,h,_,_=>h.elim
 | _::_,[],h,_,_=>h.elim
theorem dE.V9 {l c:List al} (h:dE l c) {id i j b:Nat} (d:cV c id i j b):cV l id i j b:=by
 obtain⟨g,sz,n,e,m,o,p,q,f2,r,q1,q2,q3,q4⟩:=d;obtain⟨f,r1,k⟩:=h.P2 q1;obtain⟨a,ha,hle⟩:=(k i q2).get q3;cases hle with
 | same=>exact⟨_,_,_,_,_,_,_,_,_,_,r1,q2,ha,q4⟩
 | zq=>exact q4.elim
theorem dE.ada {l a:List al} (h:dE l a) {μ:Mu} {b:Nat} (c:CV μ a b):CV μ l b:=by
 obtain⟨id,g,sz,n,e,f,base,h1,h2⟩:=c;obtain⟨d,h3,_⟩:=h.P2 h1;exact⟨id,g,sz,n,e,d,base,h3,h2⟩
theorem dE.Bk {l c:List al} (h:dE l c) {μ:Mu} {b:Nat} (a:cf μ c b):cf μ l b:=by
 rcases a with a | ⟨id,i,j,a⟩
 ·exact .inl (h.ada a)
 ·exact .inr ⟨id,i,j,h.V9 a⟩
theorem dE.hid {l a:List al} (h:dE l a) {id i j b:Nat} (d:cV l id i j b):cV a id i j b:=by
 obtain⟨g,sz,n,e,f,m,o,p,f2,q,q1,q2,q3,q4⟩:=d;obtain⟨r,r1,k⟩:=h.get q1;obtain⟨c,hc,hle⟩:=(k i q2).ac9 q3;cases hle;exact⟨_,_,_,_,_,_,_,_,_,_,r1,q2,hc,q4⟩
theorem dE.owned {l c:List al} (h:dE l c) {μ:Mu} {b:Nat} (a:cf μ l b):cf μ c b:=by
 rcases a with⟨id,g,sz,n,e,f,base,h1,h2⟩ | ⟨x,y,z,a⟩
 ·obtain⟨d,h3,_⟩:=h.get h1;exact .inl ⟨id,g,sz,n,e,d,base,h3,h2⟩
 ·exact .inr ⟨_,_,_,h.hid a⟩
theorem dE.own {l c:List al} (h:dE l c) {μ:Mu} {w:World} {id gen off len:Nat} {v:Value} (a:bg μ l w id gen off len v):bg μ c w id gen off len v:=by
 unfold bg at*;refine⟨a.1,?_⟩;have a:=a.2;cases b:l[id]? with
 | none=>rw[b]at a;exact a.elim
 | some o=>
  cases o with
  | dead=>rw[h.getD b];trivial
  | row g sz n e f=>
   obtain⟨d,h1,_⟩:=h.get b;rw[b]at a;rw[h1];exact a
theorem dE.aF {l c:List al} (h:dE l c) {μ:Mu} {id gen i off:Nat} {v:Value} {w:World} (a:bS μ l w id gen i off v):bS μ c w id gen i off v:=by
 unfold bS at*;refine⟨a.1,?_⟩;have a:=a.2;cases b:l[id]? with
 | none=>rw[b]at a;exact a.elim
 | some o=>
  cases o with
  | dead=>rw[h.getD b];trivial
  | row g sz n e f=>
   obtain⟨d,h1,_⟩:=h.get b;rw[b]at a;rw[h1];exact a
theorem QU.Wa {a b:PV} (h:QU a b) (ha:kO a=true):b=a:=by
 cases h with
 | same=>rfl
 | _=>cases ha
theorem ng.Wa {kp d:PV} {l:List PV} (h:ng [kp,d] l) (h1:kO kp=true) (h2:kO d=true):l=[kp,d]:=by
 rcases l with _ | ⟨a,_ | ⟨b,_ | ⟨c,l⟩⟩⟩
 ·exact h.elim
 ·exact h.2.elim
 ·rw[h.1.Wa h1,h.2.1.Wa h2]
 ·exact h.2.2.elim
theorem dE.ke {l c:List al} (h:dE l c) {μ:Mu} {w:World} {id:Nat} {v:Value} (a:gg μ l w id v):gg μ c w id v:=by
 unfold gg at*;refine⟨a.1,?_⟩;have a:=a.2;cases b:l[id]? with
 | none=>rw[b]at a;exact a.elim
 | some o=>
  cases o with
  | dead=>rw[h.getD b];trivial
  | row g sz n e f=>
   obtain⟨d,h1,_⟩:=h.get b;rw[b]at a;rw[h1];exact a
theorem dE.qE {l a:List al} (h:dE l a) {μ:Mu} {w:World} {f:Nat} {bJ:List (Nat×Nat)} {v:Value} (b:qv μ l w f bJ v):qv μ a w f bJ v:=vP.mono b (λid g u hu=>h.aF hu)
theorem dE.aay {l b:List al} (h:dE l b) {μ:Mu} {S:Nat->Prop} {w:World} {pv:PV} {v:Value} (a:bK μ l S w pv v):bK μ b S w pv v:=by
 cases pv with
 | own id gen off len=>exact h.own a
 | aF id gen i off=>exact h.aF a
 | ke id=>exact h.ke a
 | qE f bJ=>exact h.qE a
 | _=>exact a
theorem dE.aaz {l a:List al} (h:dE l a) {μ:Mu} {S:Nat->Prop} {w:World} {pv:PV} {v:Value} (b:qw μ l S w pv v):qw μ a S w pv v:=by
 cases pv with
 | bu sz n e f F=>exact b
 | _=>exact bK.k (h.aay (qw.c b)) rfl
theorem QU.aaz {a b:PV} (h:QU a b) {μ:Mu} {l:List al} {S:Nat->Prop} {w:World} {v:Value} (c:qw μ l S w a v):qw μ l S w b v:=by
 cases h with
 | same=>exact c
 | nil sz f=>
  have c:aR S w .az v:=c;cases c;exact aR.qH _ _ _ _
 | zq sz e f=>
  have c:aR S w .az v:=c;cases c;exact nq.nil _ _ _ _ (λ_ h=>h)
theorem dE.P0 {l b:List al} (h:dE l b) {μ:Mu} {S:Nat->Prop} {w:World} {pv:PV} {v:Value} (a:jz μ l S w pv v):jz μ b S w pv v:=by
 cases pv with
 | own id gen off len=>exact h.own a
 | aF id gen i off=>exact h.aF a
 | ke id=>exact h.ke a
 | qE f bJ=>exact h.qE a
 | agg cs=>
  obtain⟨vs,h1,h2,h3⟩:=a;exact⟨vs,h1,h2,λj pv hj=>by obtain⟨u,hu,hc⟩:=h3 j pv hj;exact⟨u,hu,h.aay hc⟩⟩
 | _=>exact a
theorem dE.refl:∀(l:List al),dE l l
 | []=>trivial
 | .row g sz n e f::l=>⟨⟨rfl,rfl,rfl,rfl,λ_ _=>ng.refl _⟩,dE.refl l⟩
 | .dead::l=>⟨trivial,dE.refl l⟩
theorem dE.set:∀(l:List al) (id g sz n:Nat) (e:TypeId) (f a:Nat->List PV),(∀i,i<n->ng (f i) (a i))->dE (l.set id (.row g sz n e f)) (l.set id (.row g sz n e a))
 | [],_,_,_,_,_,_,_,_=>trivial
 | o::l,0,g,sz,n,e,f,a,hf=>⟨⟨rfl,rfl,rfl,rfl,hf⟩,dE.refl l⟩
 | o::l,id+1,g,sz,n,e,f,a,hf=>⟨by cases o;exact⟨rfl,rfl,rfl,rfl,λ_ _=>ng.refl _⟩;exact trivial,dE.set l id g sz n e f a hf⟩
theorem dE.snoc:∀(l:List al) (g sz n:Nat) (e:TypeId) (f a:Nat->List PV),(∀i,i<n->ng (f i) (a i))->dE (l++[.row g sz n e f]) (l++[.row g sz n e a])
 | [],g,sz,n,e,f,a,hf=>⟨⟨rfl,rfl,rfl,rfl,hf⟩,trivial⟩
 | o::l,g,sz,n,e,f,a,hf=>⟨by cases o;exact⟨rfl,rfl,rfl,rfl,λ_ _=>ng.refl _⟩;exact trivial,dE.snoc l g sz n e f a hf⟩
theorem dE.af2 {l b:List al} (h:dE l b) {μ:Mu} {S:Nat->Prop} {w:World} {pv:PV} {v:Value} (a:bz μ l S w pv v):bz μ b S w pv v:=by
 cases pv with
 | eG ps=>
  obtain⟨vs,h1,h2,h3⟩:=a;exact⟨vs,h1,h2,λj pv hj=>by obtain⟨u,hu,hc⟩:=h3 j pv hj;exact⟨u,hu,h.P0 hc⟩⟩
 | own id gen off len=>exact h.own a
 | aF id gen i off=>exact h.aF a
 | ke id=>exact h.ke a
 | qE f bJ=>exact h.qE a
 | agg cs=>exact h.P0 (pv:=.agg cs) a
 | _=>exact a
theorem dE.core {l q:List al} (he:dE l q) {μ:Mu} {S:Nat->Prop} {w:World} (hc:Core μ l S w):Core μ q S w:=by
 refine⟨λid g sz n e f hid=>?_,⟨λb h=>hc.ok.apart b (he.Bk h),λb h=>hc.ok.lt b (he.Bk h),hc.ok.slt,λi j g sz n e f x y A r s b o B hi hj h1 h3=>?_,hc.ok.known,λb h id i j k=>hc.ok.hv b (he.ada h) id i j (he.V9 k),λb _ _ _ _ _ _ k hy=>hc.ok.hh b _ _ _ _ _ _ (he.V9 k) (he.V9 hy)⟩⟩
 ·obtain⟨s,h1,h3⟩:=he.P2 hid;obtain⟨q1,q2⟩:=hc.heap id g sz n e s h1;refine⟨λi hi=>by rw[(h3 i hi).len];exact q1 i hi,?_⟩;cases hm:μ id with
  | none=>rw[hm]at q2;exact q2
  | some p=>
   obtain⟨b,base⟩:=p;rw[hm]at q2;obtain⟨o,r1,d⟩:=q2;refine⟨o,r1,?_⟩;cases o with
   | cells cur r z=>
    obtain⟨d,m,C,D⟩:=d;refine⟨d,m,C,λi j pv hi hj=>?_⟩;obtain⟨a,ha,hle⟩:=(h3 i hi).get hj;obtain⟨v,hv,E⟩:=D i j a hi ha;exact⟨v,hv,he.aaz (hle.aaz E)⟩
   | map es c=>
    obtain⟨d,m⟩:=d;refine⟨d,λi hi=>?_⟩;obtain⟨kp,F,en,G,t,u,H⟩:=m i hi;have hle:=h3 i hi;rw[G]at hle;exact⟨kp,F,en,hle.Wa t u,t,u,H⟩
   | _=>exact d.elim
 ·obtain⟨I,q1,_⟩:=he.P2 hi;obtain⟨J,q2,_⟩:=he.P2 hj;exact hc.ok.inj i j g sz n e I x y A r J b o B q1 q2 h1 h3
theorem dE.fr {l h:List al} (he:dE l h) {μ0 μ:Mu} {h0:List al} {S0 S:Nat->Prop} {i w:World} (a:Fr μ0 h0 S0 i μ l S w):Fr μ0 h0 S0 i μ h S w:=by
 refine⟨by rw[<-he.len];exact a.len,a.blocks,a.sub,a.new,λb j=>a.own b (he.Bk j),a.size,a.os,a.tape,a.output,λid g sz n e f hid=>?_,λid hid=>he.getD (a.dead id hid),a.bJ,λid g sz n e f b base hj hm k=>?_,a.yj⟩;rotate_left
 ·obtain⟨r1,c⟩:=a.maps id g sz n e f b base hj hm k;refine⟨r1,?_⟩;rcases c with c | ⟨⟨m,p,q,r,s,c⟩,t⟩
  ·exact .inl (he.getD c)
  ·obtain⟨f2,h1,_⟩:=he.get c;exact .inr ⟨⟨_,_,_,_,_,h1⟩,t⟩
 have hg:=a.Ed id g sz n e f hid;cases d:l[id]? with
 | none=>rw[d]at hg;exact hg.elim
 | some o=>
  cases o with
  | dead=>rw[he.getD d];trivial
  | row m p q r s=>
   obtain⟨f2,h1,_⟩:=he.get d;rw[d]at hg;rw[h1];exact hg
section
variable {P:Program}{T:rO}{μ:Mu}{h:List al}{S:Nat->Prop}{w:World}
def eD (P:Program) (o:Oper) (a:Act) (μ:Mu) (h:List al) (S:Nat->Prop) (w:World) (K:PV->List al->Prop):Prop:=
 ∀(next:Act->World->Prop) (Q:Exit->Act->World->Prop),
  (∀v val h' μ' S' w',K v h'->bz μ' h' S' w' v val->Core μ' h' S' w'->Fr μ h S w μ' h' S' w'->next (a.put o.dst val) w')->o.wp P a w next Q
theorem eD.rows {o:Oper} {a:Act} {K:PV->List al->Prop} (hA:eD P o a μ h S w (λv h1=>∃h2,dE h1 h2/\K v h2)):eD P o a μ h S w K:=by
 intro next Q hn
 refine hA next Q λv val h' μ' S' w' ⟨h2,he,b⟩ hv hc hf=>?_
 exact hn v val h2 μ' S' w' b (he.af2 hv) (he.core hc) (he.fr hf)
theorem eD.uo {o:Oper} {a:Act} {K:PV->List al->Prop} (hc:Core μ h S w) (hs:dq P o a μ h S w (λv=>K v h)):eD P o a μ h S w K:=by
 obtain⟨v,val,b,hv,c⟩:=hs;intro next Q hn
 unfold Oper.wp;rw[c w (cc.refl w)];exact hn v val h μ S w b hv hc Fr.refl
theorem eD.gv {o:Oper} {a:Act} {K:PV->List al->Prop} {v:PV} {val:Value} {h':List al} {μ':Mu} {S':Nat->Prop} {w':World} (b:(execOp a.eval o).run P w=.ok (.value val) w') (c:K v h') (hv:bz μ' h' S' w' v val)
  (hc:Core μ' h' S' w') (hf:Fr μ h S w μ' h' S' w'):eD P o a μ h S w K:=by
 intro next Q hn
 unfold Oper.wp;rw[b];exact hn v val h' μ' S' w' c hv hc hf
theorem eD.ON {o:Oper} {a:Act} {K:PV->List al->Prop} {h':List al} {μ':Mu} {S':Nat->Prop} {w':World} (b:(execOp a.eval o).run P w=.ok .skip w') (c:K .jw h')
  (hc:Core μ' h' S' w') (hf:Fr μ h S w μ' h' S' w'):eD P o a μ h S w K:=by
 intro next Q hn
 unfold Oper.wp;rw[b];exact hn .jw undef h' μ' S' w' c trivial hc hf
theorem Wb (b:da P T) {t:Nat} {n:Nat} (hn:mi (T.get t)=n) (d:0<n):∃i,P.info? t=some i/\i.size=n:=by
 cases a:T.get t with
 | struct sz fl z=>
  obtain⟨fs,i,_,hi,c,_⟩:=b.struct _ _ _ _ a;rw[a]at hn;exact⟨i,hi,c.trans hn⟩
 | other=>rw[a]at hn;simp [mi]at hn;omega
 | _=>
  rw[a]at hn;have h1:n=1:=hn.symm;subst h1;refine b.one t ?_ ?_
  ·rw[a];rfl
  ·intro sz fl z hh;rw[a]at hh;cases hh
variable {a:Act}{env:Env}{K:PV->List al->Prop}{dst:Option Tmp}{ty:TypeId}{pos:String}{after:Array Edge}{guard:Option (Nat×Bool)}
theorem uX (cur vs:List Value) (o q:Nat) (hl:o+vs.length<=cur.length):
  (cur.take o++vs++cur.drop (o+vs.length))[q]? =if o<=q/\q<o+vs.length then vs[q - o]? else cur[q]?:=by
 have h1:(cur.take o).length=o:=by simp;omega
 by_cases ha:q<o
 ·rw[An alV,ait,aia alV,ajp,As ha]
 ·by_cases a:q<o+vs.length
  ·rw[As ⟨by omega,a⟩,aia alX,ahU alV,h1]
  ·rw[An alV,ahU alX,aiE];congr 1;simp;omega
theorem KT (V:da P T) (hc:Core μ h S w) (G:∀t,bz μ h S w (env t) (a.tmps.getD t undef)) (t:Nat) (o x:Operand) (hp:pop P T (.store t o x) env h K):
  eD P ⟨dst,.store t o x,ty,pos,after,guard⟩ a μ h S w K:=by
 have W:=bM G x;have H:=bM G o;simp only[pop]at hp;split at hp
 ·rename_i id gen i off A;rw[A]at H;split at hp
  ·rename_i g sz n e f hg;obtain⟨rfl,hp⟩:=hp;replace hp:=bw (bT hp);obtain⟨I,B⟩:=hp;simp only[No]at I;obtain⟨⟨⟨J,r⟩,m⟩,hle⟩:=I;have r:=ahW r;have m:=ahz m;have hle:=ahW hle;have hh:=dz hg;have d:=H.wS;unfold bS at d;rw[hh]at d;obtain⟨_,_,d⟩:=d;obtain⟨L,b,base,s,M,C⟩:=d rfl;obtain⟨hl,N⟩:=hc.heap id g sz n e f hh;rw[s]at N;obtain⟨cur,D,vN,O⟩:=bH.cells M.1 N;obtain⟨E,p⟩:=oK J W;have q:∀(j:Nat) (pv:PV),(cellsOf (ev env x))[j]? =some pv->dj pv=false:=λj pv hj=>NA J hj;generalize U2:cellsOf (ev env x)=cs at*;generalize Q:(a.eval x).cells.toList=vs at*;have r:0<cs.length:=by omega
   obtain⟨inf,X,Y⟩:=Wb V m r;have hmul:(i+1)*sz<=n*sz:=ahH _ L;rw[ahK]at hmul
   have R:(storeCells ⟨b,base+i*sz+off,none⟩ vs 0).run P w=.ok () (w.setRow b (cur.toList.take (base+i*sz+off+0)++vs++cur.toList.drop (base+i*sz+off+0+vs.length)).toArray):=
    run_storeCells_at P b (base+i*sz+off) e vs 0 cur w D alV (λv hv=>by
     obtain⟨j,hj,rfl⟩:=aiw.1 hv;have Z:j<cs.length:=by omega
     obtain⟨u,hu,d⟩:=p j cs[j] (abF Z);rw[abF hj]at hu;injection hu with hu;rw[hu];exact d.one)
   rw[aiv]at R
   have y:∀k,(bP f i (eF (f i) off cs) k)=if k=i then eF (f i) off cs else f k:=λk=>by
    unfold bP;by_cases c:k=i
    ·subst c;simp
    ·have:Nat.beq k i=false:=by
      cases hb:Nat.beq k i with
      | true=>exact(c (ahz hb)).elim
      | false=>rfl
     simp [this,c]
   have lB:=ue (w1:=w.setRow b (cur.toList.take (base+i*sz+off)++vs++cur.toList.drop (base+i*sz+off+vs.length)).toArray) hc id g g sz n n e f (bP f i (eF (f i) off cs)) hh b base
    (cur.toList.take (base+i*sz+off)++vs++cur.toList.drop (base+i*sz+off+vs.length)).toArray (ahy _) (λ_=>⟨s,rfl⟩)
    (.inr ⟨base,cur,s,D,by simp;omega⟩) (setRow_heap w b cur _ e _ D) alX
    (λU _ pW=>setRow_other w b U _ pW) alW rfl rfl rfl
    (λk c=>by
     rw[y];split
     ·rename_i l;subst l;rw[oJ];exact hl _ c
     ·exact hl k c)
    (λU oC z=>by rw[s]at z;injection z with z;injection z with h1 _;subst h1;exact M.1.yJ)
    (λk j pv c hj=>by
     have LZ:j<sz:=by
      have h1:=(Is.1 hj).1;rw[y]at h1;split at h1
      ·rw[oJ,hl i L]at h1;exact h1
      ·rw[hl k c]at h1;exact h1
     have Wc:(cur.toList.take (base+i*sz+off)++vs++cur.toList.drop (base+i*sz+off+vs.length)).toArray[base+k*sz+j]? =if base+i*sz+off<=base+k*sz+j/\base+k*sz+j<base+i*sz+off+vs.length then vs[base+k*sz+j - (base+i*sz+off)]? else cur[base+k*sz+j]?:=by
      have F:=uX cur.toList vs (base+i*sz+off) (base+k*sz+j) alX;rw[ajl,F];simp only[ahV]
     rw[Wc];rw[y]at hj;by_cases l:k=i
     ·subst l;rw[As rfl,sW cs (f k) off j (by rw[hl k c];exact hle)]at hj;by_cases d:off<=j/\j<off+cs.length
      ·rw[As d]at hj;rw[As alV];obtain⟨u,hu,oY⟩:=p _ _ hj;exact⟨u,by rw[<-hu];congr 1;omega,oY.k (q _ _ hj)⟩
      ·rw[An d]at hj;rw[An alV];exact O k j pv c hj
     ·rw[An l]at hj
      have ND:¬(base+i*sz+off<=base+k*sz+j/\base+k*sz+j<base+i*sz+off+vs.length):=by
       rcases Nat.lt_or_gt_of_ne l with bO | GK
       ·have:(k+1)*sz<=i*sz:=ahH _ bO;rw[ahK]at this;omega
       ·have:(i+1)*sz<=k*sz:=ahH _ GK;rw[ahK]at this;omega
      rw[An ND];exact O k j pv c hj) 0 (λk j bF n' e' f' F' c hj=>by
    rw[ahx];refine⟨c,?_⟩;rw[y]at hj;by_cases l:k=i
    ·subst l;rw[As rfl,sW cs (f k) off j (by rw[hl k c];exact hle)]at hj;by_cases d:off<=j/\j<off+cs.length
     ·rw[As d]at hj;have:=q _ _ hj;cases this
     ·rw[An d]at hj;exact hj
    ·rw[An l]at hj;exact hj)
   obtain⟨ju,pQ⟩:=lB;obtain⟨_,f',rfl,GP,B⟩:=B;refine eD.rows (eD.ON ?_ ⟨_,dE.set _ _ _ _ _ _ _ _ GP,B⟩ pQ ju);have e1:(execOp a.eval ⟨dst,.store t o x,ty,pos,after,guard⟩)=(do Instr.storeAt t (a.eval o) (a.eval x);pure .skip:Sem Next):=rfl;rw[e1,C]
   have iB:¬(a.eval x).cells.size≠inf.size:=by
    rw[Y];simp only[ne_eq,ajK];rw[<-E,<-Q];simp
   simp only[Instr.storeAt,Instr.sureAddr,storeVar,Sem.run_bind,Sem.run_pure,Result.andThen,mZ X,An iB,Q,R]
  ·exact alc
 ·exact alc
theorem FV (z:Array Value) (n q:Nat) (hq:q<n) (a:0<z.size):(madeCells z n)[q]? =z[q % z.size]?:=by
 have h1:q % z.size<z.size:=Nat.mod_lt _ a;simp [madeCells,hq,h1]
theorem Wd (i j sz:Nat) (hj:j<sz):(i*sz+j) % sz=j:=by
 rw[Nat.mul_comm,Nat.mul_add_mod];exact Nat.mod_eq_of_lt hj
theorem nG (w:World) (o:Obj):cc w (w.alloc o):=
 ⟨λb a=>Below.heap_alloc w o b a,by simp,rfl,rfl,rfl⟩
theorem NF (s:da P T) (hc:Core μ h S w) (o:∀t,bz μ h S w (env t) (a.tmps.getD t undef)) (t:Nat) (l c:Operand) (hp:pop P T (.makeSlice t l c) env h K):
  eD P ⟨dst,.makeSlice t l c,ty,pos,after,guard⟩ a μ h S w K:=by
 have hl:=bM o l;have p:=bM o c;simp only[pop]at hp;split at hp
 ·rename_i e sz bytes zero k n u m v f g;rw[f]at hl;rw[g]at p;obtain⟨⟨h0,h1,h2,h3⟩,_,M,rfl,x,y⟩:=hp;obtain⟨hu,N,inf,b,z,A,B,C,D,q,r⟩:=s.slice _ _ _ _ _ v;subst A B
  have hm:(inf.bytes:Int)*m<=281474976710656:=by
   have E:(m.toNat:Int)=m:=Int.toNat_of_nonneg alV;have e2:((m.toNat*inf.bytes:Nat):Int)<=140737488355328:=by omega
   rw[Int.natCast_mul,E,Int.mul_comm]at e2;omega
  have F:=run_make (P:=P) w t e inf b hu z C k u n m h0 h1 hm alV
  have G:=rS (w1:=w.alloc (.cells (madeCells b.cells (m.toNat*inf.size)) e)) hc inf.size n.toNat e (λ_=>zero) (some (w.heap.size,0))
   ⟨ahy _,_,heap_alloc_new w _,by
    rw[size_madeCells,ahx];exact ahH _ alV,λi j pv hi hj=>by
    have H:j<inf.size:=by rw[<-q];exact(Is.1 hj).1
    have I:0+i*inf.size+j<m.toNat*inf.size:=by
     have:(i+1)*inf.size<=m.toNat*inf.size:=ahH _ alV;rw[ahK]at this;omega
    rw[FV _ _ _ I alV,ahx,D,Wd i j _ H];have d:j<b.cells.size:=by omega
    obtain⟨pv',h5,_,h6⟩:=r j b.cells[j] (ahX d);rw[hj]at h5;injection h5 with h5;subst h5;exact⟨_,ahX d,bK.kN (h6 S w)⟩⟩ (nG w _) (λi hi=>q) (λi j pv _ hj=>by
  have d:j<b.cells.size:=by have:=(Is.1 hj).1;omega
  obtain⟨pv',h5,_,h6⟩:=r j b.cells[j] (ahX d);rw[hj]at h5;injection h5 with h5;rw[h5];exact aR.no (h6 S w))
  obtain⟨J,L⟩:=G;refine eD.rows (eD.gv (cQ rfl (by rw[hl.lZ,p.lZ];exact F)) ⟨_,dE.snoc _ _ _ _ _ _ _ x,y⟩ ?_ L J);show bg _ _ _ _ _ _ _ _;unfold bg;rw[ahU (ahy _),aiM];refine⟨⟨_,_,_,rfl⟩,ahy _,λ_=>⟨by omega,?_⟩⟩;rw[bp];refine⟨_,m.toNat,rfl,by omega,λ_=>by simp,_,e,_,heap_alloc_new w _,?_⟩;rw[size_madeCells];simp
 ·exact alc
theorem KU (sz len:Nat) (place:Nat->Option (Nat×Nat)) (m:∀i,place i=some (i*sz,sz)):∀(l:List (Nat×Operand)) (ρ:Operand->Value) (k:Nat) (cells:Array Value),BU len k l=true->cells.size=len*sz->
  (∀p∈l,(ρ p.2).cells.size=sz)->
  ∃e,Instr.fill place cells (l.map λp=>(p.1,ρ p.2))=some e/\e.size=len*sz/\(∀q,q<k*sz->e[q]? =cells[q]?)/\
   ∀(i j:Nat) (p:Nat×Operand),l[i]? =some p->j<sz->e[(k+i)*sz+j]? =(ρ p.2).cells[j]?
 | [],ρ,k,cells,hi,hs,_=>⟨cells,rfl,hs,λ_ _=>rfl,λi j p hp=>by simp at hp⟩
 | (c,x)::r,ρ,k,cells,hi,hs,hv=>by
  simp only[BU,No]at hi;have f:=ahz hi.1;subst f
  have hlen:∀(l:List (Nat×Operand)) (k:Nat),BU len k l=true->k<=len:=by
   intro l;induction l with
   | nil=>intro k h;exact ajR (ahz h)
   | cons p l n=>
    intro k h;obtain⟨a,b⟩:=p;simp only[BU,No]at h;have:=n (k+1) h.2;omega
  have o:=hlen r (c+1) hi.2;have d:=hv (c,x) alW;have s:(c+1)*sz<=len*sz:=ahH _ o;have g:=s;rw[ahK]at g;obtain⟨t,g2⟩:=vB (ρ x) (c*sz) cells (by rw[d];omega);obtain⟨e,h1,h2,h3,h4⟩:=KU sz len place m r ρ (c+1) _ hi.2 (t.trans hs) (λp hp=>hv p (by simp [hp]));refine⟨e,?_,h2,λq hq=>?_,λi j p hp hj=>?_⟩
  ·simp only[ahE,Instr.fill,m];rw[An (by simp only[d,ne_eq,not_true_eq_false,false_or];simp only[aiD,aij,not_or];simp;omega)];exact h1
  ·rw[h3 q (by rw[ahK];omega),g2 q,An alV]
  ·cases i with
   | zero=>
    simp at hp;subst hp;rw[aiv,h3 _ (by rw[ahK];omega),g2,d,As alV];congr 1;omega
   | succ i=>
    simp at hp;have:=h4 i j p hp hj;rw[show c+1+i=c+(i+1)from by omega]at this;exact this
theorem Bl (C:da P T) (hc:Core μ h S w) (D:∀t,bz μ h S w (env t) (a.tmps.getD t undef)) (t len:Nat) (parts:Array (Nat×Operand)) (hp:pop P T (.buildSlice t len parts) env h K):
  eD P ⟨dst,.buildSlice t len parts,ty,pos,after,guard⟩ a μ h S w K:=by
 simp only[pop]at hp;split at hp
 ·rename_i e sz bytes zero E;replace hp:=bw hp;obtain⟨z,d⟩:=hp;obtain⟨hu,V,inf,g,o,F,W,G,X,Y,Z⟩:=C.slice _ _ _ _ _ E;subst F;simp only[No]at z;obtain⟨A,hle⟩:=z;have hle:=ahW hle;obtain⟨B,d⟩:=BV _ _ d;simp only[ajM,aiC]at d
  have r:∀p∈parts.toList,(a.eval p.2).cells.size=inf.size/\(cellsOf (ev env p.2)).length=inf.size/\
    ∀(j:Nat) (q:PV),(cellsOf (ev env p.2))[j]? =some q->∃u,(a.eval p.2).cells[j]? =some u/\bK μ h S w q u:=λp hp=>by
   obtain⟨h1,h2⟩:=B p hp;have h2:=ahz h2;obtain⟨h3,h4⟩:=oK h1 (bM D p.2);simp only[ais,ahV]at h3 h4;exact⟨h3.trans h2,h2,h4⟩
  obtain⟨m,H,f2,_,I⟩:=KU inf.size len (λi=>some (i*inf.size,inf.size)) (λ_=>rfl) parts.toList a.eval 0
   ((Array.range (len*inf.size)).map (λq=>(if len*inf.size=0 then #[]else g.cells)[q % (if len*inf.size=0 then #[]else g.cells).size]!)) A alW (λp hp=>(r p hp).1)
  have hlen:parts.toList.length=len:=by
   have key:∀(l:List (Nat×Operand)) (k:Nat),BU len k l=true->k+l.length=len:=by
    intro l;induction l with
    | nil=>intro k hh;exact ahz hh
    | cons p l J=>
     intro k hh;obtain⟨x,y⟩:=p;simp only[BU,No]at hh;have:=J (k+1) hh.2;simp only[ahN];omega
   have:=key parts.toList 0 A;omega
  have cH:∀i,i<len->∃p,parts.toList[i]? =some p/\p∈parts.toList/\(parts.toList.map λp=>cellsOf (ev env p.2)).getD i []=cellsOf (ev env p.2):=λi hi=>by
   have s:i<parts.toList.length:=by omega
   refine⟨parts.toList[i],abF s,ahD s,?_⟩;rw[ahA,ahT,abF s];rfl
  have L:=rS (w1:=w.alloc (.cells m e)) hc inf.size len e (λk=>(parts.toList.map λp=>cellsOf (ev env p.2)).getD k []) (some (w.heap.size,0))
   ⟨ahy _,m,heap_alloc_new w _,by omega,λi j pv hi hj=>by
    obtain⟨p,c,f,b⟩:=cH i hi;rw[b]at hj;obtain⟨_,q2,q3⟩:=r p f;have M:j<inf.size:=by rw[<-q2];exact(Is.1 hj).1
    have:=I i j p c M;rw[ahx]at this;obtain⟨u,N,O⟩:=q3 j pv hj;exact⟨u,by rw[<-N,<-this,ahx],O⟩⟩ (nG w _)
   (λi hi=>by
    obtain⟨p,c,f,b⟩:=cH i hi;rw[b];exact(r p f).2.1) (λi j pv hi hj=>by
    obtain⟨p,c,f,b⟩:=cH i hi;rw[b]at hj;exact NA (B p f).1 hj)
  obtain⟨Q,R⟩:=L;obtain⟨f',U,d⟩:=d;refine eD.rows (eD.gv (val:=.slice (some ⟨w.heap.size,0,none⟩) len len) (cQ rfl ?_) ⟨_,dE.snoc _ _ _ _ _ _ _ U,d⟩ ?_ R Q)
  ·have v:(parts.map λp=>(p.1,a.eval p.2)).toList=parts.toList.map λp=>(p.1,a.eval p.2):=by simp
   have hn:¬(16777216<len*inf.size):=by omega
   have n:Instr.fill (λi=>some (i*inf.size,inf.size)) (Array.map (λx=>(if len*inf.size=0 then #[]else g.cells)[x % (if len*inf.size=0 then #[]else g.cells).size]!) (Array.range (len*inf.size))) (parts.map λp=>(p.1,a.eval p.2)).toList=some m:=by
    rw[v];exact H
   by_cases h0:len*inf.size=0
   ·simp [h0]at n;simp only[Instr.buildSlice,Sem.run_bind,run_underlying hu,Result.andThen,mZ o];simp [h0,newRow];rw[n];rfl
   ·simp [h0]at n;simp only[Instr.buildSlice,Sem.run_bind,run_underlying hu,Result.andThen,mZ o];simp [h0,hn,newRow,zeroValue,typeInfo,o,G];rw[n];rfl
  ·show bg _ _ _ _ _ _ _ _;unfold bg;rw[ahU (ahy _),aiM];refine⟨⟨_,_,_,rfl⟩,ahy _,λ_=>⟨by omega,?_⟩⟩;rw[bp];exact⟨_,len,rfl,ahy _,λ_=>by simp,m,e,_,heap_alloc_new w _,by rw[ahx,ahx];omega⟩
 ·exact alc
theorem P4 (hc:Core μ h S w) (d:∀t,bz μ h S w (env t) (a.tmps.getD t undef)) (t:Nat) (x:Operand) (hp:pop P T (.box t x) env h K):
  eD P ⟨dst,.box t x,ty,pos,after,guard⟩ a μ h S w K:=by
 simp only[pop]at hp;replace hp:=bw (bT hp);obtain⟨b,e⟩:=hp;simp only[No]at b;obtain⟨c,hlen⟩:=b;have hlen:=ahz hlen;obtain⟨h3,h4⟩:=oK c (bM d x);simp only[ais,ahV]at h3 h4
 have f:=rS (w1:=w.alloc (.cells (a.eval x).cells t)) hc (mi (T.get t)) 1 t (λ_=>cellsOf (ev env x)) (some (w.heap.size,0))
  ⟨ahy _,_,heap_alloc_new w _,by omega,λi j pv hi hj=>by
   obtain⟨u,hu,g⟩:=h4 j pv hj;have:i=0:=by omega
   subst this;exact⟨u,by rw[<-hu];congr 1;omega,g⟩⟩ (nG w _) (λi hi=>hlen) (λi j pv _ hj=>NA c hj)
 obtain⟨k,l⟩:=f;refine eD.gv (val:=.pointer (some ⟨w.heap.size,0,none⟩)) (cQ rfl ?_) e ?_ l k
 ·simp [Instr.box,newVar,newRow]
 ·show bS _ _ _ _ _ _ _ _;unfold bS;rw[ahU (ahy _),aiM];refine⟨⟨_,rfl⟩,ahy _,λ_=>⟨by omega,w.heap.size,0,bp _ _ _,⟨⟨_,_,_,heap_alloc_new w _,aih _⟩,λ_=>rfl⟩,?_⟩⟩;simp
theorem KV (e:da P T) (hc:Core μ h S w) (t:Nat) (hp:pop P T (.alloc t) env h K):
  eD P ⟨dst,.alloc t,ty,pos,after,guard⟩ a μ h S w K:=by
 simp only[pop]at hp;split at hp
 ·rename_i z f;obtain⟨i,b,hi,g,o,k,d⟩:=e.zero t z f;generalize p:mi (T.get t)=sz at*
  have l:=rS (w1:=w.alloc (.cells b.cells t)) hc sz 1 t (λ_=>z) (some (w.heap.size,0))
   ⟨ahy _,_,heap_alloc_new w _,by omega,λi j pv hi hj=>by
    have c:j<b.cells.size:=by
     have:=(Is.1 hj).1;omega
    obtain⟨pv',h5,_,h6⟩:=d j b.cells[j] (ahX c);rw[hj]at h5;injection h5 with h5;subst h5;have:i=0:=by omega
    subst this;exact⟨_,by rw[<-ahX c];congr 1;omega,bK.kN (h6 S w)⟩⟩ (nG w _) (λi hi=>k) (λi j pv _ hj=>by
  have c:j<b.cells.size:=by have:=(Is.1 hj).1;omega
  obtain⟨pv',h5,_,h6⟩:=d j b.cells[j] (ahX c);rw[hj]at h5;injection h5 with h5;rw[h5];exact aR.no (h6 S w))
  obtain⟨m,n⟩:=l;refine eD.gv (val:=.pointer (some ⟨w.heap.size,0,none⟩)) (cQ rfl ?_) hp ?_ n m
  ·simp [Instr.alloc,zeroValue,typeInfo,hi,g,newVar,newRow]
  ·show bS _ _ _ _ _ _ _ _;unfold bS;rw[ahU (ahy _),aiM];refine⟨⟨_,rfl⟩,ahy _,λ_=>⟨by omega,w.heap.size,0,bp _ _ _,⟨⟨_,_,_,heap_alloc_new w _,aih _⟩,λ_=>rfl⟩,?_⟩⟩;simp
 ·exact alc
end
end Go.Am
