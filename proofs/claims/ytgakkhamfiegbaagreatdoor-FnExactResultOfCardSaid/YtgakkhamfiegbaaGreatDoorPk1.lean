/- Texts of the proof, joined and shortened. -/
import Derived.Test.YtgakkhamfiegbaaGreatDoorPk0
import Derived.WalkLawsBesides
set_option linter.unusedVariables false
set_option linter.unusedSimpArgs false
namespace Go.Am
open Go Go.RowKit
def Df:TypeDesc->Bool
 | .struct _=>true
 | .array _ _=>true
 | _=>false
def kz (P:Program):Nat->List Field->List PV->Bool
 | _,[],[]=>true
 | n,f::r,.int k _::z=>f.name != "_" &&Nat.beq f.offset n&&(match P.underlying f.type with | some (.int a)=>uB k a | _=>false)&&kz P (n+1) r z
 | n,f::r,.bool _::z=>f.name != "_" &&Nat.beq f.offset n&&(match P.underlying f.type with | some .bool=>true | _=>false)&&kz P (n+1) r z
 | n,f::r,.str _::z=>f.name != "_" &&Nat.beq f.offset n&&(match P.underlying f.type with | some .string=>true | _=>false)&&kz P (n+1) r z
 | _,_,_=>false
def HF (P:Program) (t:Nat) (z:List PV):Bool:=match P.underlying t with
 | some (.struct fs)=>!(P.stoodInHeld t)&&!(P.eqGuardType P.depth t)&&kz P 0 fs.toList z
 | _=>false
structure dL (P:Program) (T:sI):Prop where
 flat:∀t sz fl z,T.get t=.struct sz fl z->Bi z=true->HF P t z=true
 int:∀t k,T.get t=.int k->P.underlying t=some (.int k)
 bool:∀t,T.get t=.bool->P.underlying t=some .bool
 str:∀t,T.get t=.str->P.underlying t=some .string
 ptr:∀t e,T.get t=.ptr e->P.underlying t=some (.pointer e)
 slice:∀t e sz RE z,T.get t=.slice e sz RE z->P.underlying t=some (.slice e)/\0<sz/\∃i zv,P.info? e=some i/\i.size=sz/\i.bytes=RE/\i.zero=some zv/\zv.cells.size=sz/\z.length=sz/\
  ∀(j:Nat) (u:Value),zv.cells[j]? =some u->∃pv:PV,z[j]? =some pv/\u.oneCell'=true/\∀S w,bz S w pv u
 map:∀t k e z,T.get t=.map k e z->P.underlying t=some (.map k e)/\∃i zv,P.info? e=some i/\i.zero=some zv/\uC z zv/\lC z=true/\storable z=true
 bytes:∀t e sz RE z,T.get t=.slice e sz RE z->0<RE
 one:∀t,ng (T.get t)=1->(∀sz fl z,T.get t≠.struct sz fl z)->∃i,P.info? t=some i/\i.size=1
 zero:∀t z,Dg (T.get t)=some z->∃i zv,P.info? t=some i/\i.zero=some zv/\zv.cells.size=ng (T.get t)/\z.length=ng (T.get t)/\
  ∀(j:Nat) (u:Value),zv.cells[j]? =some u->∃pv:PV,z[j]? =some pv/\u.oneCell'=true/\∀S w,bz S w pv u
 struct:∀t sz fl z,T.get t=.struct sz fl z->∃fs i,P.underlying t=some (.struct fs)/\P.info? t=some i/\i.size=sz/\fl.length=fs.size/\
  (∃zv,i.zero=some zv/\zv.cells.size=sz/\z.length=sz/\∀(j:Nat) (u:Value),zv.cells[j]? =some u->∃pv:PV,z[j]? =some pv/\u.oneCell'=true/\∀S w,bz S w pv u)/\
  ∀(k:Nat) (off size:Nat) (ag:Bool),fl[k]? =some (off,size,ag)->∃f j d,fs[k]? =some f/\f.offset=off/\P.info? f.type=some j/\j.size=size/\0<size/\
   P.underlying f.type=some d/\ag=Df d
section
variable {P:Program}{T:sI}{μ:Mu}{h:List ar}{S:Nat->Prop}{w:World}
theorem cw.mM {k:IntKind} {n:Int} {v:Value} (hv:cw μ h S w (.int k n) v):v=.int k n:=by
 have hv:bz S w (.int k n) v:=hv;cases hv;rfl
theorem cw.oZ {b:Bool} {v:Value} (hv:cw μ h S w (.bool b) v):v=.bool b:=by
 have hv:bz S w (.bool b) v:=hv;cases hv;rfl
theorem cw.pF {s:List UInt8} {v:Value} (hv:cw μ h S w (.str s) v):v=.string ⟨⟨s⟩⟩:=by
 have hv:bz S w (.str s) v:=hv;cases hv;rfl
theorem cw.tj {v:Value} (hv:cw μ h S w .au v):v=.slice none 0 0:=by
 have hv:bz S w .au v:=hv;cases hv;rfl
theorem cw.RF {f:Nat} {v:Value} (hv:cw μ h S w (.fn f) v):v=.func (.func f) #[] #[]:=by
 have hv:bz S w (.fn f) v:=hv;cases hv;rfl
theorem cw.xz {sz n:Nat} {f:Nat->List PV} {v:Value} (hv:cw μ h S w (.gn sz n f) v):
  (∃a c,v=.slice a n c/\n=0)\/∃(b off c:Nat) (d:Nat->Nat->Value),v=.slice (some ⟨b,off,none⟩) n c/\S b/\(∀i,i<n->(f i).length=sz)/\n<=c/\
   (∀(i j:Nat) (pv:PV),i<n->(f i)[j]? =some pv->w.cell? ⟨b,off+i*sz+j,none⟩=some (d i j))/\(∀(i j:Nat) (pv:PV),i<n->(f i)[j]? =some pv->bz S w pv (d i j)):=by
 have hv:bz S w (.gn sz n f) v:=hv;cases hv with
 | tM _ _ a c=>exact .inl ⟨a,c,rfl,rfl⟩
 | gn _ _ _ b off c d h1 h2 h3 h4 h5=>exact .inr ⟨b,off,c,d,rfl,h1,h2,h3,h4,h5⟩
theorem cw.zE {cs:List PV} {v:Value} (hv:cw μ h S w (.fT cs) v):
  ∃(b off:Nat) (a:Nat->Value),v=.pointer (some ⟨b,off,none⟩)/\S b/\(∀(j:Nat) (pv:PV),cs[j]? =some pv->w.cell? ⟨b,off+j,none⟩=some (a j))/\(∀(j:Nat) (pv:PV),cs[j]? =some pv->bz S w pv (a j)):=by
 have hv:bz S w (.fT cs) v:=hv;cases hv with
 | fT _ b off a h1 h4 h5=>exact⟨b,off,a,rfl,h1,h4,h5⟩
theorem RG {v:Value} {p:PV} (h:YD v=some p):bz S w p v:=by
 cases v with
 | int k n=>cases h;exact bz.int k n
 | bool b=>cases h;exact bz.bool b
 | string s=>
  obtain⟨⟨l⟩⟩:=s;cases h;exact bz.str l
 | slice a n c=>
  cases a with
  | none=>
   cases n with
   | zero=>
    cases c with
    | zero=>cases h;exact bz.au
    | succ c=>cases h
   | succ n=>cases h
  | some a=>cases h
 | pointer a=>
  cases a with
  | none=>cases h;exact bz.jq
  | some a=>cases h
 | _=>cases h
theorem JW:∀{vs:List Value} {l:List PV},O8 vs=some l->vs.length=l.length/\∀(j:Nat) (pv:PV),l[j]? =some pv->∃u,vs[j]? =some u/\bz S w pv u
 | [],l,h=>by
  cases h;exact⟨rfl,λj pv hj=>by simp at hj⟩
 | v::r,l,h=>by
  unfold O8 at h;cases h1:YD v with
  | none=>rw[h1]at h;cases h
  | some p=>
   cases h2:O8 r with
   | none=>rw[h1,h2]at h;cases h
   | some q=>
    rw[h1,h2]at h;cases h;obtain⟨q1,q2⟩:=JW h2;refine⟨by simp [q1],λj pv hj=>?_⟩;cases j with
    | zero=>simp at hj;subst hj;exact⟨v,rfl,RG h1⟩
    | succ j=>obtain⟨u,r1,a⟩:=q2 j pv ajy;exact⟨u,by simpa using r1,a⟩
theorem JX (v:Value):cw μ h S w (ofValue v) v:=by
 cases v with
 | int k n=>exact bz.int k n
 | bool b=>exact bz.bool b
 | string s=>
  obtain⟨⟨l⟩⟩:=s;exact bz.str l
 | slice a n c=>
  cases a with
  | none=>
   cases n with
   | zero=>
    cases c with
    | zero=>exact bz.au
    | succ c=>trivial
   | succ n=>trivial
  | some a=>trivial
 | pointer a=>
  cases a with
  | none=>exact bz.jq
  | some a=>trivial
 | agg vs=>
  simp only[ofValue];cases hl:O8 vs.toList with
  | none=>trivial
  | some l=>
   obtain⟨q1,q2⟩:=JW (S:=S) (w:=w) hl;exact⟨vs,rfl,by simpa using q1,λj pv hj=>by obtain⟨u,r1,d⟩:=q2 j pv hj;exact⟨u,by simpa using r1,cD.my d⟩⟩
 | _=>trivial
theorem cM {env:Env} {a:Act} (b:∀t,cw μ h S w (env t) (a.tmps.getD t undef)) (x:Operand):cw μ h S w (ev env x) (a.eval x):=by
 cases x with
 | tmp t=>exact b t
 | const v=>exact JX v
 | global g=>trivial
 | func f=>exact bz.fn f
def dU (P:Program) (o:Oper) (a:Act) (μ:Mu) (h:List ar) (S:Nat->Prop) (w:World) (K:PV->Prop):Prop:=
 ∃v val,K v/\cw μ h S w v val/\∀w',da w w'->(execOp a.eval o).run P w'=.ok (.value val) w'
theorem dU.mk {o:Oper} {a:Act} {K:PV->Prop} {v:PV} {val:Value} (b:K v) (hv:cw μ h S w v val) (c:∀w',da w w'->(execOp a.eval o).run P w'=.ok (.value val) w'):dU P o a μ h S w K:=⟨v,val,b,hv,c⟩
variable {a:Act}{env:Env}{K:PV->Prop}{dst:Option Tmp}{ty:TypeId}{pos:String}{after:Array Edge}{guard:Option (Nat×Bool)}
theorem Bj {s:Sem Value} {w' a:World} {val:Value} (hs:s.run P w'=.ok val a):(do pure (Next.value (<-s)):Sem Next).run P w'=.ok (.value val) a:=by
 simp [hs]
theorem toList_mk (l:List UInt8):(ByteArray.mk ⟨l⟩).toList=l:=by
 have h:(ByteArray.mk ⟨l⟩).toList=(ByteArray.mk ⟨l⟩).data.toList:=by simp
 rw[h]
theorem N0 {a:BinOp} {t:TypeId} {x y:Operand} {u b val:Value} {w':World} (hg:eqGuard a t x y u b=pure ()) (hb:(binOp a t u b).run P w'=.ok val w'):
  (do eqGuard a t x y u b;binOp a t u b:Sem Value).run P w'=.ok val w':=by
 rw[hg];simp [hb]
theorem vy {P:Program} {t:TypeId} {d:TypeDesc} (hu:P.underlying t=some d) (hd:Df d=false) (cs:Array Value) (off:Nat) (v:Value) (hc:cs[off]? =some v) (w:World):(part t cs off).run P w=.ok v w:=by
 have:(isAgg t).run P w=.ok false w:=by
  unfold isAgg;simp only[Sem.run_bind,run_underlying hu,Result.andThen];cases d<;>first | rfl | cases hd
 simp [part,this,hc]
theorem cQ {g q:Bool} {o:Option Bool} {b:Bool} (h:JY g q o=some b):g=true/\∃c,o=some c/\b=(q&&c):=by
 cases o with
 | none=>cases h
 | some c=>cases g with
  | true=>exact⟨rfl,c,rfl,(agy h).symm⟩
  | false=>cases h
theorem uD {P:Program} {μ:Mu} {h:List ar} {S:Nat->Prop} {w w':World} {xs o:Array Value} (d:Nat):∀(fs:List Field) (z i l:List PV) (n:Nat) (b:Bool),kz P n fs z=true->
  (∀(j:Nat) (pv:PV),i[j]? =some pv->∃u,xs[n+j]? =some u/\cD μ h S w pv u)->(∀(j:Nat) (pv:PV),l[j]? =some pv->∃u,o[n+j]? =some u/\cD μ h S w pv u)->
  FU z i l=some b->(Op.eqFields (d+1) xs o fs).run P w'=.ok b w'
 | [],z,i,l,n,b,hf,_,_,hk=>by
  cases z with
  | nil=>
   cases i with
   | nil=>cases l with
    | nil=>cases hk;rfl
    | cons _ _=>cases hk
   | cons _ _=>cases hk
  | cons _ _=>simp [kz]at hf
 | f::fs,z,i,l,n,b,hf,D,hy,hk=>by
  have go:∀(p s:PV) (t v:Value) (q c:Bool) (dd:TypeDesc) (z r g:List PV),i=p::r->l=s::g->(∀u,cD μ h S w p u->u=t)->(∀u,cD μ h S w s u->u=v)->f.name≠ "_" ->f.offset=n->P.underlying f.type=some dd->Df dd=false->
    (Op.equalIn (d+1) f.type t v).run P w'=.ok q w'->kz P (n+1) fs z=true->FU z r g=some c->(Op.eqFields (d+1) xs o (f::fs)).run P w'=.ok (q&&c) w':=by
   intro p s t v q c dd z r g H e2 x y I m hu hd J A K;subst H e2;obtain⟨E,L,B⟩:=D 0 p rfl;obtain⟨F,M,C⟩:=hy 0 s rfl;obtain rfl:=x E B;obtain rfl:=y F C
   have N:=uD (w':=w') d fs z r g (n+1) c A (λj pv hj=>by
     obtain⟨u,q1,q2⟩:=D (j+1) pv ajy;exact⟨u,by rw[<-q1];congr 1;omega,q2⟩) (λj pv hj=>by
     obtain⟨u,q1,q2⟩:=hy (j+1) pv ajy;exact⟨u,by rw[<-q1];congr 1;omega,q2⟩) K
   have O:=vy hu hd xs f.offset E (by rw[m];exact L) w';have Q:=vy hu hd o f.offset F (by rw[m];exact M) w';unfold Op.eqFields;rw[an I];simp only[Sem.run_bind,O,Q,J,Result.andThen_ok];cases q with
   | true=>simpa using N
   | false=>simp
  unfold FU at hk;split at hk
  ·simp [kz]at hf
  ·rename_i k G z R a r T e g;simp only[kz,As,ahL]at hf;obtain⟨⟨⟨h1,h2⟩,h3⟩,h4⟩:=hf;have h2:=afM h2;obtain⟨hg,c,hc,rfl⟩:=cQ hk;simp only[As]at hg;obtain rfl:=eY hg.1;obtain rfl:=eY hg.2;split at h3
   ·rename_i U hu;exact go _ _ (.int k a) (.int k e) (a==e) c _ z r g rfl rfl (λu hu=>by have hu:bz S w (.int k a) u:=hu;cases hu;rfl) (λu hu=>by have hu:bz S w (.int k e) u:=hu;cases hu;rfl) h1 h2 hu rfl (run_equalIn_int w' d _ _ _ _ _ hu) h4 hc
   ·cases h3
  ·rename_i G z a r e g;simp only[kz,As,ahL]at hf;obtain⟨⟨⟨h1,h2⟩,h3⟩,h4⟩:=hf;have h2:=afM h2;obtain⟨hg,c,hc,rfl⟩:=cQ hk;split at h3
   ·rename_i hu;exact go _ _ (.bool a) (.bool e) (a==e) c _ z r g rfl rfl (λu hu=>by have hu:bz S w (.bool a) u:=hu;cases hu;rfl) (λu hu=>by have hu:bz S w (.bool e) u:=hu;cases hu;rfl) h1 h2 hu rfl (run_equalIn_bool w' d _ _ _ hu) h4 hc
   ·cases h3
  ·rename_i G z a r e g;simp only[kz,As,ahL]at hf;obtain⟨⟨⟨h1,h2⟩,h3⟩,h4⟩:=hf;have h2:=afM h2;obtain⟨hg,c,hc,rfl⟩:=cQ hk;split at h3
   ·rename_i hu
    exact go _ _ (.string ⟨⟨a⟩⟩) (.string ⟨⟨e⟩⟩) (a==e) c _ z r g rfl rfl (λu hu=>by have hu:bz S w (.str a) u:=hu;cases hu;rfl) (λu hu=>by have hu:bz S w (.str e) u:=hu;cases hu;rfl) h1 h2 hu rfl (by
     rw[run_equalIn_string w' d _ _ _ hu,toList_mk,toList_mk]) h4 hc
   ·cases h3
  ·cases hk
theorem O9 (p:dL P T) (d:BinOp) (t q:TypeId) (x y:Operand) (A B:PV) (m:cw μ h S w A (a.eval x)) (hy:cw μ h S w B (a.eval y)) (hp:Pa (T.get t) d A B K):
  dU P ⟨dst,.binOp d t x y q,ty,pos,after,guard⟩ a μ h S w K:=by
 have key:∀(v:PV) (val:Value),K v->cw μ h S w v val->eqGuard d t x y (a.eval x) (a.eval y)=pure ()->(∀w',(binOp d t (a.eval x) (a.eval y)).run P w'=.ok val w')->
   dU P ⟨dst,.binOp d t x y q,ty,pos,after,guard⟩ a μ h S w K:=λv val e hv hg r=>.mk e hv λw' _=>Bj (N0 hg (r w'))
 unfold Pa at hp;split at hp
 ·rename_i k n M C;have ex:=m.mM;have c:=hy.mM;have hg:eqGuard d t x y (a.eval x) (a.eval y)=pure ():=by rw[ex];apply eqGuard_at_int
  cases d<;>simp only at hp
  case shl=>
   have h0:¬C<0:=by omega
   exact key _ _ hp.2 (bz.int _ _) hg λw'=>by rw[ex,c,binOp_shl];simp only[Op.shift,mg h0];rfl
  case shr=>
   have h0:¬C<0:=by omega
   exact key _ _ hp.2 (bz.int _ _) hg λw'=>by rw[ex,c,binOp_shr];simp only[Op.shift,mg h0];rfl
  all_goals
   replace hp:=ck hp;obtain⟨hk,hp⟩:=hp;obtain rfl:=eY hk
  case and=>exact key _ _ hp (bz.int _ _) hg λw'=>by rw[ex,c,binOp_and,intBits_and];rfl
  case or=>exact key _ _ hp (bz.int _ _) hg λw'=>by rw[ex,c,binOp_or,intBits_or];rfl
  case xor=>exact key _ _ hp (bz.int _ _) hg λw'=>by rw[ex,c,binOp_xor,intBits_xor];rfl
  case andNot=>exact key _ _ hp (bz.int _ _) hg λw'=>by rw[ex,c,binOp_andNot,intBits_andNot];rfl
  case add=>exact key _ _ hp (bz.int _ _) hg λw'=>by rw[ex,c,binOp_add];rfl
  case sub=>exact key _ _ hp (bz.int _ _) hg λw'=>by rw[ex,c,binOp_sub];rfl
  case mul=>exact key _ _ hp (bz.int _ _) hg λw'=>by rw[ex,c,binOp_mul];rfl
  case quo=>exact key _ _ hp.2 (bz.int _ _) hg λw'=>by rw[ex,c,binOp_quo];simp [Op.intDiv,hp.1]
  case rem=>exact key _ _ hp.2 (bz.int _ _) hg λw'=>by rw[ex,c,binOp_rem];simp [Op.intDiv,hp.1]
  case eql=>exact key _ _ hp (bz.bool _) hg λw'=>by rw[ex,c,binOp_eql];rfl
  case neq=>exact key _ _ hp (bz.bool _) hg λw'=>by rw[ex,c,binOp_neq];rfl
  case lss=>exact key _ _ hp (bz.bool _) hg λw'=>by rw[ex,c,binOp_lss];rfl
  case leq=>exact key _ _ hp (bz.bool _) hg λw'=>by rw[ex,c,binOp_leq];rfl
  case gtr=>exact key _ _ hp (bz.bool _) hg λw'=>by rw[ex,c,binOp_gtr];rfl
  case geq=>exact key _ _ hp (bz.bool _) hg λw'=>by rw[ex,c,binOp_geq];rfl
 ·rename_i b N;have ex:=m.oZ;have c:=hy.oZ;have hg:eqGuard d t x y (a.eval x) (a.eval y)=pure ():=by rw[ex];apply eqGuard_at_bool
  split at hp
  ·rename_i f;exact key _ _ hp (bz.bool _) hg λw'=>by rw[ex,c];exact run_eql_bool w' t _ _ (p.bool _ f)
  ·rename_i f;exact key _ _ hp (bz.bool _) hg λw'=>by rw[ex,c];exact run_neq_bool w' t _ _ (p.bool _ f)
  ·exact aiI
 ·rename_i s g;have ex:=m.pF;have c:=hy.pF;have hg:eqGuard d t x y (a.eval x) (a.eval y)=pure ():=by rw[ex];apply eqGuard_at_string
  cases d<;>simp only at hp
  case add=>
   obtain⟨O,_,rfl,H⟩:=hp;refine key _ _ H (bz.str _) hg λw'=>?_;rw[ex,c,binOp_string_add]
   have h1:¬(((ByteArray.mk ⟨s⟩).size+(ByteArray.mk ⟨g⟩).size:Nat):Int)>IntKind.i64.max:=by
    have I:(ByteArray.mk ⟨s⟩).size=s.length:=rfl;have e2:(ByteArray.mk ⟨g⟩).size=g.length:=rfl;rw[I,e2,IntKind.max_i64];omega
   simp only[Op.stringOp,mg h1]
   have h2:ByteArray.mk ⟨s⟩++ByteArray.mk ⟨g⟩=ByteArray.mk ⟨s++g⟩:=by
    apply ByteArray.ext;simp [ByteArray.data_append]
   rw[h2];rfl
  case eql=>exact key _ _ hp (bz.bool _) hg λw'=>by rw[ex,c,binOp_string_eql,toList_mk,toList_mk];rfl
  case neq=>exact key _ _ hp (bz.bool _) hg λw'=>by rw[ex,c,binOp_string_neq,toList_mk,toList_mk];rfl
  case lss=>exact key _ _ hp (bz.bool _) hg λw'=>by rw[ex,c,binOp_string_lss,toList_mk,toList_mk];rfl
  case leq=>exact key _ _ hp (bz.bool _) hg λw'=>by rw[ex,c,binOp_string_leq,toList_mk,toList_mk];rfl
  case gtr=>exact key _ _ hp (bz.bool _) hg λw'=>by rw[ex,c,binOp_string_gtr,toList_mk,toList_mk];rfl
  case geq=>exact key _ _ hp (bz.bool _) hg λw'=>by rw[ex,c,binOp_string_geq,toList_mk,toList_mk];rfl
  all_goals exact hp.elim
 ·rename_i D E;split at hp
  ·rename_i sz fl z f;replace hp:=ck hp;obtain⟨J,hp⟩:=hp;have i:=p.flat _ _ _ _ f J;unfold HF at i;split at i
   ·rename_i fs hu;simp only[As,agA]at i;obtain⟨⟨h1,h2⟩,h3⟩:=i;obtain⟨xs,ex,_,L⟩:=m;obtain⟨o,c,_,u⟩:=hy;have F:P.fieldsOf t=fs:=by simp [Program.fieldsOf,hu]
    have G:∀b,FU z D E=some b->∀w',(Op.equalIn 10000 t (.agg xs) (.agg o)).run P w'=.ok b w':=λb hk w'=>by
     rw[run_equalIn_struct w' 9999 t xs o (by rw[F];exact hu) h1,F];exact uD (μ:=μ) (h:=h) (S:=S) (w:=w) 9998 fs.toList z D E 0 b h3 (λj pv hj=>by rw[so];exact L j pv hj) (λj pv hj=>by rw[so];exact u j pv hj) hk
    have l:∀(b:Bool),K (.bool b)->(∀w',(binOp d t (.agg xs) (.agg o)).run P w'=.ok (.bool b) w')->dU P ⟨dst,.binOp d t x y q,ty,pos,after,guard⟩ a μ h S w K:=λb e r=>.mk e (bz.bool b) λw' _=>Bj (by
     rw[ex,c];simp [run_eqGuard_agg w' d t x y xs o h2,r w'])
    split at hp
    ·rename_i b hb;split at hp
     ·obtain⟨_,rfl,e⟩:=hp;exact l _ e λw'=>by rw[run_eql_struct,G b hb w'];rfl
     ·obtain⟨_,rfl,e⟩:=hp;exact l _ e λw'=>by rw[run_neq_struct,G b hb w'];rfl
     ·exact aiI
    ·exact aiI
   ·cases i
  ·exact aiI
 ·exact aiI
theorem zF {t:TypeId} {d:TypeDesc} (hu:P.underlying t=some d) (w':World):(isAgg t).run P w'=.ok (Df d) w':=by
 unfold isAgg;simp only[Sem.run_bind,run_underlying hu,Result.andThen];cases d<;>rfl
def Uw (μ:Mu) (h:List ar) (S:Nat->Prop) (w:World) (cells:List PV) (b off:Nat):Prop:=
 ∀(j:Nat) (pv:PV),cells[j]? =some pv->∃u,w.cell? ⟨b,off+j,none⟩=some u/\cD μ h S w pv u
theorem Dh (m:dL P T) (t:Nat) (x:Operand) (cells:List PV) (b off:Nat) (p:a.eval x=.pointer (some ⟨b,off,none⟩)) (hc:Uw μ h S w cells b off) (hp:AQ T t cells K)
  (q:∀pv u,pv∈cells->cD μ h S w pv u->cw μ h S w pv u):
  dU P ⟨dst,.load t x,ty,pos,after,guard⟩ a μ h S w K:=by
 have key:∀(v:PV) (val:Value),K v->cw μ h S w v val->(∀w',da w w'->(loadVar t ⟨b,off,none⟩).run P w'=.ok val w')->
   dU P ⟨dst,.load t x,ty,pos,after,guard⟩ a μ h S w K:=λv val n hv s=>.mk n hv λw' o=>by
  refine Bj ?_;rw[p];simp [Instr.loadAt,Instr.sureAddr,s w' o]
 have one:∀d,P.underlying t=some d->Df d=false->(∃c r,cells=c::r/\K c)->
   dU P ⟨dst,.load t x,ty,pos,after,guard⟩ a μ h S w K:=λd hu hd ⟨c,r,l,n⟩=>by
  obtain⟨u,y,A⟩:=hc 0 c (by rw[l];rfl);refine key c u n (q c u (by rw[l];simp) A) λw' o=>?_;have h0:=o.cell y;rw[agM]at h0;unfold loadVar;simp only[Sem.run_bind,zF hu,hd,Result.andThen];simp [run_load,h0]
 unfold AQ at hp;split at hp
 ·rename_i sz fl B g;obtain⟨fs,i,hu,hi,C,_⟩:=m.struct _ _ _ _ g;replace hp:=tl _ _ _ hp;obtain⟨hle,n⟩:=hp;simp only[ahU,agD]at n
  have hf:∃f:Nat->Value,∀(j:Nat) (pv:PV),cells[j]? =some pv->w.cell? ⟨b,off+j,none⟩=some (f j)/\cD μ h S w pv (f j):=by
   refine⟨λj=>(w.cell? ⟨b,off+j,none⟩).getD undef,λj pv hj=>?_⟩;obtain⟨u,h1,h2⟩:=hc j pv hj;simp only[h1,ahH];exact⟨trivial,h2⟩
  obtain⟨f,hf⟩:=hf;refine key _ (.agg ((List.range sz).map f).toArray) n ⟨_,rfl,by simp [Nat.min_eq_left hle],λj pv hj=>?_⟩ λw' o=>?_
  ·rw[ahq]at hj;split at hj
   ·rename_i D;obtain⟨h1,h2⟩:=hf j pv hj;exact⟨f j,by simp [D],h2⟩
   ·cases hj
  ·unfold loadVar;have hd:Df (.struct fs)=true:=rfl;simp only[Sem.run_bind,zF hu,hd,Result.andThen]
   have hl:=run_loadCells (P:=P) w' ⟨b,off,none⟩ sz f (λj hj=>by
    rw[Addr.add_lit];have E:j<cells.length:=agc hj hle;exact o.cell (hf j _ (No E)).1)
   simp [sizeOf,typeInfo,hi,C,hl]
 ·exact aiI
 ·rename_i h1 h2
  have l:∃c r,cells=c::r/\K c:=by
   cases cells with
   | nil=>exact hp.elim
   | cons c r=>exact⟨c,r,rfl,cG hp⟩
  cases g:T.get t with
  | int k=>exact one _ (m.int _ _ g) rfl l
  | bool=>exact one _ (m.bool _ g) rfl l
  | str=>exact one _ (m.str _ g) rfl l
  | slice e sz F z=>exact one _ (m.slice _ _ _ _ _ g).1 rfl l
  | struct sz fl B=>exact(h1 _ _ _ g).elim
  | map k e z=>exact one _ (m.map _ _ _ _ g).1 rfl l
  | ptr e=>exact one _ (m.ptr _ _ g) rfl l
  | other=>exact(h2 g).elim
theorem ep {id:Nat} {g sz n:Nat} {e:TypeId} {f:Nat->List PV} (hh:dx h id=.row g sz n e f):h[id]? =some (ar.row g sz n e f):=by
 unfold dx at hh;rw[afP]at hh;cases a:h[id]? with
 | none=>rw[a]at hh;cases hh
 | some o=>rw[a]at hh;simp at hh;rw[hh]
theorem cw.sd {id gen off len:Nat} {v:Value} (hv:cw μ h S w (.own id gen off len) v):cf μ h w id gen off len v:=hv
theorem cw.wT {id gen i off:Nat} {v:Value} (hv:cw μ h S w (.bE id gen i off) v):cE μ h w id gen i off v:=hv
theorem cw.HI {id:Nat} {v:Value} (hv:cw μ h S w (.ql id) v):gy μ h w id v:=hv
theorem Di (m:cW μ h S w) {id g sz n:Nat} {e:TypeId} {f:Nat->List PV} {v:Value} (hh:h[id]? =some (ar.row g sz n e f)) (a:gy μ h w id v):
  ∃b base es c,μ id=some (b,base)/\v=.map (some b)/\w.heap[b]? =some (.map es c)/\es.size=n/\
   ∀i,i<n->∃(d j:PV) (en:MapEntry),f i=[d,j]/\lC d=true/\lC j=true/\es[i]? =some en/\uC d en.key/\uC j en.val:=by
 unfold gy at a;rw[hh]at a;obtain⟨_,b,base,k,⟨es,c,hb⟩,rfl⟩:=a;obtain⟨_,l⟩:=m id g sz n e f hh;rw[k]at l;obtain⟨o,h1,h2⟩:=l;obtain rfl:=agy (hb.symm.trans h1);exact⟨b,base,es,c,k,rfl,hb,h2.1,h2.2⟩
theorem zG:∀(z xs a:List PV) (b:Bool),FU z xs a=some b->∀(j:Nat) (pv:PV),a[j]? =some pv->∀u,wc pv u->cD μ h S w pv u
 | z,xs,a,b,hk,j,pv,hj,u,hu=>by
  unfold FU at hk;split at hk
  ·simp at hj
  ·obtain⟨_,c,hc,_⟩:=cQ hk;cases j with
   | zero=>simp at hj;subst hj;have hu:u=_:=hu;subst hu;exact bz.int _ _
   | succ j=>exact zG _ _ _ c hc j pv ajy u hu
  ·obtain⟨_,c,hc,_⟩:=cQ hk;cases j with
   | zero=>simp at hj;subst hj;have hu:u=_:=hu;subst hu;exact bz.bool _
   | succ j=>exact zG _ _ _ c hc j pv ajy u hu
  ·obtain⟨_,c,hc,_⟩:=cQ hk;cases j with
   | zero=>simp at hj;subst hj;have hu:u=_:=hu;subst hu;exact bz.str _
   | succ j=>exact zG _ _ _ c hc j pv ajy u hu
  ·cases hk
theorem Cn:∀(z xs a:List PV) (b:Bool),FU z xs a=some b->xs.length=z.length
 | z,xs,a,b,hk=>by
  unfold FU at hk;split at hk
  ·rfl
  ·obtain⟨_,c,hc,_⟩:=cQ hk;simp [Cn _ _ _ c hc]
  ·obtain⟨_,c,hc,_⟩:=cQ hk;simp [Cn _ _ _ c hc]
  ·obtain⟨_,c,hc,_⟩:=cQ hk;simp [Cn _ _ _ c hc]
  ·cases hk
theorem Mz {kt:TypeId} {fs:Array Field} {z xs:List PV} {a:Array Value} (hu:P.underlying kt=some (.struct fs)) (hf:kz P 0 fs.toList z=true)
  (b:∀(j:Nat) (pv:PV),xs[j]? =some pv->∃u,a[j]? =some u/\cD μ h S w pv u) (hl:xs.length=z.length) (em:Bool) (w':World):(Instr.checkKey em 10000 kt (.agg a)).run P w'=.ok () w':=by
 rw[show 10000=9999+1 from rfl,Instr.checkKey];simp only[Sem.run_bind,run_underlying hu,Result.andThen_ok];rw[<-Array.forIn_toList];replace b:∀(j:Nat) (pv:PV),xs[j]? =some pv->∃u,a[0+j]? =some u/\cD μ h S w pv u:=λj pv hj=>by rw[so];exact b j pv hj
 generalize(0:Nat)=n at hf b;generalize fs.toList=L at hf;clear hu;induction L generalizing n z xs with
 | nil=>simp
 | cons f L i=>
  cases z with
  | nil=>simp [kz]at hf
  | cons c z=>
   cases xs with
   | nil=>simp at hl
   | cons p xs=>
    have g:kz P (n+1) L z=true->(∀(j:Nat) (pv:PV),xs[j]? =some pv->∃u,a[n+1+j]? =some u/\cD μ h S w pv u):=λ_ j pv hj=>by
     obtain⟨u,q1,q2⟩:=b (j+1) pv ajy;exact⟨u,by rw[<-q1];congr 1;omega,q2⟩
    obtain⟨u,l,_⟩:=b 0 p rfl
    have key:∃d,P.underlying f.type=some d/\Df d=false/\f.name≠ "_" /\f.offset=n/\kz P (n+1) L z=true/\∀u,(Instr.checkKey em 9999 f.type u).run P w'=.ok () w':=by
     cases c with
     | int k t=>
      simp only[kz,As,ahL]at hf;obtain⟨⟨⟨h1,h2⟩,h3⟩,h4⟩:=hf;split at h3
      ·rename_i v hu;exact aiP
      ·cases h3
     | bool x=>
      simp only[kz,As,ahL]at hf;obtain⟨⟨⟨h1,h2⟩,h3⟩,h4⟩:=hf;split at h3
      ·rename_i hu;exact aiP
      ·cases h3
     | str y=>
      simp only[kz,As,ahL]at hf;obtain⟨⟨⟨h1,h2⟩,h3⟩,h4⟩:=hf;split at h3
      ·rename_i hu;exact aiP
      ·cases h3
     | _=>simp [kz]at hf
    obtain⟨d,hu,hd,m,o,e,q⟩:=key;have r:=vy hu hd a f.offset u (by rw[o];exact l) w';have s:=q u;simp only[List.forIn_cons,Sem.run_bind,m,ne_eq,not_false_eq_true,agu,Result.andThen_ok,r,s,Sem.run_pure];exact i ajP (n+1) (g e) e
def wU (P:Program) (kt:TypeId) (d:TypeDesc) (s:Bool) (key a:Value) (q:Bool):Prop:=
 match s with
 | false=>Instr.sameNow d key a=some q
 | true=>Instr.sameNow d key a=none/\∀w',(Op.equal kt key a).run P w'=.ok q w'
theorem N3 (n:dL P T) {kt:Nat} {kv:PV} {key:Value} {t:Bool} (o:cw μ h S w kv key) (h0:nM (T.get kt) kv kv=some t):
  ∃d s,P.underlying kt=some d/\(∀(em:Bool) (w':World),(Instr.checkKey em 10000 kt key).run P w'=.ok () w')/\∀(b:PV) (e:Value) (q:Bool),uC b e->nM (T.get kt) kv b=some q->wU P kt d s key e q:=by
 cases f:T.get kt with
 | int k=>
  rw[f]at h0;cases kv<;>simp only[nM]at h0<;>try cases h0
  rename_i D x;have hu:=n.int _ _ f;obtain⟨g,_⟩:=cQ h0;simp only[As]at g;obtain rfl:=eY g.1;obtain rfl:=o.mM;refine⟨_,false,hu,λem w'=>by rw[show 10000=9999+1 from rfl,Instr.checkKey];simp [run_underlying hu],λb e q hs a=>?_⟩;cases b<;>simp only[nM]at a<;>try cases a
  rename_i E p;obtain⟨hg,c,hc,rfl⟩:=cQ a;injection hc with hc;subst hc;simp only[As]at hg;obtain rfl:=eY hg.2;obtain rfl:e=_:=hs;simp [wU,Instr.sameNow]
 | str=>
  rw[f]at h0;cases kv<;>simp only[nM]at h0<;>try cases h0
  rename_i x;have hu:=n.str _ f;obtain rfl:=o.pF;refine⟨_,false,hu,λem w'=>by rw[show 10000=9999+1 from rfl,Instr.checkKey];simp [run_underlying hu],λb e q hs a=>?_⟩;cases b<;>simp only[nM]at a<;>try cases a
  obtain rfl:e=_:=hs;rename_i p;simp only[wU,Instr.sameNow];congr 1;show((Array.mk x)==(Array.mk p))=(x==p);rw[ahd,agJ,agJ,Array.mk.injEq]
 | struct sz fl z=>
  rw[f]at h0;cases kv<;>simp only[nM]at h0<;>try cases h0
  rename_i xs;split at h0
  ·rename_i v;have i:=n.flat _ _ _ _ f v;unfold HF at i;split at i
   ·rename_i fs hu;simp only[As,agA]at i;obtain⟨⟨h1,h2⟩,h3⟩:=i;obtain⟨y,ex,_,A⟩:=(show jG μ h S w (.agg xs) key from o);subst ex;have B:P.fieldsOf kt=fs:=by simp [Program.fieldsOf,hu]
    refine⟨_,true,hu,λem w'=>Mz hu h3 A (Cn z xs xs t h0) em w',λb e q hs a=>?_⟩;cases b<;>simp only[nM,v]at a<;>try cases a
    rename_i m;obtain⟨l,rfl,_,r⟩:=(show ∃vs:Array Value,e=.agg vs/\vs.size=m.length/\∀(j:Nat) (pv:PV),m[j]? =some pv->∃u:Value,vs[j]? =some u/\wc pv u from hs);refine⟨rfl,λw'=>?_⟩;show(Op.equalIn 10000 kt (.agg y) (.agg l)).run P w'=_;rw[run_equalIn_struct w' 9999 kt y l (by rw[B];exact hu) h1,B]
    exact uD (μ:=μ) (h:=h) (S:=S) (w:=w) 9998 fs.toList z xs m 0 q h3 (λj pv hj=>by rw[so];exact A j pv hj) (λj pv hj=>by
     rw[so];obtain⟨u,hu,C⟩:=r j pv hj;exact⟨u,hu,zG z xs m q a j pv hj u C⟩) a
   ·cases i
  ·cases h0
 | _=>
  rw[f]at h0;cases kv<;>simp [nM]at h0
theorem Dj {d:TypeDesc} {key:Value}:∀(l:List MapEntry) (i s:Nat) (en:MapEntry),(∀j,j<i->∀x:MapEntry,l[j]? =some x->Instr.sameNow d key x.key=some false)->l[i]? =some en->Instr.sameNow d key en.key=some true->
  Instr.findNow d key l s=some (some (s+i,en.val))
 | [],i,s,en,_,h,_=>by simp at h
 | x::l,0,s,en,_,h,a=>by
  simp at h;subst h;simp [Instr.findNow,a]
 | x::l,i+1,s,en,hf,h,a=>by
  have h0:=hf 0 ajo x rfl;have:=Dj l i (s+1) en (λj hj y hy=>hf (j+1) ajo y ajO) ajC a;simp only[Instr.findNow,h0,this];congr 3;omega
theorem zH {d:TypeDesc} {key:Value}:∀(l:List MapEntry) (s:Nat),(∀(j:Nat) (x:MapEntry),l[j]? =some x->Instr.sameNow d key x.key=some false)->Instr.findNow d key l s=some none
 | [],s,_=>rfl
 | x::l,s,hf=>by
  have h0:=hf 0 x rfl;simp only[Instr.findNow,h0];exact zH l (s+1) (λj y hy=>hf (j+1) y ajO)
theorem Dk {kt:TypeId} {key:Value} {w':World}:∀(l:List MapEntry) (i s:Nat) (en:MapEntry),(∀j,j<i->∀x:MapEntry,l[j]? =some x->(Op.equal kt key x.key).run P w'=.ok false w')->l[i]? =some en->(Op.equal kt key en.key).run P w'=.ok true w'->
  (Instr.findAsking kt key l s).run P w'=.ok (some (s+i,en.val)) w'
 | [],i,s,en,_,h,_=>by simp at h
 | x::l,0,s,en,_,h,a=>by
  simp at h;subst h;simp [Instr.findAsking,a]
 | x::l,i+1,s,en,hf,h,a=>by
  have h0:=hf 0 ajo x rfl;have:=Dk l i (s+1) en (λj hj y hy=>hf (j+1) ajo y ajO) ajC a;simp only[Instr.findAsking,Sem.run_bind,h0,Result.andThen_ok,agN,agG,this];congr 3;omega
theorem zI {kt:TypeId} {key:Value} {w':World}:∀(l:List MapEntry) (s:Nat),(∀(j:Nat) (x:MapEntry),l[j]? =some x->(Op.equal kt key x.key).run P w'=.ok false w')->(Instr.findAsking kt key l s).run P w'=.ok none w'
 | [],s,_=>rfl
 | x::l,s,hf=>by
  have h0:=hf 0 x rfl;simp only[Instr.findAsking,Sem.run_bind,h0,Result.andThen_ok,agN,agG];exact zI l (s+1) (λj y hy=>hf (j+1) y ajO)
theorem Dl {kt:TypeId} {d:TypeDesc} {s:Bool} {key:Value} {w':World} (hu:P.underlying kt=some d) (l:List MapEntry) (i:Nat) (en:MapEntry) (hf:∀j,j<i->∀x:MapEntry,l[j]? =some x->wU P kt d s key x.key false)
  (hi:l[i]? =some en) (a:wU P kt d s key en.key true):(Instr.findKey kt key l).run P w'=.ok (some (i,en.val)) w':=by
 unfold Instr.findKey;cases s with
 | false=>
  have:=Dj l i 0 en hf hi a;rw[so]at this;simp [run_underlying hu,this]
 | true=>
  have h1:=Dk (P:=P) (w':=w') l i 0 en (λj hj x b=>(hf j hj x b).2 w') hi (a.2 w');rw[so]at h1
  have h2:Instr.findNow d key l 0=none:=by
   cases l with
   | nil=>simp at hi
   | cons x l=>
    have h3:Instr.sameNow d key x.key=none:=by
     cases i with
     | zero=>simp at hi;subst hi;exact a.1
     | succ i=>exact(hf 0 ajo x rfl).1
    simp [Instr.findNow,h3]
  simp [run_underlying hu,h2,h1]
theorem zJ {kt:TypeId} {d:TypeDesc} {s:Bool} {key:Value} {w':World} (hu:P.underlying kt=some d) (l:List MapEntry) (hf:∀(j:Nat) (x:MapEntry),l[j]? =some x->wU P kt d s key x.key false):
  (Instr.findKey kt key l).run P w'=.ok none w':=by
 unfold Instr.findKey;cases s with
 | false=>simp [run_underlying hu,zH l 0 hf]
 | true=>
  have h1:=zI (P:=P) (w':=w') (kt:=kt) (key:=key) l 0 (λj x a=>(hf j x a).2 w');cases l with
  | nil=>simp [run_underlying hu,Instr.findNow]
  | cons x l=>
   have h3:Instr.sameNow d key x.key=none:=(hf 0 x rfl).1;simp [run_underlying hu,Instr.findNow,h3,h1]
theorem cD.v {pv:PV} {u:Value} (hc:cD μ h S w pv u):cw μ h S w pv u:=by
 cases pv<;>first | exact(show False from hc).elim | trivial | exact hc
theorem Dm (k:dL P T) (o:cW μ h S w) (t:Nat) (x:Operand) (l:PV) (m:cw μ h S w l (a.eval x)) (hp:zK T t l h K):
  dU P ⟨dst,.load t x,ty,pos,after,guard⟩ a μ h S w K:=by
 unfold zK at hp;split at hp
 ·rename_i cells;obtain⟨b,off,p,q,_,h2,h3⟩:=m.zE;exact Dh k t x cells b off q (λj pv hj=>⟨p j,h2 j pv hj,cD.my (h3 j pv hj)⟩) hp λpv u _ hc=>hc.v
 ·rename_i id gen i off;split at hp
  ·rename_i g sz n e f hg;obtain⟨rfl,_,rfl,hp⟩:=hp;have hh:=ep hg;have d:=m.wT;unfold cE at d;rw[hh]at d;obtain⟨_,_,d⟩:=d;obtain⟨r,b,base,s,y,hv⟩:=d rfl;obtain⟨hl,hc⟩:=o id g sz n e f hh;rw[s]at hc;obtain⟨cur,hb,A,z⟩:=cW.cells y.1 hc;refine Dh k t x _ b (base+i*sz+off) hv (λj pv hj=>?_) hp λpv u _ hc=>hc.v;rw[agZ]at hj;obtain⟨v,h1,h2⟩:=z i (off+j) pv r hj;refine⟨v,?_,h2.c⟩;rw[cell_of_row w b (base+i*sz+off+j) cur e (0,0) hb,<-h1];congr 1;omega
  ·exact aiI
 ·exact aiI
theorem n9 {e:TypeId} {i:TypeInfo} (hi:P.info? e=some i) (w':World):(sizeOf e).run P w'=.ok i.size w':=by
 simp [sizeOf,typeInfo,hi]
theorem Bk {t e:TypeId} {i:TypeInfo} (hu:P.underlying t=some (.slice e)) (hi:P.info? e=some i) (a:Addr) (n c:Nat) (k:IntKind) (x:Int) (h0:0<=x) (h1:x<n) (w':World):
  (Instr.indexAt t (.slice (some a) n c) (.int k x)).run P w'=.ok (.pointer (some (a.add (x.toNat*i.size)))) w':=by
 have he:P.elem t=e:=by simp [Program.elem,hu]
 rw[run_indexAt_slice w' t a n c k x ajM,an ⟨h0,h1⟩,he,n9 hi];rfl
theorem JZ (G:dL P T) (I:cW μ h S w) (H:∀t,cw μ h S w (env t) (a.tmps.getD t undef)) (t:Nat) (x i:Operand) (hp:de T (.indexAddr t x i) env h K):
  dU P ⟨dst,.indexAddr t x i,ty,pos,after,guard⟩ a μ h S w K:=by
 have s:=cM H x;have hi:=cM H i;unfold de at hp;simp only at hp;split at hp
 ·rename_i e sz J z L n f k d y hex m;rw[hex]at s;rw[m]at hi;replace hp:=ck hp;obtain⟨o,⟨h0,h1⟩,_,rfl,A⟩:=hp;obtain rfl:=afM o;have B:=hi.mM;obtain⟨hu,_,inf,zv,C,D,_⟩:=G.slice _ _ _ _ _ y;rcases s.xz with⟨_,_,_,rfl⟩ | ⟨b,off,c,M,ex,N,hl,hc,O,Q⟩
  ·omega
  ·have q:d.toNat<n:=by omega
   refine .mk A (bz.fT (f d.toNat) b (off+d.toNat*sz) (M d.toNat) N (λj pv hj=>O _ j pv q hj) (λj pv hj=>Q _ j pv q hj)) λw' _=>Bj ?_;rw[ex,B,Bk hu C _ _ _ _ _ h0 h1,D,Addr.add_lit]
 ·rename_i e sz J z id gen off len k d y hex m;rw[hex]at s;rw[m]at hi;have B:=hi.mM;obtain⟨hu,_,inf,zv,C,D,_⟩:=G.slice _ _ _ _ _ y;split at hp
  ·rename_i g L n V f R;obtain⟨rfl,hp⟩:=hp;replace hp:=ck hp;obtain⟨o,⟨h0,h1⟩,_,rfl,A⟩:=hp;obtain⟨o,r⟩:=Bool.and_eq_true_iff.1 o;obtain rfl:=afM o;have hh:=ep R;have l:=s.sd;unfold cf at l;rw[hh]at l;obtain⟨_,_,l⟩:=l;obtain⟨hle,l⟩:=l rfl;cases u:μ id with
   | none=>
    rw[u]at l;obtain⟨_,E⟩:=I id _ _ _ _ _ hh;rw[u]at E;have E:n=0:=E;omega
   | some p=>
    obtain⟨b,base⟩:=p;rw[u]at l;obtain⟨W,cap,ex,X,F,U⟩:=l;have F:=F ajo;subst F;refine .mk A (v:=.bE id g (off+d.toNat) 0) (val:=.pointer (some ⟨b,base+(off+d.toNat)*sz+0,none⟩)) ?_ λw' _=>Bj ?_
    ·show cE μ h w id g (off+d.toNat) 0 _;unfold cE;rw[hh];exact⟨⟨_,rfl⟩,abF _,λ_=>⟨by omega,b,base,u,⟨U.least,λhb=>by rw[hb]at r;cases r⟩,rfl⟩⟩
    ·rw[ex,B,Bk hu C _ _ _ _ _ h0 h1,D,Addr.add_lit];have:base+off*sz+d.toNat*sz=base+(off+d.toNat)*sz+0:=by rw[aga];omega
     rw[this]
  ·exact aiI
 ·exact aiI
theorem Dn (g:dL P T) (d:∀t,cw μ h S w (env t) (a.tmps.getD t undef)) (t:Nat) (x i:Operand) (hp:de T (.index t x i) env h K):
  dU P ⟨dst,.index t x i,ty,pos,after,guard⟩ a μ h S w K:=by
 have e:=cM d x;have hi:=cM d i;unfold de at hp;simp only at hp;split at hp
 ·rename_i s k b j hex c;rw[hex]at e;rw[c]at hi;obtain⟨⟨h0,h1⟩,_,rfl,l⟩:=hp;have m:=hi.mM;have ex:=e.pF;have hu:=g.str _ j;refine .mk l (bz.int _ _) λw' _=>Bj ?_;rw[ex,m]
  have hb:(ByteArray.mk ⟨s⟩)[b.toNat]? =some (s.getD b.toNat 0):=by
   have f:b.toNat<s.length:=by omega
   rw[afP,No f];rw[getElem?_pos (ByteArray.mk ⟨s⟩) b.toNat f];rfl
  simp only[Instr.index,asIntOf,Sem.run_bind,Sem.run_pure,Result.andThen,run_underlying hu,an h0,hb]
 ·exact aiI
theorem Pb (k:dL P T) (y:cW μ h S w) (B:∀t,cw μ h S w (env t) (a.tmps.getD t undef)) (args:Array Operand) (l:Array TypeId) (hp:de T (.call ⟨.builtin .len,args,l⟩) env h K):
  dU P ⟨dst,.call ⟨.builtin .len,args,l⟩,ty,pos,after,guard⟩ a μ h S w K:=by
 obtain⟨args⟩:=args;obtain⟨l⟩:=l;unfold de at hp;simp only at hp;split at hp
 ·rename_i x t;have i:=cM B x
  have fin:∀(n:Int) (val:Value),a.eval x=val->K (.int .i64 n)->(∀w',(Builtin.len_ #[t] ty #[val]).run P w'=.ok (goInt n) w')->
    dU P ⟨dst,.call ⟨.builtin .len,#[x],#[t]⟩,ty,pos,after,guard⟩ a μ h S w K:=λn val o q d=>.mk q (bz.int _ _) λw' _=>by
   simp only[execOp,resolve,invoke,builtin,Sem.run_bind,Sem.run_pure,Result.andThen_ok,ahV,afO,afR,o,d];rfl
  split at hp
  ·rename_i e sz A z C n f j hex;rw[hex]at i;obtain⟨hu,_⟩:=k.slice _ _ _ _ _ j;have he:P.elem t=e:=by simp [Program.elem,hu]
   rcases i.xz with⟨r,c,ex,rfl⟩ | ⟨b,off,c,H,ex,_⟩
   ·exact fin _ _ ex hp λw'=>run_len_slice w' t ty _ _ _ ajM
   ·exact fin _ _ ex hp λw'=>run_len_slice w' t ty _ _ _ ajM
  ·rename_i e sz A z j hex;rw[hex]at i;obtain⟨hu,_⟩:=k.slice _ _ _ _ _ j;have he:P.elem t=e:=by simp [Program.elem,hu]
   exact fin _ _ i.tj hp λw'=>run_len_slice w' t ty _ _ _ ajM
  ·rename_i e sz A z id gen off n j hex;rw[hex]at i;obtain⟨hu,_⟩:=k.slice _ _ _ _ _ j;have he:P.elem t=e:=by simp [Program.elem,hu]
   split at hp
   ·rename_i g C D I f u;obtain⟨rfl,q⟩:=hp;have hh:=ep u;have d:=i.sd;unfold cf at d;rw[hh]at d;obtain⟨_,_,d⟩:=d;obtain⟨hle,d⟩:=d rfl
    have o:∃r c,a.eval x=.slice r n c:=by
     cases m:μ id with
     | none=>
      rw[m]at d;obtain⟨_,v⟩:=y id _ _ _ _ _ hh;rw[m]at v;have v:D=0:=v;have:n=0:=by omega
      subst this;exact⟨_,_,d⟩
     | some p=>
      rw[m]at d;obtain⟨J,cap,ex,_⟩:=d;exact⟨_,_,ex⟩
    obtain⟨r,c,ex⟩:=o;exact fin _ _ ex q λw'=>run_len_slice w' t ty _ _ _ ajM
   ·exact aiI
  ·rename_i s j hex;rw[hex]at i;have hu:=k.str _ j;refine fin _ _ i.pF hp λw'=>?_;simp [Builtin.len_,run_underlying hu];rfl
  ·rename_i L M z0 id j hex;rw[hex]at i;obtain⟨hu,_⟩:=k.map _ _ _ _ j;split at hp
   ·rename_i g sz n e f u;obtain⟨b,base,es,c,m,ex,hb,E,_⟩:=Di y (ep u) i.HI;refine .mk hp (bz.int _ _) λw' F=>?_;have G:w'.heap[b]? =some (.map es c):=(F.blocks b (afN.1 hb).1).trans hb;simp only[execOp,resolve,invoke,builtin,Sem.run_bind,Sem.run_pure,Result.andThen_ok,ahV,afO,afR,ex];rw[show(Builtin.len_ #[t] ty #[.map (some b)]).run P w'=.ok (goInt es.size) w' by simp [Builtin.len_,run_underlying hu,run_getObj_map w' b es c G]];rw[E];rfl
   ·exact aiI
  ·exact aiI
 ·exact aiI
theorem Bl (s:List UInt8) (l m:Nat):(ByteArray.mk ⟨s⟩).extract l m=ByteArray.mk ⟨(s.take m).drop l⟩:=by
 apply ByteArray.ext;rw[ByteArray.data_extract];apply Array.ext';rw[List.drop_take];simp [Array.toList_extract,List.extract]
theorem Pc (C:dL P T) (x:cW μ h S w) (id g off len sz n:Nat) (e:TypeId) (f:Nat->List PV) (hh:h[id]? =some (ar.row g sz n e f)) (v:Value) (hv:cw μ h S w (.own id g off len) v) (l m:Nat) (hl:l<=m) (hm:m<=len):
  ∃j c,v=.slice j len c/\len<=c/\∀(d:Nat),m<=d->d<=c->cw μ h S w (.own id g (off+l) (m - l)) (.slice (if d=l then j else j.map (·.add (l*sz))) (m - l) (d - l)):=by
 have a:=hv.sd;unfold cf at a;rw[hh]at a;obtain⟨_,_,a⟩:=a;obtain⟨hle,a⟩:=a rfl;cases i:μ id with
 | none=>
  rw[i]at a;obtain⟨_,k⟩:=x id _ _ _ _ _ hh;rw[i]at k;have k:n=0:=k;have h0:len=0:=by omega
  subst h0;have a:v=.slice none 0 0:=a;refine⟨none,0,a,abF _,λd h1 h2=>?_⟩;have o:m=0:=by omega
  have y:l=0:=by omega
  have A:d=0:=by omega
  subst o;subst y;subst A;show cf μ h w id g (off+0) (0 - 0) _;unfold cf;rw[hh];refine⟨⟨_,_,_,rfl⟩,abF _,λ_=>⟨by omega,?_⟩⟩;rw[i];rfl
 | some p=>
  obtain⟨b,base⟩:=p;rw[i]at a;obtain⟨t,cap,ex,B,q,u⟩:=a;refine⟨some t,cap,ex,B,λd h1 h2=>?_⟩;show cf μ h w id g (off+l) (m - l) _;unfold cf;rw[hh];refine⟨⟨_,_,_,rfl⟩,abF _,λ_=>⟨by omega,?_⟩⟩;rw[i];by_cases r:d=l
  ·refine⟨t,0,by rw[an r];subst r;simp,by omega,λh=>absurd h ajo,?_⟩;obtain⟨cur,s,z,q1,q2⟩:=u;refine⟨cur,s,z,q1,agq ?_ q2⟩;have:(off+l+0)*sz<=(off+cap)*sz:=agb _ ajo;omega
  ·have q:=q ajo;subst q;refine⟨⟨b,base+(off+l)*sz,none⟩,d - l,?_,by omega,λ_=>rfl,?_⟩
   ·rw[mg r,Option.map_some,Addr.add_lit,aga,ahv]
   ·obtain⟨cur,s,z,q1,q2⟩:=u;refine⟨cur,s,z,q1,agq ?_ q2⟩;have:(off+l+(d - l))*sz<=(off+cap)*sz:=agb _ ajo;omega
theorem Pd (sz n:Nat) (f:Nat->List PV) (v:Value) (hv:cw μ h S w (.gn sz n f) v) (l m:Nat) (hl:l<=m) (hm:m<=n):
  ∃d c,v=.slice d n c/\((n<=c\/n=0)/\∀(a:Nat),m<=a->(a<=c\/m=0)->cw μ h S w (.gn sz (m - l) (λi=>f (l+i))) (.slice (if a=l then d else d.map (·.add (l*sz))) (m - l) (a - l))):=by
 rcases hv.xz with⟨d,c,ex,rfl⟩ | ⟨b,off,c,g,ex,k,hlen,hc,o,p⟩
 ·have e:m=0:=by omega
  subst e;have q:l=0:=by omega
  subst q;exact⟨d,c,ex,.inr rfl,λa _ _=>bz.tM _ _ _ _⟩
 ·refine⟨_,c,ex,.inl hc,λa h1 h2=>?_⟩;by_cases r:m=l
  ·subst r;rw[agY];exact bz.tM _ _ _ _
  ·rw[mg ajo,Option.map_some,Addr.add_lit];refine bz.gn sz (m - l) _ b (off+l*sz) (a - l) (λi j=>g (l+i) j) k (λi hi=>hlen _ ajo) ajo (λi j pv hi hj=>?_) (λi j pv hi hj=>p _ j pv ajo hj);have:=o (l+i) j pv ajo hj;rw[aga]at this;rw[<-this];congr 2;omega
theorem dz {o:Oper} {s:Sem Value} {val:Value} {w' b:World} (he:execOp a.eval o=(do pure (Next.value (<-s)):Sem Next)) (hs:s.run P w'=.ok val b):(execOp a.eval o).run P w'=.ok (.value val) b:=by
 rw[he];exact Bj hs
theorem yB (b:∀x,cw μ h S w (ev env x) (a.eval x)) {lo:Option Operand}:(lo.map (ev env)=none->lo.map a.eval=none)/\∀k n,lo.map (ev env)=some (.int k n)->lo.map a.eval=some (.int k n):=by
 cases lo with
 | none=>exact⟨λ_=>rfl,λk n h=>(by cases h)⟩
 | some x=>
  refine⟨λh=>(by cases h),λk n hh=>?_⟩;have hh:ev env x=.int k n:=by injection hh
  have:=b x;rw[hh]at this;show some (a.eval x)=_;rw[this.mM]
theorem MB {t e:TypeId} {i:TypeInfo} (hu:P.underlying t=some (.slice e)) (hi:P.info? e=some i) (a:Option Addr) (n c:Nat) (hc:n<=c) (w':World):
  ((Instr.sliceAt t (.slice a n c) none none none).run P w'=.ok (sliced a 0 n c i.size) w')/\
  (∀(k:IntKind) (l:Int),0<=l->l<=n->(Instr.sliceAt t (.slice a n c) (some (.int k l)) none none).run P w'=.ok (sliced a l.toNat n c i.size) w')/\
  (∀(k:IntKind) (m:Int),0<=m->m<=n->(Instr.sliceAt t (.slice a n c) none (some (.int k m)) none).run P w'=.ok (sliced a 0 m.toNat c i.size) w')/\
  (∀(k:IntKind) (l:Int) (b:IntKind) (m:Int),0<=l->l<=m->m<=n->(Instr.sliceAt t (.slice a n c) (some (.int k l)) (some (.int b m)) none).run P w'=.ok (sliced a l.toNat m.toNat c i.size) w')/\
  (∀(k:IntKind) (m:Int) (b:IntKind) (q:Int),0<=m->m<=q->q<=n->(Instr.sliceAt t (.slice a n c) none (some (.int k m)) (some (.int b q))).run P w'=.ok (sliced a 0 m.toNat q.toNat i.size) w')/\
  (∀(k:IntKind) (l:Int) (b:IntKind) (m:Int) (d:IntKind) (q:Int),0<=l->l<=m->m<=q->q<=n->(Instr.sliceAt t (.slice a n c) (some (.int k l)) (some (.int b m)) (some (.int d q))).run P w'=.ok (sliced a l.toNat m.toNat q.toNat i.size) w'):=by
 have he:P.elem t=e:=by simp [Program.elem,hu]
 have f:P.underlying t=some (.slice (P.elem t)):=by rw[he];exact hu
 have g:(n:Int)<=c:=by omega
 refine⟨?_,λk l h0 h1=>?_,λk m h0 h1=>?_,λk l b m h0 h1 h2=>?_,λk m b q h0 h1 h2=>?_,λk l b m d q h0 h1 h2 h3=>?_⟩<;>rw[run_sliceAt_slice w' _ _ _ _ _ f]
 ·rw[run_slice_all w' t a n c f,he,n9 hi];rfl
 ·rw[run_slice_l w' t a n c f k l h0 h1,he,n9 hi];rfl
 ·rw[run_slice_h w' t a n c f k m h0 ajo,he,n9 hi];rfl
 ·rw[run_slice_lh w' t a n c f k b l m h0 h1 ajo,he,n9 hi];rfl
 ·rw[run_slice_hm w' t a n c f k b m q h0 h1 ajo,he,n9 hi];rfl
 ·rw[run_slice_lhm w' t a n c f k b d l m q h0 h1 h2 ajo,he,n9 hi];rfl
theorem dU.choose {o:Oper} (hs:dU P o a μ h S w (J0 K)):dU P o a μ h S w K:=by
 obtain⟨v,val,d,hv,e⟩:=hs;cases v with
 | gn sz n f=>
  obtain⟨k,l,rfl,hf,d⟩:=d;refine⟨_,val,d,?_,e⟩;rcases hv.xz with⟨a,c,rfl,rfl⟩ | ⟨b,off,c,m,rfl,h1,h2,h3,h4,h5⟩
  ·exact bz.tM _ _ _ _
  ·exact bz.gn sz k l b off c m h1 (λi hi=>by rw[hf i hi];exact h2 i hi) h3 (λi j pv hi hj=>h4 i j pv hi ajE) (λi j pv hi hj=>h5 i j pv hi ajE)
 | str s=>
  obtain⟨_,rfl,d⟩:=d;exact⟨_,val,d,hv,e⟩
 | own id g off n=>
  obtain⟨_,_,rfl,rfl,d⟩:=d;exact⟨_,val,d,hv,e⟩
 | _=>exact⟨_,val,d,hv,e⟩
theorem J1 (J:dL P T) (Z:cW μ h S w) (L:∀t,cw μ h S w (env t) (a.tmps.getD t undef)) (t:Nat) (x:Operand) (lo hi j:Option Operand) (hp:de T (.slice t x lo hi j) env h K):
  dU P ⟨dst,.slice t x lo hi j,ty,pos,after,guard⟩ a μ h S w K:=by
 have y:=cM L x;have r:=yB (λx=>cM L x) (lo:=lo);have u:=yB (λx=>cM L x) (lo:=hi);have B:=yB (λx=>cM L x) (lo:=j);unfold de at hp;simp only at hp
 have key:∀(K:PV->Prop) (e:TypeId) (i:TypeInfo) (sz n:Nat) (o:Option Addr) (c:Nat) (R:Nat->Nat->PV),P.underlying t=some (.slice e)->P.info? e=some i->i.size=sz->a.eval x=.slice o n c->n<=c->
   (∀l m j,l<=m->m<=n->m<=j->j<=c->cw μ h S w (R l m) (.slice (if j=l then o else o.map (·.add (l*sz))) (m - l) (j - l)))->Uy n (hi.map (ev env)) (j.map (ev env))->
   (match lo.map (ev env),hi.map (ev env)with
    | none,none=>K (R 0 n)
    | some (.int _ l),none=>(0<=l/\l<=n)/\K (R l.toNat n)
    | none,some (.int _ m)=>(0<=m/\m<=n)/\K (R 0 m.toNat)
    | some (.int _ l),some (.int _ m)=>(0<=l/\l<=m/\m<=n)/\K (R l.toNat m.toNat)
    | _,_=>False)->dU P ⟨dst,.slice t x lo hi j,ty,pos,after,guard⟩ a μ h S w K:=by
  intro K e i sz n o c R hu C D ex hc E hm hp;subst D;have A:=λw'=>MB (P:=P) hu C o n c hc w'
  have fin:∀(l m q:Nat),l<=m->m<=n->m<=q->q<=c->K (R l m)->(∀w',(Instr.sliceAt t (.slice o n c) (lo.map a.eval) (hi.map a.eval) (j.map a.eval)).run P w'=.ok (sliced o l m q i.size) w')->
    dU P ⟨dst,.slice t x lo hi j,ty,pos,after,guard⟩ a μ h S w K:=λl m q h1 h2 h3 h4 M N=>.mk M (E l m q h1 h2 h3 h4) λw' _=>dz rfl (by rw[ex];exact N w')
  unfold Uy at hm;split at hm
  ·rename_i d;have d:=B.1 d;split at hp
   ·rename_i b e2;exact fin 0 n c ajo ajo hc ajo hp λw'=>by rw[r.1 b,u.1 e2,d];exact(A w').1
   ·rename_i k l b e2;obtain⟨⟨h0,h1⟩,hp⟩:=hp;exact fin l.toNat n c ajo ajo hc ajo hp λw'=>by rw[r.2 _ _ b,u.1 e2,d];exact(A w').2.1 _ _ h0 h1
   ·rename_i k m b e2;obtain⟨⟨h0,h1⟩,hp⟩:=hp;exact fin 0 m.toNat c ajo ajo ajo ajo hp λw'=>by rw[r.1 b,u.2 _ _ e2,d];exact(A w').2.2.1 _ _ h0 h1
   ·rename_i k l O m b e2;obtain⟨⟨h0,h1,h2⟩,hp⟩:=hp;exact fin l.toNat m.toNat c ajo ajo ajo ajo hp λw'=>by rw[r.2 _ _ b,u.2 _ _ e2,d];exact(A w').2.2.2.1 _ _ _ _ h0 h1 h2
   ·exact aiI
  ·rename_i ad q d;have d:=B.2 _ _ d;split at hm
   ·rename_i k3 m v;obtain⟨F,G⟩:=hm;rw[v]at hp;split at hp
    ·rename_i b e2;cases e2
    ·rename_i b e2;cases e2
    ·rename_i k m' b e2;injection e2 with e2;injection e2 with Q U;subst Q;subst U;obtain⟨⟨h0,h1⟩,hp⟩:=hp;exact fin 0 m.toNat q.toNat ajo ajo ajo ajo hp λw'=>by rw[r.1 b,u.2 _ _ v,d];exact(A w').2.2.2.2.1 _ _ _ _ h0 F G
    ·rename_i k l O m' b e2;injection e2 with e2;injection e2 with Q U;subst Q;subst U;obtain⟨⟨h0,h1,h2⟩,hp⟩:=hp;exact fin l.toNat m.toNat q.toNat ajo ajo ajo ajo hp λw'=>by rw[r.2 _ _ b,u.2 _ _ v,d];exact(A w').2.2.2.2.2 _ _ _ _ _ _ h0 h1 F G
    ·exact aiI
   ·exact hm.elim
  ·exact hm.elim
 split at hp
 ·rename_i e sz bt z cA n f H hex;rw[hex]at y;replace hp:=ck hp;obtain⟨V,hm,hp⟩:=hp;obtain rfl:=afM V;obtain⟨hu,_,inf,zv,C,D,_⟩:=J.slice _ _ _ _ _ H;have e0:(λi=>f (0+i))=f:=by funext i;rw[so]
  have I:=λl m (h1:l<=m) (h2:m<=n)=>Pd sz n f _ y l m h1 h2;obtain⟨o,c,ex,hc,_⟩:=I 0 0 (abF _) (agt _);have hc:n<=c:=by rcases hc with hc | hc<;>omega
  refine dU.choose ?_;refine key (J0 K) e inf sz n o c (λl m=>.gn sz (m - l) (λi=>f (l+i))) hu C D ex hc (λl m q h1 h2 h3 h4=>?_) hm ?_
  ·obtain⟨W,c',p,_,E⟩:=I l m h1 h2;rw[ex]at p;injection p with b e2 d;subst b;subst d;exact E q h3 (.inl h4)
  ·simp only[e0,Nat.sub_zero];exact hp
 ·rename_i e sz bt z id gen off len H hex;rw[hex]at y;obtain⟨hu,_,inf,zv,C,D,_⟩:=J.slice _ _ _ _ _ H;split at hp
  ·rename_i g cA n' e' f FV;obtain⟨rfl,hp⟩:=hp;replace hp:=ck hp;obtain⟨V,hm,hp⟩:=hp;obtain rfl:=afM V;have hh:=ep FV;have I:=λl m (h1:l<=m) (h2:m<=len)=>Pc J Z id g off len sz n' e' f hh _ y l m h1 h2;obtain⟨o,c,ex,hc,_⟩:=I 0 0 (abF _) (agt _);refine dU.choose ?_;refine key (J0 K) e inf sz len o c (λl m=>.own id g (off+l) (m - l)) hu C D ex hc (λl m q h1 h2 h3 h4=>?_) hm ?_
   ·obtain⟨W,c',p,_,E⟩:=I l m h1 h2;rw[ex]at p;injection p with b e2 d;subst b;subst d;exact E q h3 h4
   ·exact hp
  ·exact aiI
 ·rename_i s H hex;rw[hex]at y;replace hp:=ck hp;obtain⟨X,hp⟩:=hp;obtain rfl:j=none:=by simpa using X
  refine dU.choose ?_;generalize J0 K=K at*;have ex:=y.pF;have hu:=J.str _ H;have lA:(ByteArray.mk ⟨s⟩).size=s.length:=rfl
  have fin:∀(l m:Nat) (Y:List UInt8),Y=(s.take m).drop l->K (.str Y)->(∀w',(Instr.sliceAt t (.string ⟨⟨s⟩⟩) (lo.map a.eval) (hi.map a.eval) none).run P w'=.ok (.string ((ByteArray.mk ⟨s⟩).extract l m)) w')->
    dU P ⟨dst,.slice t x lo hi none,ty,pos,after,guard⟩ a μ h S w K:=λl m Y hs M N=>.mk M (bz.str _) λw' _=>dz rfl (by rw[ex,hs,<-Bl];exact N w')
  simp only[Dp]at hp;split at hp
  ·rename_i b e2;exact fin 0 s.length s ajq hp λw'=>by rw[r.1 b,u.1 e2,run_sliceAt_string w' _ _ _ _ _ hu,run_slice_string_all w' t ⟨⟨s⟩⟩ hu];rfl
  ·rename_i k l b e2;obtain⟨⟨h0,h1⟩,hp⟩:=hp;exact fin l.toNat s.length _ ajq hp λw'=>by rw[r.2 _ _ b,u.1 e2,run_sliceAt_string w' _ _ _ _ _ hu,run_slice_string_l w' t ⟨⟨s⟩⟩ hu k l h0 h1];rfl
  ·rename_i k m b e2;obtain⟨⟨h0,h1⟩,hp⟩:=hp;exact fin 0 m.toNat _ ajq hp λw'=>by rw[r.1 b,u.2 _ _ e2,run_sliceAt_string w' _ _ _ _ _ hu,run_slice_string_h w' t ⟨⟨s⟩⟩ hu k m h0 h1]
  ·rename_i k l O m b e2;obtain⟨⟨h0,h1,h2⟩,hp⟩:=hp;exact fin l.toNat m.toNat _ rfl hp λw'=>by rw[r.2 _ _ b,u.2 _ _ e2,run_sliceAt_string w' _ _ _ _ _ hu,run_slice_string w' t ⟨⟨s⟩⟩ k O l m hu h0 h1 h2]
  ·exact aiI
 ·exact aiI
theorem tZ:∀(cs l:List PV) (off j:Nat),off+cs.length<=l.length->(dN l off cs)[j]? =if off<=j/\j<off+cs.length then cs[j - off]? else l[j]?
 | [],l,off,j,_=>by
  simp only[dN,agv,agM];rw[mg ajo]
 | c::r,l,off,j,hl=>by
  simp only[dN,age]at hl ⊢;rw[tZ r (l.set off c) (off+1) j ajs];by_cases h1:j=off
  ·subst h1;rw[mg ajo,an ajo,agY,agK ajo];rfl
  ·rw[agi ajo];by_cases h2:off+1<=j/\j<off+1+r.length
   ·rw[an h2,an ajo];have:j - off=(j - (off+1))+1:=by omega
    rw[this,agx]
   ·rw[mg h2,mg ajo]
theorem pG:∀(cs l:List PV) (off:Nat),(dN l off cs).length=l.length
 | [],_,_=>rfl
 | c::r,l,off=>by simp only[dN];rw[pG r];simp
theorem bz.no {pv:PV} {v:Value} (h:bz S w pv v):dM pv=false:=by cases h<;>rfl
theorem N4 {c:PV} (h:oI c=true):dM c=false:=by cases c<;>first | rfl | cases h
theorem MC {v:PV} (h:storable v=true) {j:Nat} {pv:PV} (hj:(cellsOf v)[j]? =some pv):dM pv=false:=by
 have hm:=afX hj;cases v with
 | agg cs=>exact N4 (afS.1 h pv hm)
 | _=>exact N4 (by rw[ahy.1 hm];exact h)
theorem pH {pv:PV} {v:Value} (hs:storable pv=true) (hv:cw μ h S w pv v):
  v.cells.toList.length=(cellsOf pv).length/\∀(j:Nat) (p:PV),(cellsOf pv)[j]? =some p->∃u,v.cells.toList[j]? =some u/\cD μ h S w p u:=by
 have one:∀(hc:cD μ h S w pv v),cellsOf pv=[pv]->v.cells.toList.length=(cellsOf pv).length/\∀(j:Nat) (p:PV),(cellsOf pv)[j]? =some p->∃u,v.cells.toList[j]? =some u/\cD μ h S w p u:=by
  intro hc he;have h1:=hc.one;have h2:v.cells=#[v]:=by cases v<;>first | rfl | cases h1
  rw[h2,he];refine⟨rfl,λj p hj=>?_⟩;cases j with
  | zero=>
   simp at hj;subst hj;exact⟨v,rfl,hc⟩
  | succ j=>simp at hj
 cases pv with
 | agg cs=>
  obtain⟨vs,rfl,h2,h3⟩:=hv;refine⟨by simpa[Value.cells,cellsOf]using h2,λj p hj=>?_⟩;obtain⟨u,hu,a⟩:=h3 j p hj;exact⟨u,by simpa[Value.cells]using hu,a⟩
 | hJ vs=>cases hs
 | aV sz n e f F=>cases hs
 | jI=>cases hs
 | ql id=>exact one hv rfl
 | uP f df=>exact one hv rfl
 | int k n=>exact one hv rfl
 | bool b=>exact one hv rfl
 | str s=>exact one hv rfl
 | au=>exact one hv rfl
 | jq=>exact one hv rfl
 | gn sz n f=>exact one hv rfl
 | fT cs=>exact one hv rfl
 | own id gen off len=>exact one hv rfl
 | bE id gen i off=>exact one hv rfl
 | fn f=>exact one hv rfl
theorem FX:∀(l:List Value) (s off:Nat) (cs:Array Value),off+s+l.length<=cs.size->
  ((l.zipIdx s).foldl (λ(cs:Array Value) (p:Value×Nat)=>cs.setIfInBounds (off+p.2) p.1) cs).size=cs.size/\
  ∀q,((l.zipIdx s).foldl (λ(cs:Array Value) (p:Value×Nat)=>cs.setIfInBounds (off+p.2) p.1) cs)[q]? =if off+s<=q/\q<off+s+l.length then l[q - (off+s)]? else cs[q]?
 | [],s,off,cs,_=>by
  refine⟨rfl,λq=>?_⟩;simp only[List.zipIdx_nil,List.foldl_nil,agv,agM];rw[mg ajo]
 | v::r,s,off,cs,hl=>by
  simp only[age]at hl;obtain⟨h1,h2⟩:=FX r (s+1) off (cs.setIfInBounds (off+s) v) ajs;simp only[List.zipIdx_cons,List.foldl_cons,age];refine⟨by rw[h1];simp,λq=>?_⟩;rw[h2 q];by_cases b:q=off+s
  ·subst b;rw[mg ajo,an ajo,agY];simp [Array.getElem?_setIfInBounds,show off+s<cs.size from by omega]
  ·by_cases a:off+(s+1)<=q/\q<off+(s+1)+r.length
   ·rw[an a,an ajo];have:q - (off+s)=(q - (off+(s+1)))+1:=by omega
    rw[this,agx]
   ·rw[mg a,mg ajo,ahJ ajo]
theorem we (v:Value) (off:Nat) (cs:Array Value) (hl:off+v.cells.size<=cs.size):
  (v.cells.zipIdx.foldl (λ(cs:Array Value) (p:Value×Nat)=>cs.setIfInBounds (off+p.2) p.1) cs).size=cs.size/\
  ∀q,(v.cells.zipIdx.foldl (λ(cs:Array Value) (p:Value×Nat)=>cs.setIfInBounds (off+p.2) p.1) cs)[q]? =if off<=q/\q<off+v.cells.size then v.cells[q - off]? else cs[q]?:=by
 have h:=FX v.cells.toList 0 off cs ajP;rw[<-Array.foldl_toList];simp only[Array.toList_zipIdx,agM,agL,agn]at h ⊢;exact h
theorem MD {l:List PV} (hb:isByte l=true):∃v,l=[.int .u8 v]:=by
 unfold isByte at hb;split at hb
 ·exact⟨_,rfl⟩
 ·cases hb
theorem Dq {g:Nat->List PV} {s:List UInt8} {n:Nat} (hl:s.length=n) (hf:∀i,i<n->g i=[.int .u8 (s.getD i 0).toNat]):(∀i,i<n->isByte (g i)=true)/\(List.range n).map (λi=>byteOf (g i))=s:=by
 refine⟨λi hi=>by rw[hf i hi];rfl,?_⟩;apply List.ext_getElem (by simp [hl]);intro i h1 h2;simp only[ahp,List.length_range]at h1;rw[List.getElem_map,List.getElem_range,hf i h1];simp [byteOf,afP,No h2]
theorem Fg (y:dL P T) (L:cW μ h S w) (M:∀t,cw μ h S w (env t) (a.tmps.getD t undef)) (s d:Nat) (x:Operand) (hp:de T (.convert s d x) env h K):
  dU P ⟨dst,.convert s d x,ty,pos,after,guard⟩ a μ h S w K:=by
 have m:=cM M x;unfold de at hp;simp only at hp;split at hp
 ·rename_i k0 k k1 n hs hd hex;rw[hex]at m
  exact .mk hp (bz.int _ _) λw' _=>dz rfl (by
   rw[m.mM];simp [convert,run_underlying (y.int _ _ hs),run_underlying (y.int _ _ hd),Conv.intToInt])
 ·rename_i e sz bt z hs hd;split at hp
  ·rename_i E;have hu:=(y.slice _ _ _ _ _ hs).1;have o:=y.int _ _ E;have r:=y.str _ hd
   have key:∀(b off c n:Nat) (g:Nat->List PV),a.eval x=.slice (some ⟨b,off,none⟩) n c->(∀i,i<n->isByte (g i)=true)->K (.str ((List.range n).map λi=>byteOf (g i)))->
     (∀i v,i<n->g i=[.int .u8 v]->w.cell? ⟨b,off+i,none⟩=some (.int .u8 v))->dU P ⟨dst,.convert s d x,ty,pos,after,guard⟩ a μ h S w K:=by
    intro b off c n g ex hb j A;have num:∀i,i<n->∃v,g i=[.int .u8 v]:=λi hi=>MD (hb i hi)
    let val:Nat->Int:=λi=>match g i with | [.int _ v]=>v | _=>0
    have I:∀i,i<n->g i=[.int .u8 (val i)]:=λi hi=>by
     obtain⟨v,hv⟩:=num i hi;simp only[val,hv]
    refine .mk j (bz.str _) λw' N=>dz rfl ?_;rw[ex,run_convert_bytes_arg w' s e hu o b off n c ((List.range n).map val) ajq (λi hi=>?_) d r]
    ·congr 2;simp only[strOfNums]
     have:((List.range n).map val).map (λq=>UInt8.ofNat q.toNat)=(List.range n).map λi=>byteOf (g i):=by
      rw[List.map_map];apply List.map_congr_left;intro i hi;rw[I i (ahC.1 hi)];rfl
     rw[this]
    ·rw[N.cell (A i _ hi (I i hi))];simp [afP,hi]
   unfold yC at hp;split at hp
   ·rename_i hex;rw[hex]at m;refine .mk hp (bz.str _) λw' _=>dz rfl ?_;rw[m.tj,run_convert_bytes_nil w' s e hu o 0 0 d r];rfl
   ·rename_i O n f hex;rw[hex]at m;replace hp:=ck hp;obtain⟨h1,F,B,C,j⟩:=hp;obtain⟨hb,D⟩:=Dq B C;replace j:K (.str F):=j;rw[<-D]at j;clear B C D;obtain rfl:=afM h1;rcases m.xz with⟨Q,c,ex,rfl⟩ | ⟨b,off,c,R,ex,hS,hl,hc,A,U⟩
    ·cases Q with
     | none=>
      refine .mk j (bz.str _) λw' _=>dz rfl ?_;rw[ex,run_convert_bytes_nil w' s e hu o 0 c d r];rfl
     | some G=>
      refine .mk j (bz.str _) λw' _=>dz rfl ?_;rw[ex,run_convert_bytes_string w' s d e _ 0 c hu o r,run_bytesToString w' G 0 c [] (by simp [loadCells,loadCellsFrom])];rfl
    ·refine key b off c n f ex hb j λi v hi hv=>?_;have q1:=A i 0 (.int .u8 v) hi (by rw[hv];rfl);have q2:=U i 0 (.int .u8 v) hi (by rw[hv];rfl);rw[Nat.mul_one,agM]at q1;rw[q1];generalize R i 0=u at q2;cases q2;rfl
   ·rename_i id gen off n hex;rw[hex]at m;split at hp
    ·rename_i g O V J f W;obtain⟨rfl,hp⟩:=hp;replace hp:=ck hp;obtain⟨h1,F,B,C,j⟩:=hp;obtain⟨hb,D⟩:=Dq (g:=λi=>f (off+i)) B C;replace j:K (.str F):=j;rw[<-D]at j;clear B C D;obtain rfl:=afM h1;have hh:=ep W;have l:=m.sd;unfold cf at l;rw[hh]at l;obtain⟨⟨a0,l0,c0,e0⟩,_,l⟩:=l;obtain⟨LK,l⟩:=l rfl;obtain⟨hl,hc⟩:=L id g 1 V J f hh;cases hm:μ id with
     | none=>
      rw[hm]at l hc;have H:n=0:=by omega
      subst H;refine .mk j (bz.str _) λw' _=>dz rfl ?_;rw[show a.eval x=.slice none 0 0 from l,run_convert_bytes_nil w' s e hu o 0 0 d r];rfl
     | some p=>
      obtain⟨b,base⟩:=p;rw[hm]at l hc;obtain⟨G,cap,ex,fK,X,Y⟩:=l;obtain⟨cur,Z,xU,A⟩:=cW.cells Y hc;rcases agO n with h0 | h0
      ·subst h0;refine .mk j (bz.str _) λw' _=>dz rfl ?_;rw[ex,run_convert_bytes_string w' s d e _ 0 cap hu o r,run_bytesToString w' G 0 cap [] (by simp [loadCells,loadCellsFrom])];rfl
      ·rw[X ajo,Nat.mul_one]at ex;refine key b (base+off) cap n (λi=>f (off+i)) ex hb j λi v hi hv=>?_;obtain⟨u,q1,q2⟩:=A (off+i) 0 (.int .u8 v) ajo (by rw[hv];rfl);have q2:bz S w (.int .u8 v) u:=q2;cases q2;rw[cell_of_row w b (base+off+i) cur J (0,0) Z,<-q1];congr 1;omega
    ·exact aiI
   ·exact aiI
  ·exact aiI
 ·exact aiI
theorem Dr (j:∀t,cw μ h S w (env t) (a.tmps.getD t undef)) (x:Operand) (hp:de T (.nilCheck x) env h K):
  dU P ⟨dst,.nilCheck x,ty,pos,after,guard⟩ a μ h S w K:=by
 have c:=cM j x;unfold de at hp;simp only at hp;split at hp
 ·rename_i cs hex;rw[hex]at c;obtain⟨b,off,l,ex,_⟩:=c.zE;exact .mk hp c λw' _=>by simp [execOp,ex]
 ·rename_i id gen i off hex;rw[hex]at c;split at hp
  ·rename_i g sz n e f k;obtain⟨rfl,hp⟩:=hp;have hh:=ep k;have d:=c.wT;unfold cE at d;rw[hh]at d;obtain⟨_,_,d⟩:=d;obtain⟨m,b,base,o,p,hv⟩:=d rfl;exact .mk hp c λw' _=>by simp [execOp,hv]
  ·exact aiI
 ·exact aiI
theorem Bm (c:dL P T) {s sz k o size:Nat} {fl:List (Nat×Nat×Bool)} {z:List PV} {a:Bool} (e:T.get s=.struct sz fl z) (hk:fl[k]? =some (o,size,a)) (b off:Nat) (w':World):
  (Instr.fieldAt s (.pointer (some ⟨b,off,none⟩)) k).run P w'=.ok (.pointer (some ⟨b,off+o,none⟩)) w':=by
 obtain⟨fs,i,hu,hi,g,h,_,hf⟩:=c.struct _ _ _ _ e;obtain⟨f,j,d,h1,h2,h3,h4,h5,h6,h7⟩:=hf k o size a hk;have h0:¬j.size=0:=by omega
 simp [Instr.fieldAt,run_underlying hu,h1,Instr.sureAddr,fieldPlace,n9 h3,h0,Addr.add_lit,h2]
theorem BZ (l:dL P T) (p:∀t,cw μ h S w (env t) (a.tmps.getD t undef)) (s:Nat) (x:Operand) (k:Nat) (hp:de T (.fieldAddr s x k) env h K):
  dU P ⟨dst,.fieldAddr s x k,ty,pos,after,guard⟩ a μ h S w K:=by
 have d:=cM p x;unfold de at hp;simp only at hp;split at hp
 ·rename_i sz fl z m;split at hp
  ·rename_i o size D hk;split at hp
   ·rename_i cs hex;rw[hex]at d;obtain⟨b,off,q,ex,r,u,v⟩:=d.zE;refine .mk hp (bz.fT (cs.drop o) b (off+o) (λj=>q (o+j)) r (λj pv hj=>?_) (λj pv hj=>?_)) λw' _=>dz rfl (by rw[ex];exact Bm l m hk b off w')
    ·rw[agZ]at hj;rw[ahv];exact u _ _ hj
    ·rw[agZ]at hj;exact v _ _ hj
   ·rename_i id gen i off hex;rw[hex]at d;split at hp
    ·rename_i g E n e f y;obtain⟨rfl,hp⟩:=hp;have hh:=ep y;have c:=d.wT;unfold cE at c;rw[hh]at c;obtain⟨_,_,c⟩:=c;obtain⟨A,b,base,B,C,hv⟩:=c rfl;refine .mk hp ?_ λw' _=>dz rfl (by rw[hv];exact Bm l m hk b _ w');show cE _ _ _ _ _ _ _ _;unfold cE;rw[hh];exact⟨⟨_,rfl⟩,abF _,λ_=>⟨A,b,base,B,C,by simp only[ahv]⟩⟩
    ·exact aiI
   ·exact aiI
  ·exact aiI
 ·exact aiI
theorem zL (g:∀t,cw μ h S w (env t) (a.tmps.getD t undef)) (sz:Nat) (fl:List (Nat×Nat×Bool)) (place:Nat->Option (Nat×Nat)) (b:∀(k o size:Nat) (e:Bool),fl[k]? =some (o,size,e)->place k=some (o,size)) {K:List PV->Prop}:
  ∀(l:List (Nat×Operand)) (acc:List PV) (cells:Array Value),tm env sz fl K l acc->cells.size=sz->acc.length=sz->(∀(j:Nat) (pv:PV),acc[j]? =some pv->∃u,cells[j]? =some u/\cD μ h S w pv u)->
  ∃c d,K c/\Instr.fill place cells (l.map λp=>(p.1,a.eval p.2))=some d/\d.size=sz/\c.length=sz/\∀(j:Nat) (pv:PV),c[j]? =some pv->∃u,d[j]? =some u/\cD μ h S w pv u
 | [],acc,cells,hp,hs,hl,f=>⟨acc,cells,hp,rfl,hs,hl,f⟩
 | (k,x)::r,acc,cells,hp,hs,hl,f=>by
  unfold tm at hp;split at hp
  ·rename_i o size e hk;replace hp:=ck (cG hp);obtain⟨i,hp⟩:=hp;simp only[As]at i;obtain⟨⟨n,hlen⟩,m⟩:=i;have hlen:=afM hlen;have m:=agj m;obtain⟨h3,h4⟩:=pH n (cM g x);simp only[agL,agn]at h3 h4;have q:(a.eval x).cells.size=size:=h3.trans hlen;obtain⟨s,g2⟩:=we (a.eval x) o cells ajo
   obtain⟨c,d,q1,q2,q3⟩:=zL g sz fl place b r (dN acc o (cellsOf (ev env x))) ((a.eval x).cells.zipIdx.foldl (λ(cs:Array Value) (p:Value×Nat)=>cs.setIfInBounds (o+p.2) p.1) cells) hp (s.trans hs) (by rw[pG];exact hl)
    (λj pv hj=>by
     rw[tZ _ _ _ _ ajo]at hj;rw[g2 j];by_cases hc:o<=j/\j<o+size
     ·rw[an ajo]at hj;rw[an ajo];exact h4 _ _ hj
     ·rw[mg ajo]at hj;rw[mg ajo];exact f j pv hj)
   refine⟨c,d,q1,?_,q3⟩;simp only[afO,Instr.fill,b k o size e hk];rw[mg (by simp only[q,ne_eq,not_true_eq_false,false_or];simp only[ahe,agE,not_or];simp;omega)];exact q2
  ·exact aiI
theorem FY:∀(fs:List Field) (n:Nat) (fl:List (Nat×Nat×Bool)),fl.length=fs.length->
  (∀(k o size:Nat) (a:Bool),fl[k]? =some (o,size,a)->∃f j,fs[k]? =some f/\f.offset=o/\P.info? f.type=some j/\j.size=size)->
  fs.mapM (λf=>(P.info? f.type).map λi=>(f.offset,i.size))=some (fl.map λq=>(q.1,q.2.1))
 | [],n,[],_,_=>rfl
 | f::fs,n,(o,size,a)::fl,hl,hf=>by
  obtain⟨c,j,h1,h2,h3,h4⟩:=hf 0 o size a rfl;simp at h1;subst h1
  have b:=FY fs n fl ajP (λk o size a hk=>by
   obtain⟨f,j,q⟩:=hf (k+1) o size a ajQ;exact⟨f,j,by simpa using q⟩)
  simp only[List.mapM_cons,afO,h3,Option.map_some,Option.bind_eq_bind,ahW,b,h2,h4];rfl
theorem J2 (l:dL P T) (m:∀t,cw μ h S w (env t) (a.tmps.getD t undef)) (t:Nat) (parts:Array (Nat×Operand)) (hp:de T (.build t parts) env h K):
  dU P ⟨dst,.build t parts,ty,pos,after,guard⟩ a μ h S w K:=by
 unfold de at hp;simp only at hp;split at hp
 ·rename_i sz fl z n;obtain⟨fs,i,hu,hi,A,r,⟨zv,s,u,v,x⟩,hf⟩:=l.struct _ _ _ _ n
  have b:=FY (P:=P) fs.toList 0 fl (by simpa using r) (λk o size c hk=>by
   obtain⟨f,j,d,h1,h2,h3,h4,_⟩:=hf k o size c hk;exact⟨f,j,by simpa using h1,h2,h3,h4⟩)
  obtain⟨B,e,q1,q2,q3,q4,y⟩:=zL (a:=a) (μ:=μ) (h:=h) (S:=S) (w:=w) m sz fl ((fl.map λq=>(q.1,q.2.1)).toArray[·]?) (λk o size c hk=>by simp [hk]) parts.toList z zv.cells hp u v (λj pv hj=>by
   have g:j<zv.cells.size:=by
    have:=(An.1 hj).1;omega
   obtain⟨C,h5,_,h6⟩:=x j zv.cells[j] (agk g);rw[hj]at h5;injection h5 with h5;subst h5;exact⟨_,agk g,cD.my (h6 S w)⟩)
  refine .mk q1 ⟨e,rfl,by omega,y⟩ λw' _=>dz rfl (run_build w' t _ e ?_);unfold Program.built;simp only[hi,hu,s,b];have:(parts.map λp=>(p.1,a.eval p.2)).toList=parts.toList.map λp=>(p.1,a.eval p.2):=by simp
  rw[this];exact q2
 ·exact aiI
theorem J3 {P:Program} {t:TypeId} {d:TypeDesc} {j:TypeInfo} (hu:P.underlying t=some d) (hi:P.info? t=some j) (cs:Array Value) (off:Nat) (w:World):
  (part t cs off).run P w=if Df d then .ok (.agg (cs.extract off (off+j.size))) w else match cs[off]? with | some v=>.ok v w | none=>(part t cs off).run P w:=by
 cases hd:Df d with
 | true=>simp [part,zF hu,hd,n9 hi]
 | false=>
  simp only[agN,agG];cases hc:cs[off]? with
  | none=>rfl
  | some v=>simp [part,zF hu,hd,hc]
theorem J4 (p:dL P T) (y:∀t,cw μ h S w (env t) (a.tmps.getD t undef)) (s:Nat) (x:Operand) (k:Nat) (hp:de T (.field s x k) env h K):
  dU P ⟨dst,.field s x k,ty,pos,after,guard⟩ a μ h S w K:=by
 have l:=cM y x;unfold de at hp;simp only at hp;split at hp
 ·rename_i sz fl z A;split at hp
  ·rename_i o size B hk;split at hp
   ·rename_i cs hex;rw[hex]at l;obtain⟨vs,ex,D,hv⟩:=l;obtain⟨fs,i,hu,hi,E,F,_,hf⟩:=p.struct _ _ _ _ A;obtain⟨f,j,d,h1,h2,h3,h4,h5,h6,h7⟩:=hf k o size B hk
    have m:∀w' v,(part f.type vs f.offset).run P w'=.ok v w'->(execOp a.eval ⟨dst,.field s x k,ty,pos,after,guard⟩).run P w'=.ok (.value v) w':=λw' v C=>dz rfl (by
     rw[ex];simp [Instr.field,run_underlying hu,h1,C,asAgg])
    split at hp
    ·obtain⟨hle,n⟩:=tl _ _ _ hp;simp only[ahU,agD,ahX]at n hle;refine .mk n (val:=.agg (vs.extract o (o+size))) ⟨_,rfl,by simp;omega,λq pv b=>?_⟩ λw' _=>m w' _ (by rw[J3 h6 h3,<-h7,an rfl,h2,h4]);rw[ahq]at b;split at b
     ·rename_i G;rw[agZ]at b;obtain⟨u,e,g⟩:=hv _ _ b;refine⟨u,?_,g⟩;rw[Array.getElem?_extract];have:o+q<vs.size:=(afN.1 e).1;rw[an ajo];exact e
     ·cases b
    ·split at hp
     ·rename_i c r hd
      have h0:cs[o]? =some c:=by
       have:=congrArg (·[0]?) hd;simpa using this
      obtain⟨u,e,g⟩:=hv _ _ h0;exact .mk (cG hp) g.v λw' _=>m w' _ (by rw[J3 h6 h3,<-h7,h2];simp [e])
     ·exact aiI
   ·exact aiI
  ·exact aiI
 ·exact aiI
theorem uC.Pf {pv:PV} {v:Value} (hs:lC pv=true) (a:uC pv v):cw μ h S w pv v:=by
 have one:∀(pv:PV) (v:Value),wV pv=true->wc pv v->cD μ h S w pv v:=λpv v hs a=>by
  cases pv<;>first | (cases hs;done) | (have a:v=_:=a;subst a;first | exact bz.int _ _ | exact bz.bool _ | exact bz.str _) | exact a
 cases pv with
 | agg cs=>
  obtain⟨vs,h1,h2,h3⟩:=a;exact⟨vs,h1,h2,λj pv hj=>let⟨u,hu,hc⟩:=h3 j pv hj;⟨u,hu,one pv u (afS.1 hs _ (afX hj)) hc⟩⟩
 | jI=>trivial
 | int k n=>exact one (.int k n) v rfl a
 | bool b=>exact one (.bool b) v rfl a
 | str s=>exact one (.str s) v rfl a
 | _=>cases hs
theorem uC.abK {pv:PV} {v:Value} (hs:lC pv=true) (a:uC pv v):jG μ h S w pv v:=by
 have:=uC.Pf (μ:=μ) (h:=h) (S:=S) (w:=w) hs a;cases pv with
 | hJ _=>cases hs
 | _=>exact this
theorem HJ (F:dL P T) (Q:cW μ h S w) (G:∀t,cw μ h S w (env t) (a.tmps.getD t undef)) (t:Nat) (x i:Operand) (ok:Bool) (hp:de T (.lookup t x i ok) env h K):
  dU P ⟨dst,.lookup t x i ok,ty,pos,after,guard⟩ a μ h S w K:=by
 have H:=cM G x;have hi:=cM G i;simp only[de]at hp;split at hp
 ·rename_i kt et zv id R hex;rw[hex]at H;split at hp
  ·rename_i g sz n e f U;replace hp:=ck (cG hp);obtain⟨hk,r,b,hm,I⟩:=hp;obtain⟨hu,inf,z,V,W,X,Y,Ds⟩:=F.map _ _ _ _ R;obtain⟨bl,base,es,c,iz,ex,hb,Z,J⟩:=Di Q (ep U) H.HI;obtain⟨q0,h0⟩:=Option.isSome_iff_exists.1 hk;obtain⟨d,s,hd,L,M⟩:=N3 F hi h0
   have N:∀m,m<=n->FZ (T.get kt) f m (ev env i)->∀j,j<m->∀y:MapEntry,es.toList[j]? =some y->wU P kt d s (a.eval i) y.key false:=λm aa l j hj y hy=>by
    obtain⟨q,vp,h1,h2⟩:=l j hj;obtain⟨u,v,en,h3,_,_,h4,h5,_⟩:=J j ajo;rw[h1]at h3;injection h3 with A e2;subst A;have:y=en:=by rw[agn]at hy;exact agy (hy.symm.trans h4)
    subst this;exact M q y.key false h5 h2
   have run:∃val,uC r val/\lC r=true/\∀w',da w w'->(Instr.lookup t (.map (some bl)) (a.eval i) ok).run P w'=.ok (if ok then .tuple #[val,.bool b]else val) w':=by
    rcases hm with⟨rfl,B,C,l,q,hf,hq⟩ | ⟨rfl,rfl,l⟩
    ·obtain⟨u,v,en,h3,_,h6,h4,h5,h7⟩:=J B C;rw[hf]at h3;injection h3 with A e2;injection e2 with e2 _;subst A e2;refine⟨en.val,h7,h6,λw' k=>?_⟩;have D:w'.heap[bl]? =some (.map es c):=(k.blocks bl (afN.1 hb).1).trans hb;have E:=Dl (P:=P) (w':=w') hd es.toList B en (N B ajo l) (by rw[agn];exact h4) (M q en.key true h5 hq);simp [Instr.lookup,run_underlying hu,run_getObj_map w' bl es c D,L,E]
    ·refine⟨z,X,Y,λw' k=>?_⟩;have D:w'.heap[bl]? =some (.map es c):=(k.blocks bl (afN.1 hb).1).trans hb
     have E:=zJ (P:=P) (w':=w') hd es.toList (λj y hy=>N n (abF _) l j (by
      have:=(An.1 hy).1;rw[<-Z];simpa using this) y hy)
     simp [Instr.lookup,run_underlying hu,run_getObj_map w' bl es c D,L,E,zeroValue,typeInfo,V,W]
   obtain⟨val,o,p,O⟩:=run;cases ok with
   | true=>
    refine .mk I ?_ λw' k=>dz rfl (by rw[ex];exact O w' k)
    exact⟨_,rfl,rfl,λj pv hj=>by
     rcases j with _ | _ | j
     ·cases hj;exact⟨_,rfl,o.abK p⟩
     ·cases hj;exact⟨_,rfl,bz.bool _⟩
     ·simp at hj⟩
   | false=>exact .mk (cG I) (o.Pf p) λw' k=>dz rfl (by rw[ex];exact O w' k)
  ·exact aiI
 ·exact aiI
theorem qB (f:dL P T) (j:cW μ h S w) (e:∀t,cw μ h S w (env t) (a.tmps.getD t undef)) {op:Op} (hp:de T op env h K):
  dU P ⟨dst,op,ty,pos,after,guard⟩ a μ h S w K:=by
 cases op with
 | lookup t x i ok=>exact HJ f j e t x i ok hp
 | makeFunc fn first captured=>exact(show False from hp).elim
 | move x=>exact .mk (cG hp) (cM e x) λ_ _=>rfl
 | assign x=>exact .mk (cG hp) (cM e x) λ_ _=>rfl
 | pick c x y=>
  have hc:=cM e c;simp only[de]at hp;split at hp
  ·rename_i b hex;rw[hex]at hc;have o:=hc.oZ;obtain⟨h1,h2⟩:=lZ hp;cases b with
   | true=>exact .mk (cG (h1 rfl)) (cM e x) λw' _=>by simp [execOp,o,asBool]
   | false=>exact .mk (cG (h2 rfl)) (cM e y) λw' _=>by simp [execOp,o,asBool]
  ·exact aiI
 | binOp q t x y r=>exact O9 f q t r x y _ _ (cM e x) (cM e y) hp
 | unOp u t x=>
  have g:=cM e x;simp only[de]at hp;split at hp
  ·rename_i b hex;rw[hex]at g;exact .mk hp (bz.bool _) λw' _=>dz rfl (by rw[g.oZ,unary_not];rfl)
  ·rename_i k n hex;rw[hex]at g;exact .mk hp (bz.int _ _) λw' _=>dz rfl (by rw[g.mM,unary_neg];rfl)
  ·exact aiI
 | load t x=>exact Dm f j t x _ (cM e x) hp
 | convert s d x=>exact Fg f j e s d x hp
 | nilCheck x=>exact Dr e x hp
 | fieldAddr s x k=>exact BZ f e s x k hp
 | build t parts=>exact J2 f e t parts hp
 | field s x k=>exact J4 f e s x k hp
 | indexAddr t x i=>exact JZ f j e t x i hp
 | index t x i=>exact Dn f e t x i hp
 | extract x i=>
  have g:=cM e x;simp only[de]at hp;split at hp
  ·rename_i vs hex;rw[hex]at g;split at hp
   ·rename_i v hv;obtain⟨us,z,e2,A⟩:=g;obtain⟨u,hu,p⟩:=A i v hv
    have l:cw μ h S w v u:=by
     cases v with
     | hJ D=>exact(show False from p).elim
     | _=>exact p
    exact .mk (cG hp) l λw' _=>dz rfl (by rw[z];simp [Instr.extract,hu])
   ·exact aiI
  ·exact aiI
 | slice t x lo hi B=>exact J1 f j e t x lo hi B hp
 | call c=>
  obtain⟨m,args,C⟩:=c;cases m with
  | builtin b=>cases b with
   | len=>exact Pb f j e args C hp
   | _=>exact(show False from hp).elim
  | _=>exact(show False from hp).elim
 | _=>exact(show False from hp).elim
end
section
variable {P:Program}{T:sI}{μ:Mu}{h:List ar}{S:Nat->Prop}{w w1:World}
def qm (μ:Mu) (id:Nat) (p:Option (Nat×Nat)):Mu:=λj=>if j=id then p else μ j
theorem cb (μ:Mu) (id:Nat) (p:Option (Nat×Nat)):qm μ id p id=p:=by simp [qm]
theorem dk (μ:Mu) {id j:Nat} (p:Option (Nat×Nat)) (hj:j≠id):qm μ id p j=μ j:=by simp [qm,hj]
structure Core (μ:Mu) (h:List ar) (S:Nat->Prop) (w:World):Prop where
 heap:cW μ h S w
 ok:vz μ h S w
theorem Du (hc:Core μ h S w) (id g D sz n m:Nat) (e:TypeId) (f s:Nat->List PV) (hh:h[id]? =some (ar.row g sz n e f)) (d H:Nat) (I:Array Value)
  (hg:g<=D) (aa:D=g->μ id=some (d,H)/\m=n)
  (hb:w.heap.size<=d\/∃base cur,μ id=some (d,base)/\w.heap[d]? =some (.cells cur e (0,0))/\cur.size=I.size)
  (hw:w1.heap[d]? =some (.cells I e (0,0))) (xU:H+m*sz<=I.size)
  (G:∀b,b<w.heap.size->b≠d->w1.heap[b]? =w.heap[b]?) (Z:w.heap.size<=w1.heap.size) (ad:w1.os=w.os) (J5:w1.tape=w.tape) (MF:w1.output=w.output)
  (hl:∀i,i<m->(s i).length=sz) (RI:∀b base,μ id=some (b,base)->¬uE w b)
  (bQ:∀(i j:Nat) (pv:PV),i<m->(s i)[j]? =some pv->∃v:Value,I[H+i*sz+j]? =some v/\rH μ h S w pv v) (J6:Nat)
  (wW:∀(i j M N:Nat) (J:TypeId) (O:Nat->List PV) (P:Nat->Prop),i<m->(s i)[j]? =some (.aV M N J O P)->J6+i<n/\(f (J6+i))[j]? =some (.aV M N J O P)):
  Fr μ h S w (qm μ id (some (d,H))) (h.set id (.row D sz m e s)) S w1/\Core (qm μ id (some (d,H))) (h.set id (.row D sz m e s)) S w1:=by
 have hid:id<h.length:=(An.1 hh).1;have gG:(h.set id (ar.row D sz m e s))[id]? =some (ar.row D sz m e s):=by simp [hid]
 have r:∀j,j≠id->(h.set id (ar.row D sz m e s))[j]? =h[j]?:=λj hj=>by rw[agi (agX hj)]
 have RN:d<w1.heap.size:=(afN.1 hw).1
 have wX:d<w.heap.size->dc μ h d:=λE=>by
  rcases hb with hb | ⟨base,cur,hm,_,_⟩
  ·omega
  ·exact .inl ⟨id,g,sz,n,e,f,base,hh,hm⟩
 have K:∀j x y b,dD (h.set id (ar.row D sz m e s)) j x y b->dD h j (if j=id then J6+x else x) y b:=λj x y b ⟨t,u,A,B,C,M,N,J,O,P,q1,q2,q3,q4⟩=>by
  by_cases a:j=id
  ·subst a;rw[gG]at q1;injection q1 with q1;injection q1 with Q e2 R T U;subst Q e2 R T U;obtain⟨r1,V⟩:=wW x y _ _ _ _ _ q2 q3;rw[an rfl];exact⟨_,_,_,_,_,_,_,_,_,_,hh,r1,V,q4⟩
  ·rw[r j a]at q1;rw[mg a];exact aji
 have u5:∀j x y b,dD h j x y b->b<w.heap.size/\b≠d:=λj x y b l=>by
  have E:=hc.ok.lt b (.inr ⟨j,x,y,l⟩);refine⟨E,?_⟩;rintro rfl;rcases hb with hb | ⟨base,cur,hm,_,_⟩
  ·omega
  ·exact hc.ok.hv b ⟨id,g,sz,n,e,f,base,hh,hm⟩ j x y l
 have W:Fr μ h S w (qm μ id (some (d,H))) (h.set id (.row D sz m e s)) S w1:=by
  refine⟨by simp,λb E Ga=>?_,λ_ hb=>hb,λ_ hb=>.inl hb,λb X=>?_,Z,ad,J5,MF,λj t u A B C hj=>?_,λj hj=>?_,λb k yD fK=>?_,λj t u A B C b base hj hm Y=>?_,λb j x y l Y=>?_⟩;rotate_right
  ·obtain⟨q1,q2⟩:=u5 j x y b l;obtain⟨es,c,q⟩:=Y;exact⟨es,c,(G b q1 q2).trans q⟩
  ·by_cases F:b=d
   ·subst F;exact(Ga (wX E)).elim
   ·exact G b E F
  ·rcases X with⟨j,t,u,A,B,C,qn,hj,hm⟩ | ⟨j,x,y,l⟩;rotate_left
   ·exact .inl (.inr ⟨_,_,_,K j x y b l⟩)
   by_cases a:j=id
   ·subst a;rw[cb]at hm;injection hm with hm;injection hm with h1 h2;subst h1;rcases agI d w.heap.size with E | N5
    ·exact .inl (wX E)
    ·exact .inr N5
   ·rw[r j a]at hj;rw[dk μ _ a]at hm;exact .inl (.inl ⟨j,t,u,A,B,C,qn,hj,hm⟩)
  ·by_cases a:j=id
   ·subst a;rw[hh]at hj;injection hj with hj;injection hj with Q e2 R T U;subst Q e2 R T U;rw[gG];refine⟨hg,λhe=>?_⟩;obtain⟨h1,h2⟩:=aa he;exact⟨by rw[cb,h1],rfl,h2,rfl⟩
   ·rw[r j a,hj];exact⟨abF _,λ_=>⟨dk μ _ a,rfl,rfl,rfl⟩⟩
  ·have a:j≠id:=by rintro rfl;rw[hh]at hj;cases hj
   rw[r j a];exact hj
  ·by_cases F:b=d
   ·subst F;obtain⟨cur,J,z,q1,q2⟩:=fK;rcases hb with hb | ⟨base,B0,hm,pJ,lA⟩
    ·have:=(afN.1 q1).1;omega
    ·rw[pJ]at q1;injection q1 with q1;injection q1 with q1 _ _;subst q1;exact⟨I,e,_,hw,by omega⟩
   ·exact lD.of_same (G b fK.lt F) fK
  ·have a:j≠id:=by rintro rfl;exact RI b base hm Y
   have F:b≠d:=by
    rintro rfl;obtain⟨es,c,q⟩:=Y;rcases hb with hb | ⟨rR,B0,L,pJ,_⟩
    ·have:=(afN.1 q).1;omega
    ·rw[pJ]at q;cases q
   obtain⟨es,c,q⟩:=Y;exact⟨⟨es,c,(G b (afN.1 q).1 F).trans q⟩,.inr ⟨⟨_,_,_,_,_,(r j a).trans hj⟩,by rw[dk μ _ a];exact hm⟩⟩
 refine⟨W,⟨λj t u A B C hj=>?_,?_⟩⟩
 ·by_cases a:j=id
  ·subst a;rw[gG]at hj;injection hj with hj;injection hj with Q e2 R T U;subst Q e2 R T U;rw[cb];refine⟨hl,cW.Dv ⟨I,hw,xU,λi k pv hi hk=>?_⟩⟩;obtain⟨v,h1,h2⟩:=bQ i k pv hi hk;refine⟨v,h1,h2.fr W hc.ok (λM N J O P he b X=>?_)⟩;rw[he]at hk;obtain⟨r1,V⟩:=wW i k _ _ _ _ _ hi hk;obtain⟨q1,q2⟩:=u5 j (J6+i) k b ⟨_,_,_,_,_,_,_,_,_,_,hh,r1,V,X⟩;exact G b q1 q2
  ·rw[r j a]at hj;obtain⟨h1,h2⟩:=hc.heap j t u A B C hj;refine⟨h1,?_⟩;rw[dk μ _ a];cases hm:μ j with
   | none=>rw[hm]at h2;exact h2
   | some p=>
    obtain⟨b,base⟩:=p;rw[hm]at h2;obtain⟨o,q1,q2⟩:=h2;have E:b<w.heap.size:=(afN.1 q1).1
    have F:b≠d:=by
     rintro rfl;rcases hb with hb | ⟨rR,B0,L,_⟩
     ·omega
     ·exact a (hc.ok.inj j id _ _ _ _ _ _ _ _ _ _ _ _ _ hj hh hm L)
    exact⟨o,(G b E F).trans q1,q2.mono (λi y pv v hi hy hr=>hr.fr W hc.ok (λM N J O P he b' X=>by
     obtain⟨q1,q2⟩:=u5 j i y b' ⟨_,_,_,_,_,_,_,_,_,_,hj,hi,by rw[hy,he],X⟩;exact G b' q1 q2))⟩
 ·refine⟨λb yD N6=>?_,λb yD=>?_,λb N6=>agc (hc.ok.slt b N6) Z,?_,hc.ok.AS W,λb Wz j x y l=>?_,λb j x y j' x' y' l wx=>?_⟩;rotate_right 2
  ·obtain⟨q1,q2⟩:=u5 _ _ _ b (K j x y b l);obtain⟨k,gk,WA,nk,ek,fk,J7,hk,hm⟩:=Wz;by_cases yE:k=id
   ·subst yE;rw[cb]at hm;injection hm with hm;injection hm with h1 h2;exact q2 h1.symm
   ·rw[r k yE]at hk;rw[dk μ _ yE]at hm;exact hc.ok.hv b ⟨k,gk,WA,nk,ek,fk,J7,hk,hm⟩ _ _ _ (K j x y b l)
  ·obtain⟨r1,V,r3⟩:=hc.ok.hh b _ _ _ _ _ _ (K j x y b l) (K j' x' y' b wx);subst r1;refine⟨rfl,?_,r3⟩;split at V<;>omega
  ·rcases W.own b yD with h1 | h1
   ·exact hc.ok.apart b h1 N6
   ·have:=hc.ok.slt b N6;omega
  ·rcases yD with⟨j,t,u,A,B,C,qn,hj,hm⟩ | ⟨j,x,y,l⟩;rotate_left
   ·exact agc (hc.ok.lt b (.inr ⟨_,_,_,K j x y b l⟩)) Z
   by_cases a:j=id
   ·subst a;rw[cb]at hm;injection hm with hm;injection hm with h1 h2;subst h1;exact RN
   ·rw[r j a]at hj;rw[dk μ _ a]at hm;exact agc (hc.ok.lt b (.inl ⟨j,t,u,A,B,C,qn,hj,hm⟩)) Z
  ·intro i j gi Pg ni ei fi t u A B C b o o' hi hj qe oP;by_cases J8:i=id
   ·by_cases a:j=id
    ·rw[J8,a]
    ·subst J8;rw[cb]at qe;injection qe with qe;injection qe with h1 h2;subst h1;rw[r j a]at hj;rw[dk μ _ a]at oP;rcases hb with hb | ⟨rR,B0,L,_⟩
     ·have:=hc.ok.lt _ (.inl ⟨j,t,u,A,B,C,o',hj,oP⟩);omega
     ·exact hc.ok.inj i j _ _ _ _ _ _ _ _ _ _ _ _ _ hh hj L oP
   ·rw[r i J8]at hi;rw[dk μ _ J8]at qe;by_cases a:j=id
    ·subst a;rw[cb]at oP;injection oP with oP;injection oP with h1 h2;subst h1;rcases hb with hb | ⟨rR,B0,L,_⟩
     ·have:=hc.ok.lt _ (.inl ⟨i,gi,Pg,ni,ei,fi,o,hi,qe⟩);omega
     ·exact hc.ok.inj i j _ _ _ _ _ _ _ _ _ _ _ _ _ hi hh qe L
    ·rw[r j a]at hj;rw[dk μ _ a]at oP;exact aja
theorem Gb (hc:Core μ h S w) (sz n:Nat) (e:TypeId) (f:Nat->List PV) (p:Option (Nat×Nat))
  (hp:match p with
   | none=>n=0
   | some (b,base)=>w.heap.size<=b/\∃o:Obj,w1.heap[b]? =some o/\yF (cD μ h S w) base sz n e f o)
  (a:da w w1) (hl:∀i,i<n->(f i).length=sz) (O:∀(i j:Nat) (pv:PV),i<n->(f i)[j]? =some pv->dM pv=false):
  Fr μ h S w (qm μ h.length p) (h++[.row 0 sz n e f]) S w1/\Core (qm μ h.length p) (h++[.row 0 sz n e f]) S w1:=by
 have D:∀j o,h[j]? =some o->(h++[ar.row 0 sz n e f])[j]? =some o:=λj o hj=>by
  rw[ago (An.1 hj).1];exact hj
 have T:(h++[ar.row 0 sz n e f])[h.length]? =some (ar.row 0 sz n e f):=by simp
 have t:∀j o,(h++[ar.row 0 sz n e f])[j]? =some o->(h[j]? =some o/\j≠h.length)\/(j=h.length/\o=ar.row 0 sz n e f):=λj o hj=>by
  rcases Nat.lt_trichotomy j h.length with u | heq | FV
  ·rw[ago u]at hj;exact .inl ⟨hj,by omega⟩
  ·subst heq;rw[T]at hj;injection hj with hj;exact .inr ⟨rfl,hj.symm⟩
  ·rw[agf ajs]at hj;cases hj
 have P:∀j o,h[j]? =some o->qm μ h.length p j=μ j:=λj o hj=>dk μ _ (by have:=(An.1 hj).1;omega)
 have z:∀j x y b,dD (h++[ar.row 0 sz n e f]) j x y b->dD h j x y b:=λj x y b ⟨g,l,m,r,s,U,V,W,X,Y,q1,q2,q3,q4⟩=>by
  rcases t j _ q1 with⟨h1,h2⟩ | ⟨h1,h2⟩
  ·exact⟨_,_,_,_,_,_,_,_,_,_,h1,q2,q3,q4⟩
  ·injection h2 with E e2 F G H;subst E e2 F G H;have:=O x y _ q2 q3;cases this
 have A:Fr μ h S w (qm μ h.length p) (h++[.row 0 sz n e f]) S w1:=by
  refine⟨by simp,λb u _=>a.blocks b u,λ_ hb=>hb,λ_ hb=>.inl hb,λb I=>?_,a.size,a.os,a.tape,a.output,λj g l m r s hj=>?_,λj hj=>D j _ hj,λb k B Q=>lD.of_same (a.blocks b Q.lt) Q,λj g l m r s b base hj hm J=>⟨let⟨es,c,q⟩:=J;⟨es,c,(a.blocks b (afN.1 q).1).trans q⟩,.inr ⟨⟨_,_,_,_,_,D j _ hj⟩,by rw[P j _ hj];exact hm⟩⟩,λb j x y d J=>let⟨es,c,q⟩:=J;⟨es,c,(a.blocks b (afN.1 q).1).trans q⟩⟩
  ·rcases I with⟨j,g,l,m,r,s,K,hj,hm⟩ | ⟨j,x,y,d⟩;rotate_left
   ·exact .inl (.inr ⟨_,_,_,z j x y b d⟩)
   rcases t j _ hj with⟨h1,h2⟩ | ⟨h1,h2⟩
   ·rw[dk μ _ h2]at hm;exact .inl (.inl ⟨j,g,l,m,r,s,K,h1,hm⟩)
   ·subst h1;rw[cb]at hm;subst hm;exact .inr hp.1
  ·rw[D j _ hj];exact⟨abF _,λ_=>⟨P j _ hj,rfl,rfl,rfl⟩⟩
 refine⟨A,⟨λj g l m r s hj=>?_,?_⟩⟩
 ·rcases t j _ hj with⟨h1,h2⟩ | ⟨h1,h2⟩
  ·obtain⟨q1,q2⟩:=hc.heap j g l m r s h1;refine⟨q1,?_⟩;rw[dk μ _ h2];cases hm:μ j with
   | none=>rw[hm]at q2;exact q2
   | some L=>
    obtain⟨b,base⟩:=L;rw[hm]at q2;obtain⟨o,r1,M⟩:=q2;have u:b<w.heap.size:=(afN.1 r1).1;exact⟨o,(a.blocks b u).trans r1,M.mono (λi y pv v hi hy N=>N.fr A hc.ok (λU V W X Y he R I=>a.blocks R (hc.ok.lt R (.inr ⟨j,i,y,_,_,_,_,_,_,_,_,_,_,h1,hi,he▸hy,I⟩))))⟩
  ·subst h1;injection h2 with E e2 F G H;subst E e2 F G H;rw[cb];refine⟨hl,?_⟩;cases p with
   | none=>exact hp
   | some L=>
    obtain⟨b,base⟩:=L;obtain⟨_,o,r1,M⟩:=hp;exact⟨o,r1,M.mono (λi y pv v hi hy N=>(N.fr A hc.ok).k (O i y pv hi hy))⟩
 ·refine⟨λb B C=>?_,λb B=>?_,λb C=>agc (hc.ok.slt b C) a.size,?_,hc.ok.AS A,λb Z j x y d=>?_,λb j x y j' x' y' d wx=>hc.ok.hh b _ _ _ _ _ _ (z j x y b d) (z j' x' y' b wx)⟩;rotate_right
  ·have d:=z j x y b d;obtain⟨k,gk,WA,nk,ek,fk,J7,hk,hm⟩:=Z;rcases t k _ hk with⟨h1,h2⟩ | ⟨h1,h2⟩
   ·rw[dk μ _ h2]at hm;exact hc.ok.hv b ⟨k,gk,WA,nk,ek,fk,J7,h1,hm⟩ _ _ _ d
   ·subst h1;rw[cb]at hm;subst hm;have:=hc.ok.lt b (.inr ⟨_,_,_,d⟩);have:=hp.1;omega
  ·rcases A.own b B with h1 | h1
   ·exact hc.ok.apart b h1 C
   ·have:=hc.ok.slt b C;omega
  ·rcases B with⟨j,g,l,m,r,s,K,hj,hm⟩ | ⟨j,x,y,d⟩;rotate_left
   ·exact agc (hc.ok.lt b (.inr ⟨_,_,_,z j x y b d⟩)) a.size
   rcases t j _ hj with⟨h1,h2⟩ | ⟨h1,h2⟩
   ·rw[dk μ _ h2]at hm;exact agc (hc.ok.lt b (.inl ⟨j,g,l,m,r,s,K,h1,hm⟩)) a.size
   ·subst h1;rw[cb]at hm;subst hm;obtain⟨_,o,r1,_⟩:=hp;exact(afN.1 r1).1
  ·intro i j gi Pg ni ei fi g l m r s b o o' hi hj qe oP;rcases t i _ hi with⟨h1,h2⟩ | ⟨h1,h2⟩
   ·rw[dk μ _ h2]at qe;rcases t j _ hj with⟨h3,h4⟩ | ⟨h3,h4⟩
    ·rw[dk μ _ h4]at oP;exact hc.ok.inj i j _ _ _ _ _ _ _ _ _ _ _ _ _ h1 h3 qe oP
    ·subst h3;rw[cb]at oP;subst oP;have:=hc.ok.lt _ (.inl ⟨i,gi,Pg,ni,ei,fi,o,h1,qe⟩);have:=hp.1;omega
   ·subst h1;rw[cb]at qe;rcases t j _ hj with⟨h3,h4⟩ | ⟨h3,h4⟩
    ·rw[dk μ _ h4]at oP;subst qe;have:=hc.ok.lt _ (.inl ⟨j,g,l,m,r,s,o',h3,oP⟩);have:=hp.1;omega
    ·exact h3.symm
theorem tn (hc:Core μ h S w) (sz n:Nat) (e:TypeId) (f:Nat->List PV) (p:Option (Nat×Nat))
  (hp:match p with
   | none=>n=0
   | some (b,base)=>w.heap.size<=b/\∃cur:Array Value,w1.heap[b]? =some (.cells cur e (0,0))/\base+n*sz<=cur.size/\
    ∀(i j:Nat) (pv:PV),i<n->(f i)[j]? =some pv->∃v:Value,cur[base+i*sz+j]? =some v/\cD μ h S w pv v)
  (a:da w w1) (hl:∀i,i<n->(f i).length=sz) (c:∀(i j:Nat) (pv:PV),i<n->(f i)[j]? =some pv->dM pv=false):
  Fr μ h S w (qm μ h.length p) (h++[.row 0 sz n e f]) S w1/\Core (qm μ h.length p) (h++[.row 0 sz n e f]) S w1:=by
 refine Gb hc sz n e f p ?_ a hl c;cases p with
 | none=>exact hp
 | some q=>exact⟨hp.1,cW.Dv hp.2⟩
theorem lD.HK {b k:Nat} (h:lD w b k):¬uE w b:=by
 rintro⟨es,c,q⟩;obtain⟨cur,e,z,h1,_⟩:=h;rw[h1]at q;cases q
end
theorem oN.refl:∀(l:List PV),oN l l
 | []=>trivial
 | a::l=>⟨.same a,oN.refl l⟩
theorem oN.len:∀{l r:List PV},oN l r->r.length=l.length
 | [],[],_=>rfl
 | a::l,b::r,h=>by simp [oN.len h.2]
 | [],_::_,h=>h.elim
 | _::_,[],h=>h.elim
theorem oN.get:∀{l r:List PV},oN l r->∀{j:Nat} {b:PV},r[j]? =some b->∃a,l[j]? =some a/\Qq a b
 | [],[],_,j,b,hj=>by simp at hj
 | a::l,c::r,h,0,b,hj=>by simp at hj;subst hj;exact⟨a,rfl,h.1⟩
 | a::l,c::r,h,j+1,b,hj=>by
  obtain⟨x,q1,q2⟩:=oN.get h.2 (j:=j) ajy;exact⟨x,by simpa using q1,q2⟩
 | [],_::_,h,_,_,_=>h.elim
 | _::_,[],h,_,_,_=>h.elim
theorem oN.abL:∀{l r:List PV},oN l r->∀{j:Nat} {a:PV},l[j]? =some a->∃b,r[j]? =some b/\Qq a b
 | [],[],_,j,b,hj=>by simp at hj
 | a::l,c::r,h,0,b,hj=>by simp at hj;subst hj;exact⟨c,rfl,h.1⟩
 | a::l,c::r,h,j+1,b,hj=>by
  obtain⟨x,q1,q2⟩:=oN.abL h.2 (j:=j) ajy;exact⟨x,by simpa using q1,q2⟩
 | [],_::_,h,_,_,_=>h.elim
 | _::_,[],h,_,_,_=>h.elim
theorem Qq.YJ {a b:PV} (h:Qq a b) {μ:Mu} {l:List ar} {S:Nat->Prop} {w:World} {v:Value} (c:cD μ l S w a v):cD μ l S w b v:=by
 cases h with
 | same=>exact c
 | nil sz f=>
  have c:bz S w .au v:=c;cases c;exact bz.tM _ _ _ _
 | pK sz e f=>exact cD.one c
def OEq:ar->ar->Prop
 | .row g sz n e f,.row a b c d h=>g=a/\sz=b/\n=c/\e=d/\∀i,i<n->oN (f i) (h i)
 | .dead,.dead=>True
 | _,_=>False
def eA:List ar->List ar->Prop
 | [],[]=>True
 | o::l,a::b=>OEq o a/\eA l b
 | _,_=>False
theorem eA.len:∀{l a:List ar},eA l a->l.length=a.length
 | [],[],_=>rfl
 | o::l,b::a,h=>by simp [eA.len h.2]
 | [],_::_,h=>h.elim
 | _::_,[],h=>h.elim
theorem eA.get:∀{l b:List ar},eA l b->∀{j:Nat} {g sz n:Nat} {e:TypeId} {f:Nat->List PV},l[j]? =some (ar.row g sz n e f)->∃a,b[j]? =some (ar.row g sz n e a)/\∀i,i<n->oN (f i) (a i)
 | o::l,c::b,h,0,g,sz,n,e,f,hj=>by
  simp at hj;subst hj;cases c with
  | dead=>exact h.1.elim
  | row d k m p a=>
   obtain⟨rfl,rfl,rfl,rfl,hf⟩:=h.1;exact⟨a,rfl,hf⟩
 | o::l,c::b,h,j+1,g,sz,n,e,f,hj=>by
  simp at hj;obtain⟨a,h1,h2⟩:=eA.get h.2 hj;exact⟨a,by simpa using h1,h2⟩
 | [],[],_,_,_,_,_,_,_,hj=>by simp at hj
 | [],_::_,h,_,_,_,_,_,_,_=>h.elim
 | _::_,[],h,_,_,_,_,_,_,_=>h.elim
theorem eA.Ph:∀{l a:List ar},eA l a->∀{j:Nat} {g sz n:Nat} {e:TypeId} {b:Nat->List PV},a[j]? =some (ar.row g sz n e b)->∃f,l[j]? =some (ar.row g sz n e f)/\∀i,i<n->oN (f i) (b i)
 | o::l,c::a,h,0,g,sz,n,e,b,hj=>by
  simp at hj;subst hj;cases o with
  | dead=>exact h.1.elim
  | row d k m p f=>
   obtain⟨rfl,rfl,rfl,rfl,hf⟩:=h.1;exact⟨f,rfl,hf⟩
 | o::l,c::a,h,j+1,g,sz,n,e,b,hj=>by
  simp at hj;obtain⟨f,h1,h2⟩:=eA.Ph h.2 hj;exact⟨f,by simpa using h1,h2⟩
 | [],[],_,_,_,_,_,_,_,hj=>by simp at hj
 | [],_::_,h,_,_,_,_,_,_,_=>h.elim
 | _::_,[],h,_,_,_,_,_,_,_=>h.elim
theorem eA.getD:∀{l a:List ar},eA l a->∀{j:Nat},l[j]? =some ar.dead->a[j]? =some ar.dead
 | o::l,b::a,h,0,hj=>by
  simp at hj;subst hj;cases b with
  | dead=>rfl
  | row c d e f g=>exact h.1.elim
 | o::l,b::a,h,j+1,hj=>by
  simp at hj;simpa using eA.getD h.2 hj
 | [],[],_,_,hj=>by simp at hj
 | [],_::_,h,_,_=>h.elim
 | _::_,[],h,_,_=>h.elim
theorem eA.Uz {l c:List ar} (h:eA l c) {id i j b:Nat} (d:dD c id i j b):dD l id i j b:=by
 obtain⟨g,sz,n,e,o,p,q,r,f2,s,q1,q2,q3,q4⟩:=d;obtain⟨f,r1,k⟩:=h.Ph q1;obtain⟨a,m,hle⟩:=(k i q2).get q3;cases hle with
 | same=>exact⟨_,_,_,_,_,_,_,_,_,_,r1,q2,m,q4⟩
 | pK=>exact q4.elim
theorem eA.abM {l a:List ar} (h:eA l a) {μ:Mu} {b:Nat} (c:Dw μ a b):Dw μ l b:=by
 obtain⟨id,g,sz,n,e,f,base,h1,h2⟩:=c;obtain⟨d,h3,_⟩:=h.Ph h1;exact⟨id,g,sz,n,e,d,base,h3,h2⟩
theorem eA.AU {l c:List ar} (h:eA l c) {μ:Mu} {b:Nat} (a:dc μ c b):dc μ l b:=by
 rcases a with a | ⟨id,i,j,a⟩
 ·exact .inl (h.abM a)
 ·exact .inr ⟨id,i,j,h.Uz a⟩
theorem eA.hid {l a:List ar} (h:eA l a) {id i j b:Nat} (d:dD l id i j b):dD a id i j b:=by
 obtain⟨g,sz,n,e,f,m,o,p,f2,q,q1,q2,q3,q4⟩:=d;obtain⟨r,r1,k⟩:=h.get q1;obtain⟨c,hc,hle⟩:=(k i q2).abL q3;cases hle;exact⟨_,_,_,_,_,_,_,_,_,_,r1,q2,hc,q4⟩
theorem eA.owned {l c:List ar} (h:eA l c) {μ:Mu} {b:Nat} (a:dc μ l b):dc μ c b:=by
 rcases a with⟨id,g,sz,n,e,f,base,h1,h2⟩ | ⟨x,y,z,a⟩
 ·obtain⟨d,h3,_⟩:=h.get h1;exact .inl ⟨id,g,sz,n,e,d,base,h3,h2⟩
 ·exact .inr ⟨_,_,_,h.hid a⟩
theorem eA.own {l c:List ar} (h:eA l c) {μ:Mu} {w:World} {id gen off len:Nat} {v:Value} (a:cf μ l w id gen off len v):cf μ c w id gen off len v:=by
 unfold cf at*;refine⟨a.1,?_⟩;have a:=a.2;cases b:l[id]? with
 | none=>rw[b]at a;exact a.elim
 | some o=>
  cases o with
  | dead=>rw[h.getD b];trivial
  | row g sz n e f=>
   obtain⟨d,h1,_⟩:=h.get b;rw[b]at a;rw[h1];exact a
theorem eA.bE {l c:List ar} (h:eA l c) {μ:Mu} {id gen i off:Nat} {v:Value} {w:World} (a:cE μ l w id gen i off v):cE μ c w id gen i off v:=by
 unfold cE at*;refine⟨a.1,?_⟩;have a:=a.2;cases b:l[id]? with
 | none=>rw[b]at a;exact a.elim
 | some o=>
  cases o with
  | dead=>rw[h.getD b];trivial
  | row g sz n e f=>
   obtain⟨d,h1,_⟩:=h.get b;rw[b]at a;rw[h1];exact a
theorem Qq.UA {a b:PV} (h:Qq a b) (c:lC a=true):b=a:=by
 cases h with
 | same=>rfl
 | _=>cases c
theorem oN.UA {d e:PV} {l:List PV} (h:oN [d,e] l) (h1:lC d=true) (h2:lC e=true):l=[d,e]:=by
 rcases l with _ | ⟨a,_ | ⟨b,_ | ⟨c,l⟩⟩⟩
 ·exact h.elim
 ·exact h.2.elim
 ·rw[h.1.UA h1,h.2.1.UA h2]
 ·exact h.2.2.elim
theorem eA.ql {l c:List ar} (h:eA l c) {μ:Mu} {w:World} {id:Nat} {v:Value} (a:gy μ l w id v):gy μ c w id v:=by
 unfold gy at*;refine⟨a.1,?_⟩;have a:=a.2;cases b:l[id]? with
 | none=>rw[b]at a;exact a.elim
 | some o=>
  cases o with
  | dead=>rw[h.getD b];trivial
  | row g sz n e f=>
   obtain⟨d,h1,_⟩:=h.get b;rw[b]at a;rw[h1];exact a
theorem eA.uP {l a:List ar} (h:eA l a) {μ:Mu} {w:World} {f:Nat} {df:List (Nat×Nat)} {v:Value} (b:tq μ l w f df v):tq μ a w f df v:=wy.mono b (λid g u hu=>h.bE hu)
theorem eA.YJ {l b:List ar} (h:eA l b) {μ:Mu} {S:Nat->Prop} {w:World} {pv:PV} {v:Value} (a:cD μ l S w pv v):cD μ b S w pv v:=by
 cases pv with
 | own id gen off len=>exact h.own a
 | bE id gen i off=>exact h.bE a
 | ql id=>exact h.ql a
 | uP f df=>exact h.uP a
 | _=>exact a
theorem eA.YK {l a:List ar} (h:eA l a) {μ:Mu} {S:Nat->Prop} {w:World} {pv:PV} {v:Value} (b:rH μ l S w pv v):rH μ a S w pv v:=by
 cases pv with
 | aV sz n e f F=>exact b
 | _=>exact cD.k (h.YJ (rH.c b)) rfl
theorem Qq.YK {a b:PV} (h:Qq a b) {μ:Mu} {l:List ar} {S:Nat->Prop} {w:World} {v:Value} (c:rH μ l S w a v):rH μ l S w b v:=by
 cases h with
 | same=>exact c
 | nil sz f=>
  have c:bz S w .au v:=c;cases c;exact bz.tM _ _ _ _
 | pK sz e f=>
  have c:bz S w .au v:=c;cases c;exact oz.nil _ _ _ _ (λ_ h=>h)
theorem eA.Pf {l b:List ar} (h:eA l b) {μ:Mu} {S:Nat->Prop} {w:World} {pv:PV} {v:Value} (a:jG μ l S w pv v):jG μ b S w pv v:=by
 cases pv with
 | own id gen off len=>exact h.own a
 | bE id gen i off=>exact h.bE a
 | ql id=>exact h.ql a
 | uP f df=>exact h.uP a
 | agg cs=>
  obtain⟨vs,h1,h2,h3⟩:=a;exact⟨vs,h1,h2,λj pv hj=>by obtain⟨u,hu,hc⟩:=h3 j pv hj;exact⟨u,hu,h.YJ hc⟩⟩
 | _=>exact a
theorem eA.refl:∀(l:List ar),eA l l
 | []=>trivial
 | .row g sz n e f::l=>⟨⟨rfl,rfl,rfl,rfl,λ_ _=>oN.refl _⟩,eA.refl l⟩
 | .dead::l=>⟨trivial,eA.refl l⟩
theorem eA.set:∀(l:List ar) (id g sz n:Nat) (e:TypeId) (f a:Nat->List PV),(∀i,i<n->oN (f i) (a i))->eA (l.set id (.row g sz n e f)) (l.set id (.row g sz n e a))
 | [],_,_,_,_,_,_,_,_=>trivial
 | o::l,0,g,sz,n,e,f,a,hf=>⟨⟨rfl,rfl,rfl,rfl,hf⟩,eA.refl l⟩
 | o::l,id+1,g,sz,n,e,f,a,hf=>⟨by cases o;exact⟨rfl,rfl,rfl,rfl,λ_ _=>oN.refl _⟩;exact trivial,eA.set l id g sz n e f a hf⟩
theorem eA.snoc:∀(l:List ar) (g sz n:Nat) (e:TypeId) (f a:Nat->List PV),(∀i,i<n->oN (f i) (a i))->eA (l++[.row g sz n e f]) (l++[.row g sz n e a])
 | [],g,sz,n,e,f,a,hf=>⟨⟨rfl,rfl,rfl,rfl,hf⟩,trivial⟩
 | o::l,g,sz,n,e,f,a,hf=>⟨by cases o;exact⟨rfl,rfl,rfl,rfl,λ_ _=>oN.refl _⟩;exact trivial,eA.snoc l g sz n e f a hf⟩
theorem eA.aek {l b:List ar} (h:eA l b) {μ:Mu} {S:Nat->Prop} {w:World} {pv:PV} {v:Value} (a:cw μ l S w pv v):cw μ b S w pv v:=by
 cases pv with
 | hJ c=>
  obtain⟨vs,h1,h2,h3⟩:=a;exact⟨vs,h1,h2,λj pv hj=>by obtain⟨u,hu,hc⟩:=h3 j pv hj;exact⟨u,hu,h.Pf hc⟩⟩
 | own id gen off len=>exact h.own a
 | bE id gen i off=>exact h.bE a
 | ql id=>exact h.ql a
 | uP f df=>exact h.uP a
 | agg cs=>exact h.Pf (pv:=.agg cs) a
 | _=>exact a
theorem eA.core {l m:List ar} (he:eA l m) {μ:Mu} {S:Nat->Prop} {w:World} (hc:Core μ l S w):Core μ m S w:=by
 refine⟨λid g sz n e f hid=>?_,⟨λb hb=>hc.ok.apart b (he.AU hb),λb hb=>hc.ok.lt b (he.AU hb),hc.ok.slt,λi j g sz n e f u x y q r b o A hi hj h1 h3=>?_,hc.ok.known,λb hb id i j h=>hc.ok.hv b (he.abM hb) id i j (he.Uz h),λb _ _ _ _ _ _ h hy=>hc.ok.hh b _ _ _ _ _ _ (he.Uz h) (he.Uz hy)⟩⟩
 ·obtain⟨r,h1,h3⟩:=he.Ph hid;obtain⟨q1,q2⟩:=hc.heap id g sz n e r h1;refine⟨λi hi=>by rw[(h3 i hi).len];exact q1 i hi,?_⟩;cases hm:μ id with
  | none=>rw[hm]at q2;exact q2
  | some p=>
   obtain⟨b,base⟩:=p;rw[hm]at q2;obtain⟨o,r1,d⟩:=q2;refine⟨o,r1,?_⟩;cases o with
   | cells cur q z=>
    obtain⟨d,k,B,C⟩:=d;refine⟨d,k,B,λi j pv hi hj=>?_⟩;obtain⟨a,D,hle⟩:=(h3 i hi).get hj;obtain⟨v,hv,E⟩:=C i j a hi D;exact⟨v,hv,he.YK (hle.YK E)⟩
   | map es c=>
    obtain⟨d,k⟩:=d;refine⟨d,λi hi=>?_⟩;obtain⟨F,G,en,s1,s,t,H⟩:=k i hi;have hle:=h3 i hi;rw[s1]at hle;exact⟨F,G,en,hle.UA s t,s,t,H⟩
   | _=>exact d.elim
 ·obtain⟨I,q1,_⟩:=he.Ph hi;obtain⟨J,q2,_⟩:=he.Ph hj;exact hc.ok.inj i j g sz n e I u x y q J b o A q1 q2 h1 h3
theorem eA.fr {l h:List ar} (he:eA l h) {μ0 μ:Mu} {h0:List ar} {S0 S:Nat->Prop} {i w:World} (a:Fr μ0 h0 S0 i μ l S w):Fr μ0 h0 S0 i μ h S w:=by
 refine⟨by rw[<-he.len];exact a.len,a.blocks,a.sub,a.new,λb hb=>a.own b (he.AU hb),a.size,a.os,a.tape,a.output,λid g sz n e f hid=>?_,λid hid=>he.getD (a.dead id hid),a.df,λid g sz n e f b base hj hm j=>?_,a.yg⟩;rotate_left
 ·obtain⟨r1,c⟩:=a.maps id g sz n e f b base hj hm j;refine⟨r1,?_⟩;rcases c with c | ⟨⟨k,m,p,q,r,c⟩,s⟩
  ·exact .inl (he.getD c)
  ·obtain⟨f2,h1,_⟩:=he.get c;exact .inr ⟨⟨_,_,_,_,_,h1⟩,s⟩
 have hg:=a.Dx id g sz n e f hid;cases d:l[id]? with
 | none=>rw[d]at hg;exact hg.elim
 | some o=>
  cases o with
  | dead=>rw[he.getD d];trivial
  | row k m p q r=>
   obtain⟨f2,h1,_⟩:=he.get d;rw[d]at hg;rw[h1];exact hg
section
variable {P:Program}{T:sI}{μ:Mu}{h:List ar}{S:Nat->Prop}{w:World}
def gz (P:Program) (o:Oper) (a:Act) (μ:Mu) (h:List ar) (S:Nat->Prop) (w:World) (K:PV->List ar->Prop):Prop:=
 ∀(next:Act->World->Prop) (Q:Exit->Act->World->Prop),
  (∀v val h' μ' S' w',K v h'->cw μ' h' S' w' v val->Core μ' h' S' w'->Fr μ h S w μ' h' S' w'->next (a.put o.dst val) w')->o.wp P a w next Q
theorem gz.rows {o:Oper} {a:Act} {K:PV->List ar->Prop} (b:gz P o a μ h S w (λv h1=>∃h2,eA h1 h2/\K v h2)):gz P o a μ h S w K:=by
 intro next Q c
 refine b next Q λv val h' μ' S' w' ⟨h2,he,d⟩ hv hc hf=>?_
 exact c v val h2 μ' S' w' d (he.aek hv) (he.core hc) (he.fr hf)
theorem gz.u6 {o:Oper} {a:Act} {K:PV->List ar->Prop} (hc:Core μ h S w) (hs:dU P o a μ h S w (λv=>K v h)):gz P o a μ h S w K:=by
 obtain⟨v,val,b,hv,c⟩:=hs;intro next Q d
 unfold Oper.wp;rw[c w (da.refl w)];exact d v val h μ S w b hv hc Fr.refl
theorem gz.jr {o:Oper} {a:Act} {K:PV->List ar->Prop} {v:PV} {val:Value} {h':List ar} {μ':Mu} {S':Nat->Prop} {w':World} (b:(execOp a.eval o).run P w=.ok (.value val) w') (c:K v h') (hv:cw μ' h' S' w' v val)
  (hc:Core μ' h' S' w') (hf:Fr μ h S w μ' h' S' w'):gz P o a μ h S w K:=by
 intro next Q d
 unfold Oper.wp;rw[b];exact d v val h' μ' S' w' c hv hc hf
theorem gz.N7 {o:Oper} {a:Act} {K:PV->List ar->Prop} {h':List ar} {μ':Mu} {S':Nat->Prop} {w':World} (b:(execOp a.eval o).run P w=.ok .skip w') (c:K .jI h')
  (hc:Core μ' h' S' w') (hf:Fr μ h S w μ' h' S' w'):gz P o a μ h S w K:=by
 intro next Q d
 unfold Oper.wp;rw[b];exact d .jI undef h' μ' S' w' c trivial hc hf
theorem UB (c:dL P T) {t:Nat} {n:Nat} (a:ng (T.get t)=n) (e:0<n):∃i,P.info? t=some i/\i.size=n:=by
 cases b:T.get t with
 | struct sz fl z=>
  obtain⟨fs,i,_,hi,d,_⟩:=c.struct _ _ _ _ b;rw[b]at a;exact⟨i,hi,d.trans a⟩
 | other=>rw[b]at a;simp [ng]at a;omega
 | _=>
  rw[b]at a;have h1:n=1:=a.symm;subst h1;refine c.one t ?_ ?_
  ·rw[b];rfl
  ·intro sz fl z hh;rw[b]at hh;cases hh
variable {a:Act}{env:Env}{K:PV->List ar->Prop}{dst:Option Tmp}{ty:TypeId}{pos:String}{after:Array Edge}{guard:Option (Nat×Bool)}
theorem yG (cur vs:List Value) (o q:Nat) (hl:o+vs.length<=cur.length):
  (cur.take o++vs++cur.drop (o+vs.length))[q]? =if o<=q/\q<o+vs.length then vs[q - o]? else cur[q]?:=by
 have h1:(cur.take o).length=o:=by simp;omega
 by_cases a:q<o
 ·rw[mg ajo,agC,ago ajo,ahq,an a]
 ·by_cases hb:q<o+vs.length
  ·rw[an ⟨by omega,hb⟩,ago ajs,agh ajo,h1]
  ·rw[mg ajo,agh ajs,agZ];congr 1;simp;omega
theorem J9 (U:dL P T) (hc:Core μ h S w) (F:∀t,cw μ h S w (env t) (a.tmps.getD t undef)) (t:Nat) (m x:Operand) (hp:pop P T (.store t m x) env h K):
  gz P ⟨dst,.store t m x,ty,pos,after,guard⟩ a μ h S w K:=by
 have V:=cM F x;have G:=cM F m;simp only[pop]at hp;split at hp
 ·rename_i id gen i off z;rw[z]at G;split at hp
  ·rename_i g sz n e f hg;obtain⟨rfl,hp⟩:=hp;replace hp:=ck (cG hp);obtain⟨H,A⟩:=hp;simp only[As]at H;obtain⟨⟨⟨I,q⟩,l⟩,hle⟩:=H;have q:=agj q;have l:=afM l;have hle:=agj hle;have hh:=ep hg;have c:=G.wT;unfold cE at c;rw[hh]at c;obtain⟨_,_,c⟩:=c;obtain⟨J,b,base,r,L,B⟩:=c rfl;obtain⟨hl,M⟩:=hc.heap id g sz n e f hh;rw[r]at M;obtain⟨cur,C,xU,N⟩:=cW.cells L.1 M;obtain⟨D,o⟩:=pH I V;have p:∀(j:Nat) (pv:PV),(cellsOf (ev env x))[j]? =some pv->dM pv=false:=λj pv hj=>MC I hj;generalize HH:cellsOf (ev env x)=cs at*;generalize O:(a.eval x).cells.toList=vs at*;have q:0<cs.length:=by omega
   obtain⟨inf,W,X⟩:=UB U l q;have hmul:(i+1)*sz<=n*sz:=agb _ J;rw[aga]at hmul
   have Q:(storeCells ⟨b,base+i*sz+off,none⟩ vs 0).run P w=.ok () (w.setRow b (cur.toList.take (base+i*sz+off+0)++vs++cur.toList.drop (base+i*sz+off+0+vs.length)).toArray):=
    run_storeCells_at P b (base+i*sz+off) e vs 0 cur w C ajo (λv hv=>by
     obtain⟨j,hj,rfl⟩:=agr.1 hv;have Y:j<cs.length:=by omega
     obtain⟨u,hu,c⟩:=o j cs[j] (No Y);rw[No hj]at hu;injection hu with hu;rw[hu];exact c.one)
   rw[agM]at Q
   have s:∀k,(bu f i (dN (f i) off cs) k)=if k=i then dN (f i) off cs else f k:=λk=>by
    unfold bu;by_cases hk:k=i
    ·subst hk;simp
    ·have:Nat.beq k i=false:=by
      cases hb:Nat.beq k i with
      | true=>exact(hk (afM hb)).elim
      | false=>rfl
     simp [this,hk]
   have Z:=Du (w1:=w.setRow b (cur.toList.take (base+i*sz+off)++vs++cur.toList.drop (base+i*sz+off+vs.length)).toArray) hc id g g sz n n e f (bu f i (dN (f i) off cs)) hh b base
    (cur.toList.take (base+i*sz+off)++vs++cur.toList.drop (base+i*sz+off+vs.length)).toArray (abF _) (λ_=>⟨r,rfl⟩)
    (.inr ⟨base,cur,r,C,by simp;omega⟩) (setRow_heap w b cur _ e _ C) ajs
    (λR _ rN=>setRow_other w b R _ rN) ajq rfl rfl rfl
    (λk hk=>by
     rw[s];split
     ·rename_i d;subst d;rw[pG];exact hl _ hk
     ·exact hl k hk)
    (λR rR y=>by rw[r]at y;injection y with y;injection y with h1 _;subst h1;exact L.1.HK)
    (λk j pv hk hj=>by
     have My:j<sz:=by
      have h1:=(An.1 hj).1;rw[s]at h1;split at h1
      ·rw[pG,hl i J]at h1;exact h1
      ·rw[hl k hk]at h1;exact h1
     have UC:(cur.toList.take (base+i*sz+off)++vs++cur.toList.drop (base+i*sz+off+vs.length)).toArray[base+k*sz+j]? =if base+i*sz+off<=base+k*sz+j/\base+k*sz+j<base+i*sz+off+vs.length then vs[base+k*sz+j - (base+i*sz+off)]? else cur[base+k*sz+j]?:=by
      have E:=yG cur.toList vs (base+i*sz+off) (base+k*sz+j) ajs;rw[ahI,E];simp only[agn]
     rw[UC];rw[s]at hj;by_cases d:k=i
     ·subst d;rw[an rfl,tZ cs (f k) off j (by rw[hl k hk];exact hle)]at hj;by_cases c:off<=j/\j<off+cs.length
      ·rw[an c]at hj;rw[an ajo];obtain⟨u,hu,qq⟩:=o _ _ hj;exact⟨u,by rw[<-hu];congr 1;omega,qq.k (p _ _ hj)⟩
      ·rw[mg c]at hj;rw[mg ajo];exact N k j pv hk hj
     ·rw[mg d]at hj
      have MF:¬(base+i*sz+off<=base+k*sz+j/\base+k*sz+j<base+i*sz+off+vs.length):=by
       rcases Nat.lt_or_gt_of_ne d with cy | FV
       ·have:(k+1)*sz<=i*sz:=agb _ cy;rw[aga]at this;omega
       ·have:(i+1)*sz<=k*sz:=agb _ FV;rw[aga]at this;omega
      rw[mg MF];exact N k j pv hk hj) 0 (λk j cA n' e' f' F' hk hj=>by
    rw[so];refine⟨hk,?_⟩;rw[s]at hj;by_cases d:k=i
    ·subst d;rw[an rfl,tZ cs (f k) off j (by rw[hl k hk];exact hle)]at hj;by_cases c:off<=j/\j<off+cs.length
     ·rw[an c]at hj;have:=p _ _ hj;cases this
     ·rw[mg c]at hj;exact hj
    ·rw[mg d]at hj;exact hj)
   obtain⟨kC,uQ⟩:=Z;obtain⟨_,f',rfl,IW,A⟩:=A;refine gz.rows (gz.N7 ?_ ⟨_,eA.set _ _ _ _ _ _ _ _ IW,A⟩ uQ kC);have e1:(execOp a.eval ⟨dst,.store t m x,ty,pos,after,guard⟩)=(do Instr.storeAt t (a.eval m) (a.eval x);pure .skip:Sem Next):=rfl;rw[e1,B]
   have lA:¬(a.eval x).cells.size≠inf.size:=by
    rw[X];simp only[ne_eq,Decidable.not_not];rw[<-D,<-O];simp
   simp only[Instr.storeAt,Instr.sureAddr,storeVar,Sem.run_bind,Sem.run_pure,Result.andThen,n9 W,mg lA,O,Q]
  ·exact aiI
 ·exact aiI
theorem Fh (z:Array Value) (n q:Nat) (a:q<n) (b:0<z.size):(madeCells z n)[q]? =z[q % z.size]?:=by
 have h1:q % z.size<z.size:=Nat.mod_lt _ b;simp [madeCells,a,h1]
theorem UD (i j sz:Nat) (hj:j<sz):(i*sz+j) % sz=j:=by
 rw[Nat.mul_comm,Nat.mul_add_mod];exact Nat.mod_eq_of_lt hj
theorem oK (w:World) (o:Obj):da w (w.alloc o):=
 ⟨λb hb=>Below.heap_alloc w o b hb,by simp,rfl,rfl,rfl⟩
theorem MG (r:dL P T) (hc:Core μ h S w) (g:∀t,cw μ h S w (env t) (a.tmps.getD t undef)) (t:Nat) (l c:Operand) (hp:pop P T (.makeSlice t l c) env h K):
  gz P ⟨dst,.makeSlice t l c,ty,pos,after,guard⟩ a μ h S w K:=by
 have hl:=cM g l;have o:=cM g c;simp only[pop]at hp;split at hp
 ·rename_i e sz bytes zero k n s m u d f;rw[d]at hl;rw[f]at o;obtain⟨⟨h0,h1,h2,h3⟩,_,M,rfl,v,x⟩:=hp;obtain⟨hu,N,inf,zv,y,z,A,B,C,p,q⟩:=r.slice _ _ _ _ _ u;subst z A
  have hm:(inf.bytes:Int)*m<=281474976710656:=by
   have D:(m.toNat:Int)=m:=Int.toNat_of_nonneg ajo;have e2:((m.toNat*inf.bytes:Nat):Int)<=140737488355328:=by omega
   rw[Int.natCast_mul,D,Int.mul_comm]at e2;omega
  have E:=run_make (P:=P) w t e inf zv hu y B k s n m h0 h1 hm ajo
  have F:=tn (w1:=w.alloc (.cells (madeCells zv.cells (m.toNat*inf.size)) e)) hc inf.size n.toNat e (λ_=>zero) (some (w.heap.size,0))
   ⟨abF _,_,heap_alloc_new w _,by
    rw[size_madeCells,so];exact agb _ ajo,λi j pv hi hj=>by
    have G:j<inf.size:=by rw[<-p];exact(An.1 hj).1
    have H:0+i*inf.size+j<m.toNat*inf.size:=by
     have:(i+1)*inf.size<=m.toNat*inf.size:=agb _ ajo;rw[aga]at this;omega
    rw[Fh _ _ _ H ajo,so,C,UD i j _ G];have b:j<zv.cells.size:=by omega
    obtain⟨I,h5,_,h6⟩:=q j zv.cells[j] (agk b);rw[hj]at h5;injection h5 with h5;subst h5;exact⟨_,agk b,cD.my (h6 S w)⟩⟩ (oK w _) (λi hi=>p) (λi j pv _ hj=>by
  have b:j<zv.cells.size:=by have:=(An.1 hj).1;omega
  obtain⟨I,h5,_,h6⟩:=q j zv.cells[j] (agk b);rw[hj]at h5;injection h5 with h5;rw[h5];exact bz.no (h6 S w))
  obtain⟨J,L⟩:=F;refine gz.rows (gz.jr (dz rfl (by rw[hl.mM,o.mM];exact E)) ⟨_,eA.snoc _ _ _ _ _ _ _ v,x⟩ ?_ L J);show cf _ _ _ _ _ _ _ _;unfold cf;rw[agh (abF _),agY];refine⟨⟨_,_,_,rfl⟩,abF _,λ_=>⟨by omega,?_⟩⟩;rw[cb];refine⟨_,m.toNat,rfl,by omega,λ_=>by simp,_,e,_,heap_alloc_new w _,?_⟩;rw[size_madeCells];simp
 ·exact aiI
theorem Ka (sz len:Nat) (place:Nat->Option (Nat×Nat)) (g:∀i,place i=some (i*sz,sz)):∀(l:List (Nat×Operand)) (ρ:Operand->Value) (k:Nat) (cells:Array Value),Bn len k l=true->cells.size=len*sz->
  (∀p∈l,(ρ p.2).cells.size=sz)->
  ∃e,Instr.fill place cells (l.map λp=>(p.1,ρ p.2))=some e/\e.size=len*sz/\(∀q,q<k*sz->e[q]? =cells[q]?)/\
   ∀(i j:Nat) (p:Nat×Operand),l[i]? =some p->j<sz->e[(k+i)*sz+j]? =(ρ p.2).cells[j]?
 | [],ρ,k,cells,hi,hs,_=>⟨cells,rfl,hs,λ_ _=>rfl,λi j p hp=>by simp at hp⟩
 | (c,x)::r,ρ,k,cells,hi,hs,hv=>by
  simp only[Bn,As]at hi;have f:=afM hi.1;subst f
  have hlen:∀(l:List (Nat×Operand)) (k:Nat),Bn len k l=true->k<=len:=by
   intro l;induction l with
   | nil=>intro k h;exact ahY (afM h)
   | cons p l m=>
    intro k h;obtain⟨a,b⟩:=p;simp only[Bn,As]at h;have:=m (k+1) h.2;omega
  have hk:=hlen r (c+1) hi.2;have d:=hv (c,x) ajq;have n:(c+1)*sz<=len*sz:=agb _ hk;have o:=n;rw[aga]at o;obtain⟨s,g2⟩:=we (ρ x) (c*sz) cells (by rw[d];omega);obtain⟨e,h1,h2,h3,h4⟩:=Ka sz len place g r ρ (c+1) _ hi.2 (s.trans hs) (λp hp=>hv p (by simp [hp]));refine⟨e,?_,h2,λq t=>?_,λi j p hp hj=>?_⟩
  ·simp only[afO,Instr.fill,g];rw[mg (by simp only[d,ne_eq,not_true_eq_false,false_or];simp only[ahe,agE,not_or];simp;omega)];exact h1
  ·rw[h3 q (by rw[aga];omega),g2 q,mg ajo]
  ·cases i with
   | zero=>
    simp at hp;subst hp;rw[agM,h3 _ (by rw[aga];omega),g2,d,an ajo];congr 1;omega
   | succ i=>
    simp at hp;have:=h4 i j p hp hj;rw[show c+1+i=c+(i+1)from by omega]at this;exact this
theorem AV (A:dL P T) (hc:Core μ h S w) (B:∀t,cw μ h S w (env t) (a.tmps.getD t undef)) (t len:Nat) (parts:Array (Nat×Operand)) (hp:pop P T (.buildSlice t len parts) env h K):
  gz P ⟨dst,.buildSlice t len parts,ty,pos,after,guard⟩ a μ h S w K:=by
 simp only[pop]at hp;split at hp
 ·rename_i e sz bytes zero C;replace hp:=ck hp;obtain⟨s,c⟩:=hp;obtain⟨hu,V,inf,zv,m,D,W,E,X,Y,Z⟩:=A.slice _ _ _ _ _ C;subst D;simp only[As]at s;obtain⟨v,hle⟩:=s;have hle:=agj hle;obtain⟨z,c⟩:=Bo _ _ c;simp only[ahU,agD]at c
  have n:∀p∈parts.toList,(a.eval p.2).cells.size=inf.size/\(cellsOf (ev env p.2)).length=inf.size/\
    ∀(j:Nat) (q:PV),(cellsOf (ev env p.2))[j]? =some q->∃u,(a.eval p.2).cells[j]? =some u/\cD μ h S w q u:=λp hp=>by
   obtain⟨h1,h2⟩:=z p hp;have h2:=afM h2;obtain⟨h3,h4⟩:=pH h1 (cM B p.2);simp only[agL,agn]at h3 h4;exact⟨h3.trans h2,h2,h4⟩
  obtain⟨f,F,f2,_,G⟩:=Ka inf.size len (λi=>some (i*inf.size,inf.size)) (λ_=>rfl) parts.toList a.eval 0
   ((Array.range (len*inf.size)).map (λq=>(if len*inf.size=0 then #[]else zv.cells)[q % (if len*inf.size=0 then #[]else zv.cells).size]!)) v ajq (λp hp=>(n p hp).1)
  have hlen:parts.toList.length=len:=by
   have key:∀(l:List (Nat×Operand)) (k:Nat),Bn len k l=true->k+l.length=len:=by
    intro l;induction l with
    | nil=>intro k hh;exact afM hh
    | cons p l H=>
     intro k hh;obtain⟨x,y⟩:=p;simp only[Bn,As]at hh;have:=H (k+1) hh.2;simp only[age];omega
   have:=key parts.toList 0 v;omega
  have dx:∀i,i<len->∃p,parts.toList[i]? =some p/\p∈parts.toList/\(parts.toList.map λp=>cellsOf (ev env p.2)).getD i []=cellsOf (ev env p.2):=λi hi=>by
   have o:i<parts.toList.length:=by omega
   refine⟨parts.toList[i],No o,afQ o,?_⟩;rw[afP,agd,No o];rfl
  have I:=tn (w1:=w.alloc (.cells f e)) hc inf.size len e (λk=>(parts.toList.map λp=>cellsOf (ev env p.2)).getD k []) (some (w.heap.size,0))
   ⟨abF _,f,heap_alloc_new w _,by omega,λi j pv hi hj=>by
    obtain⟨p,r,d,b⟩:=dx i hi;rw[b]at hj;obtain⟨_,q2,q3⟩:=n p d;have J:j<inf.size:=by rw[<-q2];exact(An.1 hj).1
    have:=G i j p r J;rw[so]at this;obtain⟨u,L,M⟩:=q3 j pv hj;exact⟨u,by rw[<-L,<-this,so],M⟩⟩ (oK w _)
   (λi hi=>by
    obtain⟨p,r,d,b⟩:=dx i hi;rw[b];exact(n p d).2.1) (λi j pv hi hj=>by
    obtain⟨p,r,d,b⟩:=dx i hi;rw[b]at hj;exact MC (z p d).1 hj)
  obtain⟨N,O⟩:=I;obtain⟨f',Q,c⟩:=c;refine gz.rows (gz.jr (val:=.slice (some ⟨w.heap.size,0,none⟩) len len) (dz rfl ?_) ⟨_,eA.snoc _ _ _ _ _ _ _ Q,c⟩ ?_ O N)
  ·have R:(parts.map λp=>(p.1,a.eval p.2)).toList=parts.toList.map λp=>(p.1,a.eval p.2):=by simp
   have U:¬(16777216<len*inf.size):=by omega
   have g:Instr.fill (λi=>some (i*inf.size,inf.size)) (Array.map (λx=>(if len*inf.size=0 then #[]else zv.cells)[x % (if len*inf.size=0 then #[]else zv.cells).size]!) (Array.range (len*inf.size))) (parts.map λp=>(p.1,a.eval p.2)).toList=some f:=by
    rw[R];exact F
   by_cases h0:len*inf.size=0
   ·simp [h0]at g;simp only[Instr.buildSlice,Sem.run_bind,run_underlying hu,Result.andThen,n9 m];simp [h0,newRow];rw[g];rfl
   ·simp [h0]at g;simp only[Instr.buildSlice,Sem.run_bind,run_underlying hu,Result.andThen,n9 m];simp [h0,U,newRow,zeroValue,typeInfo,m,E];rw[g];rfl
  ·show cf _ _ _ _ _ _ _ _;unfold cf;rw[agh (abF _),agY];refine⟨⟨_,_,_,rfl⟩,abF _,λ_=>⟨by omega,?_⟩⟩;rw[cb];exact⟨_,len,rfl,abF _,λ_=>by simp,f,e,_,heap_alloc_new w _,by rw[so,so];omega⟩
 ·exact aiI
theorem Pj (hc:Core μ h S w) (d:∀t,cw μ h S w (env t) (a.tmps.getD t undef)) (t:Nat) (x:Operand) (hp:pop P T (.box t x) env h K):
  gz P ⟨dst,.box t x,ty,pos,after,guard⟩ a μ h S w K:=by
 simp only[pop]at hp;replace hp:=ck (cG hp);obtain⟨b,e⟩:=hp;simp only[As]at b;obtain⟨c,hlen⟩:=b;have hlen:=afM hlen;obtain⟨h3,h4⟩:=pH c (cM d x);simp only[agL,agn]at h3 h4
 have f:=tn (w1:=w.alloc (.cells (a.eval x).cells t)) hc (ng (T.get t)) 1 t (λ_=>cellsOf (ev env x)) (some (w.heap.size,0))
  ⟨abF _,_,heap_alloc_new w _,by omega,λi j pv hi hj=>by
   obtain⟨u,hu,g⟩:=h4 j pv hj;have:i=0:=by omega
   subst this;exact⟨u,by rw[<-hu];congr 1;omega,g⟩⟩ (oK w _) (λi hi=>hlen) (λi j pv _ hj=>MC c hj)
 obtain⟨k,l⟩:=f;refine gz.jr (val:=.pointer (some ⟨w.heap.size,0,none⟩)) (dz rfl ?_) e ?_ l k
 ·simp [Instr.box,newVar,newRow]
 ·show cE _ _ _ _ _ _ _ _;unfold cE;rw[agh (abF _),agY];refine⟨⟨_,rfl⟩,abF _,λ_=>⟨by omega,w.heap.size,0,cb _ _ _,⟨⟨_,_,_,heap_alloc_new w _,agt _⟩,λ_=>rfl⟩,?_⟩⟩;simp
theorem Kb (d:dL P T) (hc:Core μ h S w) (t:Nat) (hp:pop P T (.alloc t) env h K):
  gz P ⟨dst,.alloc t,ty,pos,after,guard⟩ a μ h S w K:=by
 simp only[pop]at hp;split at hp
 ·rename_i z e;obtain⟨i,zv,hi,f,o,g,c⟩:=d.zero t z e;generalize p:ng (T.get t)=sz at*
  have k:=tn (w1:=w.alloc (.cells zv.cells t)) hc sz 1 t (λ_=>z) (some (w.heap.size,0))
   ⟨abF _,_,heap_alloc_new w _,by omega,λi j pv hi hj=>by
    have b:j<zv.cells.size:=by
     have:=(An.1 hj).1;omega
    obtain⟨l,h5,_,h6⟩:=c j zv.cells[j] (agk b);rw[hj]at h5;injection h5 with h5;subst h5;have:i=0:=by omega
    subst this;exact⟨_,by rw[<-agk b];congr 1;omega,cD.my (h6 S w)⟩⟩ (oK w _) (λi hi=>g) (λi j pv _ hj=>by
  have b:j<zv.cells.size:=by have:=(An.1 hj).1;omega
  obtain⟨l,h5,_,h6⟩:=c j zv.cells[j] (agk b);rw[hj]at h5;injection h5 with h5;rw[h5];exact bz.no (h6 S w))
  obtain⟨m,n⟩:=k;refine gz.jr (val:=.pointer (some ⟨w.heap.size,0,none⟩)) (dz rfl ?_) hp ?_ n m
  ·simp [Instr.alloc,zeroValue,typeInfo,hi,f,newVar,newRow]
  ·show cE _ _ _ _ _ _ _ _;unfold cE;rw[agh (abF _),agY];refine⟨⟨_,rfl⟩,abF _,λ_=>⟨by omega,w.heap.size,0,cb _ _ _,⟨⟨_,_,_,heap_alloc_new w _,agt _⟩,λ_=>rfl⟩,?_⟩⟩;simp
 ·exact aiI
end
end Go.Am
