/- Texts of the proof, joined and shortened. -/
import Derived.Test.YtiigfbapjeefbaaGreatDoorPk0
import Derived.WalkLawsBesides
set_option linter.unusedVariables false
set_option linter.unusedSimpArgs false
namespace Go.Am
open Go Go.RowKit
def Fy:TypeDesc->Bool
 | .struct _=>true
 | .array _ _=>true
 | _=>false
def qp (P:Program):Nat->List Field->List PV->Bool
 | _,[],[]=>true
 | n,f::r,.int k _::z=>f.name != "_" &&Nat.beq f.offset n&&(match P.underlying f.type with | some (.int k')=>vG k k' | _=>false)&&qp P (n+1) r z
 | n,f::r,.bool _::z=>f.name != "_" &&Nat.beq f.offset n&&(match P.underlying f.type with | some .bool=>true | _=>false)&&qp P (n+1) r z
 | n,f::r,.str _::z=>f.name != "_" &&Nat.beq f.offset n&&(match P.underlying f.type with | some .string=>true | _=>false)&&qp P (n+1) r z
 | _,_,_=>false
def O5 (P:Program) (t:Nat) (z:List PV):Bool:=match P.underlying t with
 | some (.struct fs)=>!(P.stoodInHeld t)&&!(P.eqGuardType P.depth t)&&qp P 0 fs.toList z
 | _=>false
structure fe (P:Program) (T:qq):Prop where
 flat:∀t sz fl z,T.get t=.struct sz fl z->Dr z=true->O5 P t z=true
 int:∀t k,T.get t=.int k->P.underlying t=some (.int k)
 bool:∀t,T.get t=.bool->P.underlying t=some .bool
 str:∀t,T.get t=.str->P.underlying t=some .string
 ptr:∀t e,T.get t=.ptr e->P.underlying t=some (.pointer e)
 slice:∀t e sz by' z,T.get t=.slice e sz by' z->P.underlying t=some (.slice e)/\0<sz/\∃i zv,P.info? e=some i/\i.size=sz/\i.bytes=by'/\i.zero=some zv/\zv.cells.size=sz/\z.length=sz/\
  ∀(j:Nat) (u:Value),zv.cells[j]? =some u->∃pv:PV,z[j]? =some pv/\u.oneCell'=true/\∀S w,ba S w pv u
 map:∀t k e z,T.get t=.map k e z->P.underlying t=some (.map k e)/\∃i zv,P.info? e=some i/\i.zero=some zv/\FA z zv/\qs z=true/\storable z=true
 bytes:∀t e sz by' z,T.get t=.slice e sz by' z->0<by'
 one:∀t,lI (T.get t)=1->(∀sz fl z,T.get t≠.struct sz fl z)->∃i,P.info? t=some i/\i.size=1
 zero:∀t z,Ds (T.get t)=some z->∃i zv,P.info? t=some i/\i.zero=some zv/\zv.cells.size=lI (T.get t)/\z.length=lI (T.get t)/\
  ∀(j:Nat) (u:Value),zv.cells[j]? =some u->∃pv:PV,z[j]? =some pv/\u.oneCell'=true/\∀S w,ba S w pv u
 struct:∀t sz fl z,T.get t=.struct sz fl z->∃fs i,P.underlying t=some (.struct fs)/\P.info? t=some i/\i.size=sz/\fl.length=fs.size/\
  (∃zv,i.zero=some zv/\zv.cells.size=sz/\z.length=sz/\∀(j:Nat) (u:Value),zv.cells[j]? =some u->∃pv:PV,z[j]? =some pv/\u.oneCell'=true/\∀S w,ba S w pv u)/\
  ∀(k:Nat) (off size:Nat) (ag:Bool),fl[k]? =some (off,size,ag)->∃f j d,fs[k]? =some f/\f.offset=off/\P.info? f.type=some j/\j.size=size/\0<size/\
   P.underlying f.type=some d/\ag=Fy d
section
variable {P:Program} {T:qq} {μ:Mu} {h:List al} {S:Nat->Prop} {w:World}
theorem cj.mh {k:IntKind} {n:Int} {v:Value} (hv:cj μ h S w (.int k n) v):v=.int k n:=by
 have hv:ba S w (.int k n) v:=hv
 cases hv;rfl
theorem cj.ns {b:Bool} {v:Value} (hv:cj μ h S w (.bool b) v):v=.bool b:=by
 have hv:ba S w (.bool b) v:=hv
 cases hv;rfl
theorem cj.oF {s:List UInt8} {v:Value} (hv:cj μ h S w (.str s) v):v=.string ⟨⟨s⟩⟩:=by
 have hv:ba S w (.str s) v:=hv
 cases hv;rfl
theorem cj.qt {v:Value} (hv:cj μ h S w .ck v):v=.slice none 0 0:=by
 have hv:ba S w .ck v:=hv
 cases hv;rfl
theorem cj.aa2 {f:Nat} {v:Value} (hv:cj μ h S w (.fn f) v):v=.func (.func f) #[] #[]:=by
 have hv:ba S w (.fn f) v:=hv
 cases hv;rfl
theorem cj.wC {sz n:Nat} {f:Nat->List PV} {v:Value} (hv:cj μ h S w (.ij sz n f) v):
  (∃a c,v=.slice a n c/\n=0)\/∃(b off c:Nat) (vf:Nat->Nat->Value),v=.slice (some ⟨b,off,none⟩) n c/\S b/\(∀i,i<n->(f i).length=sz)/\n<=c/\
   (∀(i j:Nat) (pv:PV),i<n->(f i)[j]? =some pv->w.cell? ⟨b,off+i*sz+j,none⟩=some (vf i j))/\(∀(i j:Nat) (pv:PV),i<n->(f i)[j]? =some pv->ba S w pv (vf i j)):=by
 have hv:ba S w (.ij sz n f) v:=hv
 cases hv with
 | uS _ _ a c=>exact .inl ⟨a,c,rfl,rfl⟩
 | ij _ _ _ b off c vf h1 h2 h3 h4 h5=>exact .inr ⟨b,off,c,vf,rfl,h1,h2,h3,h4,h5⟩
theorem cj.zb {cs:List PV} {v:Value} (hv:cj μ h S w (.gD cs) v):
  ∃(b off:Nat) (vf:Nat->Value),v=.pointer (some ⟨b,off,none⟩)/\S b/\(∀(j:Nat) (pv:PV),cs[j]? =some pv->w.cell? ⟨b,off+j,none⟩=some (vf j))/\(∀(j:Nat) (pv:PV),cs[j]? =some pv->ba S w pv (vf j)):=by
 have hv:ba S w (.gD cs) v:=hv
 cases hv with
 | gD _ b off vf h1 h4 h5=>exact ⟨b,off,vf,rfl,h1,h4,h5⟩
theorem aa3 {v:Value} {p:PV} (h:amu v=some p):ba S w p v:=by
 cases v with
 | int k n=>cases h;exact ba.int k n
 | bool b=>cases h;exact ba.bool b
 | string s=>
  obtain ⟨⟨l⟩⟩:=s
  cases h
  exact ba.str l
 | slice a n c=>
  cases a with
  | none=>
   cases n with
   | zero=>
    cases c with
    | zero=>cases h;exact ba.ck
    | succ c=>cases h
   | succ n=>cases h
  | some a=>cases h
 | pointer a=>
  cases a with
  | none=>cases h;exact ba.iF
  | some a=>cases h
 | _=>cases h
theorem Lw:∀{vs:List Value} {l:List PV},Tj vs=some l->vs.length=l.length/\∀(j:Nat) (pv:PV),l[j]? =some pv->∃u,vs[j]? =some u/\ba S w pv u
 | [],l,h=>by
  cases h
  exact ⟨rfl,λj pv hj=>by simp at hj⟩
 | v::r,l,h=>by
  unfold Tj at h
  cases h1:amu v with
  | none=>rw [h1] at h;cases h
  | some p=>
   cases h2:Tj r with
   | none=>rw [h1,h2] at h;cases h
   | some q=>
    rw [h1,h2] at h
    cases h
    obtain ⟨q1,q2⟩:=Lw h2
    refine ⟨by simp [q1],λj pv hj=>?_⟩
    cases j with
    | zero=>simp at hj;subst hj;exact ⟨v,rfl,aa3 h1⟩
    | succ j=>obtain ⟨u,r1,r2⟩:=q2 j pv aNu;exact ⟨u,by simpa using r1,r2⟩
theorem Lx (v:Value):cj μ h S w (ofValue v) v:=by
 cases v with
 | int k n=>exact ba.int k n
 | bool b=>exact ba.bool b
 | string s=>
  obtain ⟨⟨l⟩⟩:=s
  exact ba.str l
 | slice a n c=>
  cases a with
  | none=>
   cases n with
   | zero=>
    cases c with
    | zero=>exact ba.ck
    | succ c=>trivial
   | succ n=>trivial
  | some a=>trivial
 | pointer a=>
  cases a with
  | none=>exact ba.iF
  | some a=>trivial
 | agg vs=>
  simp only [ofValue]
  cases hl:Tj vs.toList with
  | none=>trivial
  | some l=>
   obtain ⟨q1,q2⟩:=Lw (S:=S) (w:=w) hl
   exact ⟨vs,rfl,by simpa using q1,λj pv hj=>by obtain ⟨u,r1,r2⟩:=q2 j pv hj;exact ⟨u,by simpa using r1,cQ.lB r2⟩⟩
 | _=>trivial
theorem dq {env:Env} {a:Act} (ht:∀t,cj μ h S w (env t) (a.tmps.getD t undef)) (x:Operand):cj μ h S w (ev env x) (a.eval x):=by
 cases x with
 | tmp t=>exact ht t
 | const v=>exact Lx v
 | global g=>trivial
 | func f=>exact ba.fn f
def eT (P:Program) (o:Oper) (a:Act) (μ:Mu) (h:List al) (S:Nat->Prop) (w:World) (K:PV->Prop):Prop:=
 ∃v val,K v/\cj μ h S w v val/\∀w',c7 w w'->(execOp a.eval o).run P w'=.ok (.value val) w'
theorem eT.mk {o:Oper} {a:Act} {K:PV->Prop} {v:PV} {val:Value} (hK:K v) (hv:cj μ h S w v val) (hr:∀w',c7 w w'->(execOp a.eval o).run P w'=.ok (.value val) w'):eT P o a μ h S w K:=⟨v,val,hK,hv,hr⟩
variable {a:Act} {env:Env} {K:PV->Prop} {dst:Option Tmp} {ty:TypeId} {pos:String} {after:Array Edge} {guard:Option (Nat×Bool)}
theorem A7 {s:Sem Value} {w' w'':World} {val:Value} (hs:s.run P w'=.ok val w''):(do pure (Next.value (<-s)):Sem Next).run P w'=.ok (.value val) w'':=by
 simp [hs]
theorem toList_mk (l:List UInt8):(ByteArray.mk ⟨l⟩).toList=l:=by
 have h:(ByteArray.mk ⟨l⟩).toList=(ByteArray.mk ⟨l⟩).data.toList:=by simp
 rw [h]
theorem Q4 {bo:BinOp} {t:TypeId} {x y:Operand} {u u' val:Value} {w':World} (hg:eqGuard bo t x y u u'=pure ()) (hb:(binOp bo t u u').run P w'=.ok val w'):
  (do eqGuard bo t x y u u';binOp bo t u u':Sem Value).run P w'=.ok val w':=by
 rw [hg]
 simp [hb]
theorem zc {P:Program} {t:TypeId} {d:TypeDesc} (hu:P.underlying t=some d) (hd:Fy d=false) (cs:Array Value) (off:Nat) (v:Value) (hc:cs[off]? =some v) (w:World):(part t cs off).run P w=.ok v w:=by
 have:(isAgg t).run P w=.ok false w:=by
  unfold isAgg
  simp only [Sem.run_bind,run_underlying hu,Result.andThen]
  cases d<;>first | rfl | cases hd
 simp [part,this,hc]
theorem xS {g q:Bool} {o:Option Bool} {b:Bool} (h:Q6 g q o=some b):g=true/\∃c,o=some c/\b=(q&&c):=by
 cases o with
 | none=>cases h
 | some c=>cases g with
  | true=>exact ⟨rfl,c,rfl,(aLh h).symm⟩
  | false=>cases h
theorem xh {P:Program} {μ:Mu} {h:List al} {S:Nat->Prop} {w w':World} {xs ys:Array Value} (d:Nat):∀(fs:List Field) (z pxs pys:List PV) (n:Nat) (b:Bool),qp P n fs z=true->
  (∀(j:Nat) (pv:PV),pxs[j]? =some pv->∃u,xs[n+j]? =some u/\cQ μ h S w pv u)->(∀(j:Nat) (pv:PV),pys[j]? =some pv->∃u,ys[n+j]? =some u/\cQ μ h S w pv u)->
  eqC z pxs pys=some b->(Op.eqFields (d+1) xs ys fs).run P w'=.ok b w'
 | [],z,pxs,pys,n,b,hf,_,_,hk=>by
  cases z with
  | nil=>
   cases pxs with
   | nil=>cases pys with
    | nil=>cases hk;rfl
    | cons _ _=>cases hk
   | cons _ _=>cases hk
  | cons _ _=>simp [qp] at hf
 | f::fs,z,pxs,pys,n,b,hf,hx,hy,hk=>by
  have go:∀(c1 c2:PV) (v1 v2:Value) (q c:Bool) (dd:TypeDesc) (z r r':List PV),pxs=c1::r->pys=c2::r'->(∀u,cQ μ h S w c1 u->u=v1)->(∀u,cQ μ h S w c2 u->u=v2)->f.name≠ "_" ->f.offset=n->P.underlying f.type=some dd->Fy dd=false->
    (Op.equalIn (d+1) f.type v1 v2).run P w'=.ok q w'->qp P (n+1) fs z=true->eqC z r r'=some c->(Op.eqFields (d+1) xs ys (f::fs)).run P w'=.ok (q&&c) w':=by
   intro c1 c2 v1 v2 q c dd z r r' e1 e2 Tl hi2 Tm aBW hu hd hq hfs Ad
   subst e1 e2
   obtain ⟨u1,hu1,hr1⟩:=hx 0 c1 rfl
   obtain ⟨u2,hu2,hr2⟩:=hy 0 c2 rfl
   obtain rfl:=Tl u1 hr1
   obtain rfl:=hi2 u2 hr2
   have ox:=xh (w':=w') d fs z r r' (n+1) c hfs (λj pv hj=>by
     obtain ⟨u,q1,q2⟩:=hx (j+1) pv aNu
     exact ⟨u,by rw [<-q1];congr 1;omega,q2⟩) (λj pv hj=>by
     obtain ⟨u,q1,q2⟩:=hy (j+1) pv aNu
     exact ⟨u,by rw [<-q1];congr 1;omega,q2⟩) Ad
   have p1:=zc hu hd xs f.offset u1 (by rw [aBW];exact hu1) w'
   have p2:=zc hu hd ys f.offset u2 (by rw [aBW];exact hu2) w'
   unfold Op.eqFields
   rw [if_pos Tm]
   simp only [Sem.run_bind,p1,p2,hq,Result.andThen_ok]
   cases q with
   | true=>simpa using ox
   | false=>simp
  unfold eqC at hk
  split at hk
  ·simp [qp] at hf
  ·rename_i k n0 z k1 a r k2 b' r'
   simp only [qp,At,bne_iff_ne] at hf
   obtain ⟨⟨⟨h1,h2⟩,h3⟩,h4⟩:=hf
   have h2:=No h2
   obtain ⟨hg,c,hc,rfl⟩:=xS hk
   simp only [At] at hg
   obtain rfl:=mE hg.1
   obtain rfl:=mE hg.2
   split at h3
   ·rename_i k' hu
    exact go _ _ (.int k a) (.int k b') (a==b') c _ z r r' rfl rfl (λu hu=>by have hu:ba S w (.int k a) u:=hu;cases hu;rfl) (λu hu=>by have hu:ba S w (.int k b') u:=hu;cases hu;rfl) h1 h2 hu rfl (run_equalIn_int w' d _ _ _ _ _ hu) h4 hc
   ·cases h3
  ·rename_i n0 z a r b' r'
   simp only [qp,At,bne_iff_ne] at hf
   obtain ⟨⟨⟨h1,h2⟩,h3⟩,h4⟩:=hf
   have h2:=No h2
   obtain ⟨hg,c,hc,rfl⟩:=xS hk
   split at h3
   ·rename_i hu
    exact go _ _ (.bool a) (.bool b') (a==b') c _ z r r' rfl rfl (λu hu=>by have hu:ba S w (.bool a) u:=hu;cases hu;rfl) (λu hu=>by have hu:ba S w (.bool b') u:=hu;cases hu;rfl) h1 h2 hu rfl (run_equalIn_bool w' d _ _ _ hu) h4 hc
   ·cases h3
  ·rename_i n0 z a r b' r'
   simp only [qp,At,bne_iff_ne] at hf
   obtain ⟨⟨⟨h1,h2⟩,h3⟩,h4⟩:=hf
   have h2:=No h2
   obtain ⟨hg,c,hc,rfl⟩:=xS hk
   split at h3
   ·rename_i hu
    exact go _ _ (.string ⟨⟨a⟩⟩) (.string ⟨⟨b'⟩⟩) (a==b') c _ z r r' rfl rfl (λu hu=>by have hu:ba S w (.str a) u:=hu;cases hu;rfl) (λu hu=>by have hu:ba S w (.str b') u:=hu;cases hu;rfl) h1 h2 hu rfl (by
     rw [run_equalIn_string w' d _ _ _ hu,toList_mk,toList_mk]) h4 hc
   ·cases h3
  ·cases hk
theorem Tn (hT:fe P T) (bo:BinOp) (t t':TypeId) (x y:Operand) (px py:PV) (hx:cj μ h S w px (a.eval x)) (hy:cj μ h S w py (a.eval y)) (hp:To (T.get t) bo px py K):
  eT P ⟨dst,.binOp bo t x y t',ty,pos,after,guard⟩ a μ h S w K:=by
 have key:∀(v:PV) (val:Value),K v->cj μ h S w v val->eqGuard bo t x y (a.eval x) (a.eval y)=pure ()->(∀w',(binOp bo t (a.eval x) (a.eval y)).run P w'=.ok val w')->
   eT P ⟨dst,.binOp bo t x y t',ty,pos,after,guard⟩ a μ h S w K:=λv val hK hv hg hr=>.mk hK hv λw' _=>A7 (Q4 hg (hr w'))
 unfold To at hp
 split at hp
 ·rename_i k n k' n'
  have ex:=hx.mh
  have ey:=hy.mh
  have hg:eqGuard bo t x y (a.eval x) (a.eval y)=pure ():=by rw [ex];apply eqGuard_at_int
  cases bo<;>simp only at hp
  case shl=>
   have h0:¬n'<0:=by omega
   exact key _ _ hp.2 (ba.int _ _) hg λw'=>by rw [ex,ey,binOp_shl];simp only [Op.shift,if_neg h0];rfl
  case shr=>
   have h0:¬n'<0:=by omega
   exact key _ _ hp.2 (ba.int _ _) hg λw'=>by rw [ex,ey,binOp_shr];simp only [Op.shift,if_neg h0];rfl
  all_goals
   replace hp:=bX hp
   obtain ⟨hk,hp⟩:=hp
   obtain rfl:=mE hk
  case and=>exact key _ _ hp (ba.int _ _) hg λw'=>by rw [ex,ey,binOp_and,intBits_and];rfl
  case or=>exact key _ _ hp (ba.int _ _) hg λw'=>by rw [ex,ey,binOp_or,intBits_or];rfl
  case xor=>exact key _ _ hp (ba.int _ _) hg λw'=>by rw [ex,ey,binOp_xor,intBits_xor];rfl
  case andNot=>exact key _ _ hp (ba.int _ _) hg λw'=>by rw [ex,ey,binOp_andNot,intBits_andNot];rfl
  case add=>exact key _ _ hp (ba.int _ _) hg λw'=>by rw [ex,ey,binOp_add];rfl
  case sub=>exact key _ _ hp (ba.int _ _) hg λw'=>by rw [ex,ey,binOp_sub];rfl
  case mul=>exact key _ _ hp (ba.int _ _) hg λw'=>by rw [ex,ey,binOp_mul];rfl
  case quo=>exact key _ _ hp.2 (ba.int _ _) hg λw'=>by rw [ex,ey,binOp_quo];simp [Op.intDiv,hp.1]
  case rem=>exact key _ _ hp.2 (ba.int _ _) hg λw'=>by rw [ex,ey,binOp_rem];simp [Op.intDiv,hp.1]
  case eql=>exact key _ _ hp (ba.bool _) hg λw'=>by rw [ex,ey,binOp_eql];rfl
  case neq=>exact key _ _ hp (ba.bool _) hg λw'=>by rw [ex,ey,binOp_neq];rfl
  case lss=>exact key _ _ hp (ba.bool _) hg λw'=>by rw [ex,ey,binOp_lss];rfl
  case leq=>exact key _ _ hp (ba.bool _) hg λw'=>by rw [ex,ey,binOp_leq];rfl
  case gtr=>exact key _ _ hp (ba.bool _) hg λw'=>by rw [ex,ey,binOp_gtr];rfl
  case geq=>exact key _ _ hp (ba.bool _) hg λw'=>by rw [ex,ey,binOp_geq];rfl
 ·rename_i b b'
  have ex:=hx.ns
  have ey:=hy.ns
  have hg:eqGuard bo t x y (a.eval x) (a.eval y)=pure ():=by rw [ex];apply eqGuard_at_bool
  split at hp
  ·rename_i jP
   exact key _ _ hp (ba.bool _) hg λw'=>by rw [ex,ey];exact run_eql_bool w' t _ _ (hT.bool _ jP)
  ·rename_i jP
   exact key _ _ hp (ba.bool _) hg λw'=>by rw [ex,ey];exact run_neq_bool w' t _ _ (hT.bool _ jP)
  ·exact aMG
 ·rename_i s s'
  have ex:=hx.oF
  have ey:=hy.oF
  have hg:eqGuard bo t x y (a.eval x) (a.eval y)=pure ():=by rw [ex];apply eqGuard_at_string
  cases bo<;>simp only at hp
  case add=>
   obtain ⟨FR,_,rfl,My⟩:=hp
   refine key _ _ My (ba.str _) hg λw'=>?_
   rw [ex,ey,binOp_string_add]
   have h1:¬(((ByteArray.mk ⟨s⟩).size+(ByteArray.mk ⟨s'⟩).size:Nat):Int)>IntKind.i64.max:=by
    have e1:(ByteArray.mk ⟨s⟩).size=s.length:=rfl
    have e2:(ByteArray.mk ⟨s'⟩).size=s'.length:=rfl
    rw [e1,e2,IntKind.max_i64]
    omega
   simp only [Op.stringOp,if_neg h1]
   have h2:ByteArray.mk ⟨s⟩++ByteArray.mk ⟨s'⟩=ByteArray.mk ⟨s++s'⟩:=by
    apply ByteArray.ext
    simp [ByteArray.data_append]
   rw [h2]
   rfl
  case eql=>exact key _ _ hp (ba.bool _) hg λw'=>by rw [ex,ey,binOp_string_eql,toList_mk,toList_mk];rfl
  case neq=>exact key _ _ hp (ba.bool _) hg λw'=>by rw [ex,ey,binOp_string_neq,toList_mk,toList_mk];rfl
  case lss=>exact key _ _ hp (ba.bool _) hg λw'=>by rw [ex,ey,binOp_string_lss,toList_mk,toList_mk];rfl
  case leq=>exact key _ _ hp (ba.bool _) hg λw'=>by rw [ex,ey,binOp_string_leq,toList_mk,toList_mk];rfl
  case gtr=>exact key _ _ hp (ba.bool _) hg λw'=>by rw [ex,ey,binOp_string_gtr,toList_mk,toList_mk];rfl
  case geq=>exact key _ _ hp (ba.bool _) hg λw'=>by rw [ex,ey,binOp_string_geq,toList_mk,toList_mk];rfl
  all_goals exact hp.elim
 ·rename_i pxs pys
  split at hp
  ·rename_i sz fl z jP
   replace hp:=bX hp
   obtain ⟨hz,hp⟩:=hp
   have hfl:=hT.flat _ _ _ _ jP hz
   unfold O5 at hfl
   split at hfl
   ·rename_i fs hu
    simp only [At,aKN] at hfl
    obtain ⟨⟨h1,h2⟩,h3⟩:=hfl
    obtain ⟨xs,ex,_,hxs⟩:=hx
    obtain ⟨ys,ey,_,hys⟩:=hy
    have Ua:P.fieldsOf t=fs:=by simp [Program.fieldsOf,hu]
    have ox:∀b,eqC z pxs pys=some b->∀w',(Op.equalIn 10000 t (.agg xs) (.agg ys)).run P w'=.ok b w':=λb hk w'=>by
     rw [run_equalIn_struct w' 9999 t xs ys (by rw [Ua];exact hu) h1,Ua]
     exact xh (μ:=μ) (h:=h) (S:=S) (w:=w) 9998 fs.toList z pxs pys 0 b h3 (λj pv hj=>by rw [aKc];exact hxs j pv hj) (λj pv hj=>by rw [aKc];exact hys j pv hj) hk
    have aBX:∀(b:Bool),K (.bool b)->(∀w',(binOp bo t (.agg xs) (.agg ys)).run P w'=.ok (.bool b) w')->eT P ⟨dst,.binOp bo t x y t',ty,pos,after,guard⟩ a μ h S w K:=λb hK hr=>.mk hK (ba.bool b) λw' _=>A7 (by
     rw [ex,ey]
     simp [run_eqGuard_agg w' bo t x y xs ys h2,hr w'])
    split at hp
    ·rename_i b hb
     split at hp
     ·obtain ⟨_,rfl,hK⟩:=hp
      exact aBX _ hK λw'=>by rw [run_eql_struct,ox b hb w'];rfl
     ·obtain ⟨_,rfl,hK⟩:=hp
      exact aBX _ hK λw'=>by rw [run_neq_struct,ox b hb w'];rfl
     ·exact aMG
    ·exact aMG
   ·cases hfl
  ·exact aMG
 ·exact aMG
theorem zd {t:TypeId} {d:TypeDesc} (hu:P.underlying t=some d) (w':World):(isAgg t).run P w'=.ok (Fy d) w':=by
 unfold isAgg
 simp only [Sem.run_bind,run_underlying hu,Result.andThen]
 cases d<;>rfl
def aeG (μ:Mu) (h:List al) (S:Nat->Prop) (w:World) (cells:List PV) (b off:Nat):Prop:=
 ∀(j:Nat) (pv:PV),cells[j]? =some pv->∃u,w.cell? ⟨b,off+j,none⟩=some u/\cQ μ h S w pv u
theorem Dt (hT:fe P T) (t:Nat) (x:Operand) (cells:List PV) (b off:Nat) (hx:a.eval x=.pointer (some ⟨b,off,none⟩)) (hc:aeG μ h S w cells b off) (hp:Ae T t cells K)
  (aeH:∀pv u,pv∈cells->cQ μ h S w pv u->cj μ h S w pv u):
  eT P ⟨dst,.load t x,ty,pos,after,guard⟩ a μ h S w K:=by
 have key:∀(v:PV) (val:Value),K v->cj μ h S w v val->(∀w',c7 w w'->(loadVar t ⟨b,off,none⟩).run P w'=.ok val w')->
   eT P ⟨dst,.load t x,ty,pos,after,guard⟩ a μ h S w K:=λv val hK hv hr=>.mk hK hv λw' ha=>by
  refine A7 ?_
  rw [hx]
  simp [Instr.loadAt,Instr.sureAddr,hr w' ha]
 have one:∀d,P.underlying t=some d->Fy d=false->(∃c r,cells=c::r/\K c)->
   eT P ⟨dst,.load t x,ty,pos,after,guard⟩ a μ h S w K:=λd hu hd ⟨c,r,hcs,hK⟩=>by
  obtain ⟨u,hu1,hu2⟩:=hc 0 c (by rw [hcs];rfl)
  refine key c u hK (aeH c u (by rw [hcs];simp) hu2) λw' ha=>?_
  have h0:=ha.cell hu1
  rw [aKZ] at h0
  unfold loadVar
  simp only [Sem.run_bind,zd hu,hd,Result.andThen]
  simp [run_load,h0]
 unfold Ae at hp
 split at hp
 ·rename_i sz fl zz jP
  obtain ⟨fs,i,hu,hi,jO,_⟩:=hT.struct _ _ _ _ jP
  replace hp:=qu _ _ _ hp
  obtain ⟨hle,hK⟩:=hp
  simp only [aLQ,aKk] at hK
  have hf:∃f:Nat->Value,∀(j:Nat) (pv:PV),cells[j]? =some pv->w.cell? ⟨b,off+j,none⟩=some (f j)/\cQ μ h S w pv (f j):=by
   refine ⟨λj=>(w.cell? ⟨b,off+j,none⟩).getD undef,λj pv hj=>?_⟩
   obtain ⟨u,h1,h2⟩:=hc j pv hj
   simp only [h1,aLR]
   exact ⟨trivial,h2⟩
  obtain ⟨f,hf⟩:=hf
  refine key _ (.agg ((List.range sz).map f).toArray) hK ⟨_,rfl,by simp [Nat.min_eq_left hle],λj pv hj=>?_⟩ λw' ha=>?_
  ·rw [aLC] at hj
   split at hj
   ·rename_i O6
    obtain ⟨h1,h2⟩:=hf j pv hj
    exact ⟨f j,by simp [O6],h2⟩
   ·cases hj
  ·unfold loadVar
   have hd:Fy (.struct fs)=true:=rfl
   simp only [Sem.run_bind,zd hu,hd,Result.andThen]
   have hl:=run_loadCells (P:=P) w' ⟨b,off,none⟩ sz f (λj hj=>by
    rw [Addr.add_lit]
    have Du:j<cells.length:=aKm hj hle
    exact ha.cell (hf j _ (Of Du)).1)
   simp [sizeOf,typeInfo,hi,jO,hl]
 ·exact aMG
 ·rename_i h1 h2
  have hcs:∃c r,cells=c::r/\K c:=by
   cases cells with
   | nil=>exact hp.elim
   | cons c r=>exact ⟨c,r,rfl,dW hp⟩
  cases jP:T.get t with
  | int k=>exact one _ (hT.int _ _ jP) rfl hcs
  | bool=>exact one _ (hT.bool _ jP) rfl hcs
  | str=>exact one _ (hT.str _ jP) rfl hcs
  | slice e sz by' z=>exact one _ (hT.slice _ _ _ _ _ jP).1 rfl hcs
  | struct sz fl zz=>exact (h1 _ _ _ jP).elim
  | map k e z=>exact one _ (hT.map _ _ _ _ jP).1 rfl hcs
  | ptr e=>exact one _ (hT.ptr _ _ jP) rfl hcs
  | other=>exact (h2 jP).elim
theorem fY {id:Nat} {g sz n:Nat} {e:TypeId} {f:Nat->List PV} (hh:er h id=.row g sz n e f):h[id]? =some (al.row g sz n e f):=by
 unfold er at hh
 rw [aKb] at hh
 cases ho:h[id]? with
 | none=>rw [ho] at hh;cases hh
 | some o=>rw [ho] at hh;simp at hh;rw [hh]
theorem cj.pV {id gen off len:Nat} {v:Value} (hv:cj μ h S w (.own id gen off len) v):bG μ h w id gen off len v:=hv
theorem cj.vH {id gen i off:Nat} {v:Value} (hv:cj μ h S w (.aA id gen i off) v):cN μ h w id gen i off v:=hv
theorem cj.aeI {id:Nat} {v:Value} (hv:cj μ h S w (.qv id) v):iv μ h w id v:=hv
theorem aa4 (hH:de μ h S w) {id g sz n:Nat} {e:TypeId} {f:Nat->List PV} {v:Value} (hh:h[id]? =some (al.row g sz n e f)) (hr:iv μ h w id v):
  ∃b base es c,μ id=some (b,base)/\v=.map (some b)/\w.heap[b]? =some (.map es c)/\es.size=n/\
   ∀i,i<n->∃(kp vp:PV) (en:MapEntry),f i=[kp,vp]/\qs kp=true/\qs vp=true/\es[i]? =some en/\FA kp en.key/\FA vp en.val:=by
 unfold iv at hr
 rw [hh] at hr
 obtain ⟨_,b,base,ju,⟨es,c,hb⟩,rfl⟩:=hr
 obtain ⟨_,ho⟩:=hH id g sz n e f hh
 rw [ju] at ho
 obtain ⟨o,h1,h2⟩:=ho
 obtain rfl:=aLh (hb.symm.trans h1)
 exact ⟨b,base,es,c,ju,rfl,hb,h2.1,h2.2⟩
theorem cQ.v {pv:PV} {u:Value} (hc:cQ μ h S w pv u):cj μ h S w pv u:=by
 cases pv<;>first | exact (show False from hc).elim | trivial | exact hc
theorem Dv (hT:fe P T) (hH:de μ h S w) (t:Nat) (x:Operand) (px:PV) (hx:cj μ h S w px (a.eval x)) (hp:ze T t px h K):
  eT P ⟨dst,.load t x,ty,pos,after,guard⟩ a μ h S w K:=by
 unfold ze at hp
 split at hp
 ·rename_i cells
  obtain ⟨b,off,vf,e1,_,h2,h3⟩:=hx.zb
  exact Dt hT t x cells b off e1 (λj pv hj=>⟨vf j,h2 j pv hj,cQ.lB (h3 j pv hj)⟩) hp λpv u _ hc=>hc.v
 ·rename_i id gen i off
  split at hp
  ·rename_i g sz n e f hg
   obtain ⟨rfl,_,rfl,hp⟩:=hp
   have hh:=fY hg
   have hr:=hx.vH
   unfold cN at hr
   rw [hh] at hr
   obtain ⟨_,_,hr⟩:=hr
   obtain ⟨hin,b,base,ju,O7,hv⟩:=hr rfl
   obtain ⟨hl,hc⟩:=hH id g sz n e f hh
   rw [ju] at hc
   obtain ⟨cur,hb,jO,bB⟩:=de.cells O7.1 hc
   refine Dt hT t x _ b (base+i*sz+off) hv (λj pv hj=>?_) hp λpv u _ hc=>hc.v
   rw [aLe] at hj
   obtain ⟨v,h1,h2⟩:=bB i (off+j) pv hin hj
   refine ⟨v,?_,h2.c⟩
   rw [cell_of_row w b (base+i*sz+off+j) cur e (0,0) hb,<-h1]
   congr 1
   omega
  ·exact aMG
 ·exact aMG
theorem mi {e:TypeId} {i:TypeInfo} (hi:P.info? e=some i) (w':World):(sizeOf e).run P w'=.ok i.size w':=by
 simp [sizeOf,typeInfo,hi]
theorem A8 {t e:TypeId} {i:TypeInfo} (hu:P.underlying t=some (.slice e)) (hi:P.info? e=some i) (a:Addr) (n c:Nat) (k:IntKind) (x:Int) (h0:0<=x) (h1:x<n) (w':World):
  (Instr.indexAt t (.slice (some a) n c) (.int k x)).run P w'=.ok (.pointer (some (a.add (x.toNat*i.size)))) w':=by
 have he:P.elem t=e:=by simp [Program.elem,hu]
 rw [run_indexAt_slice w' t a n c k x aNJ,if_pos ⟨h0,h1⟩,he,mi hi]
 rfl
theorem Ly (hT:fe P T) (hH:de μ h S w) (ht:∀t,cj μ h S w (env t) (a.tmps.getD t undef)) (t:Nat) (x i:Operand) (hp:dA T (.indexAddr t x i) env h K):
  eT P ⟨dst,.indexAddr t x i,ty,pos,after,guard⟩ a μ h S w K:=by
 have hx:=dq ht x
 have hi:=dq ht i
 unfold dA at hp
 simp only at hp
 split at hp
 ·rename_i e sz bt z cJ n f k ix jP hex hei
  rw [hex] at hx
  rw [hei] at hi
  replace hp:=bX hp
  obtain ⟨B1,⟨h0,h1⟩,_,rfl,hK⟩:=hp
  obtain rfl:=No B1
  have ei:=hi.mh
  obtain ⟨hu,_,inf,zv,nN,qX,_⟩:=hT.slice _ _ _ _ _ jP
  rcases hx.wC with ⟨_,_,_,rfl⟩ | ⟨b,off,c,vf,ex,hS,hl,hc,bB,pt⟩
  ·omega
  ·have hix:ix.toNat<n:=by omega
   refine .mk hK (ba.gD (f ix.toNat) b (off+ix.toNat*sz) (vf ix.toNat) hS (λj pv hj=>bB _ j pv hix hj) (λj pv hj=>pt _ j pv hix hj)) λw' _=>A7 ?_
   rw [ex,ei,A8 hu nN _ _ _ _ _ h0 h1,qX,Addr.add_lit]
 ·rename_i e sz bt z id gen off len k ix jP hex hei
  rw [hex] at hx
  rw [hei] at hi
  have ei:=hi.mh
  obtain ⟨hu,_,inf,zv,nN,qX,_⟩:=hT.slice _ _ _ _ _ jP
  split at hp
  ·rename_i g cJ n e' f MI
   obtain ⟨rfl,hp⟩:=hp
   replace hp:=bX hp
   obtain ⟨B1,⟨h0,h1⟩,_,rfl,hK⟩:=hp
   obtain ⟨B1,hnb⟩:=Bool.and_eq_true_iff.1 B1
   obtain rfl:=No B1
   have hh:=fY MI
   have hr:=hx.pV
   unfold bG at hr
   rw [hh] at hr
   obtain ⟨_,_,hr⟩:=hr
   obtain ⟨hle,hr⟩:=hr rfl
   cases ju:μ id with
   | none=>
    rw [ju] at hr
    obtain ⟨_,hz⟩:=hH id _ _ _ _ _ hh
    rw [ju] at hz
    have hz:n=0:=hz
    omega
   | some p=>
    obtain ⟨b,base⟩:=p
    rw [ju] at hr
    obtain ⟨ad,cap,ex,hlc,yt,O7⟩:=hr
    have yt:=yt aNc
    subst yt
    refine .mk hK (v:=.aA id g (off+ix.toNat) 0) (val:=.pointer (some ⟨b,base+(off+ix.toNat)*sz+0,none⟩)) ?_ λw' _=>A7 ?_
    ·show cN μ h w id g (off+ix.toNat) 0 _
     unfold cN
     rw [hh]
     exact ⟨⟨_,rfl⟩,As _,λ_=>⟨by omega,b,base,ju,⟨O7.least,λhb=>by rw [hb] at hnb;cases hnb⟩,rfl⟩⟩
    ·rw [ex,ei,A8 hu nN _ _ _ _ _ h0 h1,qX,Addr.add_lit]
     have:base+off*sz+ix.toNat*sz=base+(off+ix.toNat)*sz+0:=by rw [aKi];omega
     rw [this]
  ·exact aMG
 ·exact aMG
theorem Dw (hT:fe P T) (ht:∀t,cj μ h S w (env t) (a.tmps.getD t undef)) (t:Nat) (x i:Operand) (hp:dA T (.index t x i) env h K):
  eT P ⟨dst,.index t x i,ty,pos,after,guard⟩ a μ h S w K:=by
 have hx:=dq ht x
 have hi:=dq ht i
 unfold dA at hp
 simp only at hp
 split at hp
 ·rename_i s k ix jP hex hei
  rw [hex] at hx
  rw [hei] at hi
  obtain ⟨⟨h0,h1⟩,_,rfl,hK⟩:=hp
  have ei:=hi.mh
  have ex:=hx.oF
  have hu:=hT.str _ jP
  refine .mk hK (ba.int _ _) λw' _=>A7 ?_
  rw [ex,ei]
  have hb:(ByteArray.mk ⟨s⟩)[ix.toNat]? =some (s.getD ix.toNat 0):=by
   have bc:ix.toNat<s.length:=by omega
   rw [aKb,Of bc]
   rw [getElem?_pos (ByteArray.mk ⟨s⟩) ix.toNat bc]
   rfl
  simp only [Instr.index,asIntOf,Sem.run_bind,Sem.run_pure,Result.andThen,run_underlying hu,if_pos h0,hb]
 ·exact aMG
theorem Tp (hT:fe P T) (hH:de μ h S w) (ht:∀t,cj μ h S w (env t) (a.tmps.getD t undef)) (args:Array Operand) (ts:Array TypeId) (hp:dA T (.call ⟨.builtin .len,args,ts⟩) env h K):
  eT P ⟨dst,.call ⟨.builtin .len,args,ts⟩,ty,pos,after,guard⟩ a μ h S w K:=by
 obtain ⟨args⟩:=args
 obtain ⟨ts⟩:=ts
 unfold dA at hp
 simp only at hp
 split at hp
 ·rename_i x t
  have hx:=dq ht x
  have fin:∀(n:Int) (val:Value),a.eval x=val->K (.int .i64 n)->(∀w',(Builtin.len_ #[t] ty #[val]).run P w'=.ok (goInt n) w')->
    eT P ⟨dst,.call ⟨.builtin .len,#[x],#[t]⟩,ty,pos,after,guard⟩ a μ h S w K:=λn val zP hK hr=>.mk hK (ba.int _ _) λw' _=>by
   simp only [execOp,resolve,invoke,builtin,Sem.run_bind,Sem.run_pure,Result.andThen_ok,aLS,aKp,aKI,zP,hr]
   rfl
  split at hp
  ·rename_i e sz bt z cJ n f jP hex
   rw [hex] at hx
   obtain ⟨hu,_⟩:=hT.slice _ _ _ _ _ jP
   have he:P.elem t=e:=by simp [Program.elem,hu]
   rcases hx.wC with ⟨aa,c,ex,rfl⟩ | ⟨b,off,c,vf,ex,_⟩
   ·exact fin _ _ ex hp λw'=>run_len_slice w' t ty _ _ _ aNJ
   ·exact fin _ _ ex hp λw'=>run_len_slice w' t ty _ _ _ aNJ
  ·rename_i e sz bt z jP hex
   rw [hex] at hx
   obtain ⟨hu,_⟩:=hT.slice _ _ _ _ _ jP
   have he:P.elem t=e:=by simp [Program.elem,hu]
   exact fin _ _ hx.qt hp λw'=>run_len_slice w' t ty _ _ _ aNJ
  ·rename_i e sz bt z id gen off n jP hex
   rw [hex] at hx
   obtain ⟨hu,_⟩:=hT.slice _ _ _ _ _ jP
   have he:P.elem t=e:=by simp [Program.elem,hu]
   split at hp
   ·rename_i g cJ n' e' f MI
    obtain ⟨rfl,hK⟩:=hp
    have hh:=fY MI
    have hr:=hx.pV
    unfold bG at hr
    rw [hh] at hr
    obtain ⟨_,_,hr⟩:=hr
    obtain ⟨hle,hr⟩:=hr rfl
    have zP:∃aa c,a.eval x=.slice aa n c:=by
     cases ju:μ id with
     | none=>
      rw [ju] at hr
      obtain ⟨_,hz⟩:=hH id _ _ _ _ _ hh
      rw [ju] at hz
      have hz:n'=0:=hz
      have:n=0:=by omega
      subst this
      exact ⟨_,_,hr⟩
     | some p=>
      rw [ju] at hr
      obtain ⟨ad,cap,ex,_⟩:=hr
      exact ⟨_,_,ex⟩
    obtain ⟨aa,c,ex⟩:=zP
    exact fin _ _ ex hK λw'=>run_len_slice w' t ty _ _ _ aNJ
   ·exact aMG
  ·rename_i s jP hex
   rw [hex] at hx
   have hu:=hT.str _ jP
   refine fin _ _ hx.oF hp λw'=>?_
   simp [Builtin.len_,run_underlying hu]
   rfl
  ·rename_i k0 e0 z0 id jP hex
   rw [hex] at hx
   obtain ⟨hu,_⟩:=hT.map _ _ _ _ jP
   split at hp
   ·rename_i g sz n e f MI
    obtain ⟨b,base,es,c,ju,ex,hb,hn,_⟩:=aa4 hH (fY MI) hx.aeI
    refine .mk hp (ba.int _ _) λw' ha=>?_
    have sd:w'.heap[b]? =some (.map es c):=(ha.blocks b (abF.1 hb).1).trans hb
    simp only [execOp,resolve,invoke,builtin,Sem.run_bind,Sem.run_pure,Result.andThen_ok,aLS,aKp,aKI,ex]
    rw [show (Builtin.len_ #[t] ty #[.map (some b)]).run P w'=.ok (goInt es.size) w' by simp [Builtin.len_,run_underlying hu,run_getObj_map w' b es c sd]]
    rw [hn]
    rfl
   ·exact aMG
  ·exact aMG
 ·exact aMG
theorem A9 (s:List UInt8) (l m:Nat):(ByteArray.mk ⟨s⟩).extract l m=ByteArray.mk ⟨(s.take m).drop l⟩:=by
 apply ByteArray.ext
 rw [ByteArray.data_extract]
 apply Array.ext'
 rw [aLK]
 simp [Array.toList_extract,List.extract]
theorem Tq (hT:fe P T) (hH:de μ h S w) (id g off len sz n:Nat) (e:TypeId) (f:Nat->List PV) (hh:h[id]? =some (al.row g sz n e f)) (v:Value) (hv:cj μ h S w (.own id g off len) v) (l m:Nat) (hl:l<=m) (hm:m<=len):
  ∃aa c,v=.slice aa len c/\len<=c/\∀(mx:Nat),m<=mx->mx<=c->cj μ h S w (.own id g (off+l) (m - l)) (.slice (if mx=l then aa else aa.map (·.add (l*sz))) (m - l) (mx - l)):=by
 have hr:=hv.pV
 unfold bG at hr
 rw [hh] at hr
 obtain ⟨_,_,hr⟩:=hr
 obtain ⟨hle,hr⟩:=hr rfl
 cases ju:μ id with
 | none=>
  rw [ju] at hr
  obtain ⟨_,hz⟩:=hH id _ _ _ _ _ hh
  rw [ju] at hz
  have hz:n=0:=hz
  have h0:len=0:=by omega
  subst h0
  have hr:v=.slice none 0 0:=hr
  refine ⟨none,0,hr,As _,λmx h1 h2=>?_⟩
  have hm0:m=0:=by omega
  have JY:l=0:=by omega
  have hx0:mx=0:=by omega
  subst hm0
  subst JY
  subst hx0
  show bG μ h w id g (off+0) (0 - 0) _
  unfold bG
  rw [hh]
  refine ⟨⟨_,_,_,rfl⟩,As _,λ_=>⟨by omega,?_⟩⟩
  rw [ju]
  rfl
 | some p=>
  obtain ⟨b,base⟩:=p
  rw [ju] at hr
  obtain ⟨ad,cap,ex,hlc,yt,ic⟩:=hr
  refine ⟨some ad,cap,ex,hlc,λmx h1 h2=>?_⟩
  show bG μ h w id g (off+l) (m - l) _
  unfold bG
  rw [hh]
  refine ⟨⟨_,_,_,rfl⟩,As _,λ_=>⟨by omega,?_⟩⟩
  rw [ju]
  by_cases hml:mx=l
  ·refine ⟨ad,0,by rw [if_pos hml];subst hml;simp,by omega,λh=>absurd h aNc,?_⟩
   obtain ⟨cur,e',z,q1,q2⟩:=ic
   refine ⟨cur,e',z,q1,aKW ?_ q2⟩
   have:(off+l+0)*sz<=(off+cap)*sz:=aKn _ aNc
   omega
  ·have yt:=yt aNc
   subst yt
   refine ⟨⟨b,base+(off+l)*sz,none⟩,mx - l,?_,by omega,λ_=>rfl,?_⟩
   ·rw [if_neg hml,Option.map_some,Addr.add_lit,aKi,aLO]
   ·obtain ⟨cur,e',z,q1,q2⟩:=ic
    refine ⟨cur,e',z,q1,aKW ?_ q2⟩
    have:(off+l+(mx - l))*sz<=(off+cap)*sz:=aKn _ aNc
    omega
theorem Tr (sz n:Nat) (f:Nat->List PV) (v:Value) (hv:cj μ h S w (.ij sz n f) v) (l m:Nat) (hl:l<=m) (hm:m<=n):
  ∃aa c,v=.slice aa n c/\((n<=c\/n=0)/\∀(mx:Nat),m<=mx->(mx<=c\/m=0)->cj μ h S w (.ij sz (m - l) (λi=>f (l+i))) (.slice (if mx=l then aa else aa.map (·.add (l*sz))) (m - l) (mx - l))):=by
 rcases hv.wC with ⟨aa,c,ex,rfl⟩ | ⟨b,off,c,vf,ex,hS,hlen,hc,bB,pt⟩
 ·have hm0:m=0:=by omega
  subst hm0
  have JY:l=0:=by omega
  subst JY
  exact ⟨aa,c,ex,.inr rfl,λmx _ _=>ba.uS _ _ _ _⟩
 ·refine ⟨_,c,ex,.inl hc,λmx h1 h2=>?_⟩
  by_cases hml:m=l
  ·subst hml
   rw [aLm]
   exact ba.uS _ _ _ _
  ·rw [if_neg aNc,Option.map_some,Addr.add_lit]
   refine ba.ij sz (m - l) _ b (off+l*sz) (mx - l) (λi j=>vf (l+i) j) hS (λi hi=>hlen _ aNc) aNc (λi j pv hi hj=>?_) (λi j pv hi hj=>pt _ j pv aNc hj)
   have:=bB (l+i) j pv aNc hj
   rw [aKi] at this
   rw [<-this]
   congr 2
   omega
theorem eK {o:Oper} {s:Sem Value} {val:Value} {w' w'':World} (he:execOp a.eval o=(do pure (Next.value (<-s)):Sem Next)) (hs:s.run P w'=.ok val w''):(execOp a.eval o).run P w'=.ok (.value val) w'':=by
 rw [he];exact A7 hs
theorem xT (hx:∀x,cj μ h S w (ev env x) (a.eval x)) {lo:Option Operand}:(lo.map (ev env)=none->lo.map a.eval=none)/\∀k n,lo.map (ev env)=some (.int k n)->lo.map a.eval=some (.int k n):=by
 cases lo with
 | none=>exact ⟨λ_=>rfl,λk n h=>aNy⟩
 | some x=>
  refine ⟨λh=>aNy,λk n hh=>?_⟩
  have hh:ev env x=.int k n:=by injection hh
  have:=hx x
  rw [hh] at this
  show some (a.eval x)=_
  rw [this.mh]
theorem O8 {t e:TypeId} {i:TypeInfo} (hu:P.underlying t=some (.slice e)) (hi:P.info? e=some i) (aa:Option Addr) (n c:Nat) (hc:n<=c) (w':World):
  ((Instr.sliceAt t (.slice aa n c) none none none).run P w'=.ok (sliced aa 0 n c i.size) w')/\
  (∀(k:IntKind) (l:Int),0<=l->l<=n->(Instr.sliceAt t (.slice aa n c) (some (.int k l)) none none).run P w'=.ok (sliced aa l.toNat n c i.size) w')/\
  (∀(k:IntKind) (m:Int),0<=m->m<=n->(Instr.sliceAt t (.slice aa n c) none (some (.int k m)) none).run P w'=.ok (sliced aa 0 m.toNat c i.size) w')/\
  (∀(k:IntKind) (l:Int) (k':IntKind) (m:Int),0<=l->l<=m->m<=n->(Instr.sliceAt t (.slice aa n c) (some (.int k l)) (some (.int k' m)) none).run P w'=.ok (sliced aa l.toNat m.toNat c i.size) w')/\
  (∀(k:IntKind) (m:Int) (k':IntKind) (q:Int),0<=m->m<=q->q<=n->(Instr.sliceAt t (.slice aa n c) none (some (.int k m)) (some (.int k' q))).run P w'=.ok (sliced aa 0 m.toNat q.toNat i.size) w')/\
  (∀(k:IntKind) (l:Int) (k':IntKind) (m:Int) (k'':IntKind) (q:Int),0<=l->l<=m->m<=q->q<=n->(Instr.sliceAt t (.slice aa n c) (some (.int k l)) (some (.int k' m)) (some (.int k'' q))).run P w'=.ok (sliced aa l.toNat m.toNat q.toNat i.size) w'):=by
 have he:P.elem t=e:=by simp [Program.elem,hu]
 have hu':P.underlying t=some (.slice (P.elem t)):=by rw [he];exact hu
 have hcc:(n:Int)<=c:=by omega
 refine ⟨?_,λk l h0 h1=>?_,λk m h0 h1=>?_,λk l k' m h0 h1 h2=>?_,λk m k' q h0 h1 h2=>?_,λk l k' m k'' q h0 h1 h2 h3=>?_⟩<;>rw [run_sliceAt_slice w' _ _ _ _ _ hu']
 ·rw [run_slice_all w' t aa n c hu',he,mi hi];rfl
 ·rw [run_slice_l w' t aa n c hu' k l h0 h1,he,mi hi];rfl
 ·rw [run_slice_h w' t aa n c hu' k m h0 aNc,he,mi hi];rfl
 ·rw [run_slice_lh w' t aa n c hu' k k' l m h0 h1 aNc,he,mi hi];rfl
 ·rw [run_slice_hm w' t aa n c hu' k k' m q h0 h1 aNc,he,mi hi];rfl
 ·rw [run_slice_lhm w' t aa n c hu' k k' k'' l m q h0 h1 h2 aNc,he,mi hi];rfl
theorem eT.choose {o:Oper} (hs:eT P o a μ h S w (Lz K)):eT P o a μ h S w K:=by
 obtain ⟨v,val,hK,hv,hr⟩:=hs
 cases v with
 | ij sz n f=>
  obtain ⟨n',f',rfl,hf,hK⟩:=hK
  refine ⟨_,val,hK,?_,hr⟩
  rcases hv.wC with ⟨a,c,rfl,rfl⟩ | ⟨b,off,c,vf,rfl,h1,h2,h3,h4,h5⟩
  ·exact ba.uS _ _ _ _
  ·exact ba.ij sz n' f' b off c vf h1 (λi hi=>by rw [hf i hi];exact h2 i hi) h3 (λi j pv hi hj=>h4 i j pv hi aND) (λi j pv hi hj=>h5 i j pv hi aND)
 | str s=>
  obtain ⟨_,rfl,hK⟩:=hK
  exact ⟨_,val,hK,hv,hr⟩
 | own id g off n=>
  obtain ⟨_,_,rfl,rfl,hK⟩:=hK
  exact ⟨_,val,hK,hv,hr⟩
 | _=>exact ⟨_,val,hK,hv,hr⟩
theorem LA (hT:fe P T) (hH:de μ h S w) (ht:∀t,cj μ h S w (env t) (a.tmps.getD t undef)) (t:Nat) (x:Operand) (lo hi mx:Option Operand) (hp:dA T (.slice t x lo hi mx) env h K):
  eT P ⟨dst,.slice t x lo hi mx,ty,pos,after,guard⟩ a μ h S w K:=by
 have hx:=dq ht x
 have hlo:=xT (λx=>dq ht x) (lo:=lo)
 have hhi:=xT (λx=>dq ht x) (lo:=hi)
 have hmx:=xT (λx=>dq ht x) (lo:=mx)
 unfold dA at hp
 simp only at hp
 have key:∀(K:PV->Prop) (e:TypeId) (i:TypeInfo) (sz n:Nat) (aa:Option Addr) (c:Nat) (R:Nat->Nat->PV),P.underlying t=some (.slice e)->P.info? e=some i->i.size=sz->a.eval x=.slice aa n c->n<=c->
   (∀l m mx,l<=m->m<=n->m<=mx->mx<=c->cj μ h S w (R l m) (.slice (if mx=l then aa else aa.map (·.add (l*sz))) (m - l) (mx - l)))->aeJ n (hi.map (ev env)) (mx.map (ev env))->
   (match lo.map (ev env),hi.map (ev env) with
    | none,none=>K (R 0 n)
    | some (.int _ l),none=>(0<=l/\l<=n)/\K (R l.toNat n)
    | none,some (.int _ m)=>(0<=m/\m<=n)/\K (R 0 m.toNat)
    | some (.int _ l),some (.int _ m)=>(0<=l/\l<=m/\m<=n)/\K (R l.toNat m.toNat)
    | _,_=>False)->eT P ⟨dst,.slice t x lo hi mx,ty,pos,after,guard⟩ a μ h S w K:=by
  intro K e i sz n aa c R hu nN qX ex hc hR hm hp
  subst qX
  have ox:=λw'=>O8 (P:=P) hu nN aa n c hc w'
  have fin:∀(l m q:Nat),l<=m->m<=n->m<=q->q<=c->K (R l m)->(∀w',(Instr.sliceAt t (.slice aa n c) (lo.map a.eval) (hi.map a.eval) (mx.map a.eval)).run P w'=.ok (sliced aa l m q i.size) w')->
    eT P ⟨dst,.slice t x lo hi mx,ty,pos,after,guard⟩ a μ h S w K:=λl m q h1 h2 h3 h4 hK hr=>.mk hK (hR l m q h1 h2 h3 h4) λw' _=>eK rfl (by rw [ex];exact hr w')
  unfold aeJ at hm
  split at hm
  ·rename_i e3
   have e3:=hmx.1 e3
   split at hp
   ·rename_i e1 e2
    exact fin 0 n c aNc aNc hc aNc hp λw'=>by rw [hlo.1 e1,hhi.1 e2,e3];exact (ox w').1
   ·rename_i k l e1 e2
    obtain ⟨⟨h0,h1⟩,hp⟩:=hp
    exact fin l.toNat n c aNc aNc hc aNc hp λw'=>by rw [hlo.2 _ _ e1,hhi.1 e2,e3];exact (ox w').2.1 _ _ h0 h1
   ·rename_i k m e1 e2
    obtain ⟨⟨h0,h1⟩,hp⟩:=hp
    exact fin 0 m.toNat c aNc aNc aNc aNc hp λw'=>by rw [hlo.1 e1,hhi.2 _ _ e2,e3];exact (ox w').2.2.1 _ _ h0 h1
   ·rename_i k l k' m e1 e2
    obtain ⟨⟨h0,h1,h2⟩,hp⟩:=hp
    exact fin l.toNat m.toNat c aNc aNc aNc aNc hp λw'=>by rw [hlo.2 _ _ e1,hhi.2 _ _ e2,e3];exact (ox w').2.2.2.1 _ _ _ _ h0 h1 h2
   ·exact aMG
  ·rename_i k'' q e3
   have e3:=hmx.2 _ _ e3
   split at hm
   ·rename_i k3 m e2'
    obtain ⟨hm1,hm2⟩:=hm
    rw [e2'] at hp
    split at hp
    ·rename_i e1 e2
     cases e2
    ·rename_i e1 e2
     cases e2
    ·rename_i k m' e1 e2
     injection e2 with e2
     injection e2 with ea eb
     subst ea
     subst eb
     obtain ⟨⟨h0,h1⟩,hp⟩:=hp
     exact fin 0 m.toNat q.toNat aNc aNc aNc aNc hp λw'=>by rw [hlo.1 e1,hhi.2 _ _ e2',e3];exact (ox w').2.2.2.2.1 _ _ _ _ h0 hm1 hm2
    ·rename_i k l k' m' e1 e2
     injection e2 with e2
     injection e2 with ea eb
     subst ea
     subst eb
     obtain ⟨⟨h0,h1,h2⟩,hp⟩:=hp
     exact fin l.toNat m.toNat q.toNat aNc aNc aNc aNc hp λw'=>by rw [hlo.2 _ _ e1,hhi.2 _ _ e2',e3];exact (ox w').2.2.2.2.2 _ _ _ _ _ _ h0 h1 hm1 hm2
    ·exact aMG
   ·exact hm.elim
  ·exact hm.elim
 split at hp
 ·rename_i e sz bt z cJ n f jP hex
  rw [hex] at hx
  replace hp:=bX hp
  obtain ⟨B1,hm,hp⟩:=hp
  obtain rfl:=No B1
  obtain ⟨hu,_,inf,zv,nN,qX,_⟩:=hT.slice _ _ _ _ _ jP
  have e0:(λi=>f (0+i))=f:=by funext i;rw [aKc]
  have hsl:=λl m (h1:l<=m) (h2:m<=n)=>Tr sz n f _ hx l m h1 h2
  obtain ⟨aa,c,ex,hc,_⟩:=hsl 0 0 (As _) (aLl _)
  have hc:n<=c:=by rcases hc with hc | hc<;>omega
  refine eT.choose ?_
  refine key (Lz K) e inf sz n aa c (λl m=>.ij sz (m - l) (λi=>f (l+i))) hu nN qX ex hc (λl m q h1 h2 h3 h4=>?_) hm ?_
  ·obtain ⟨aa',c',ex',_,hR⟩:=hsl l m h1 h2
   rw [ex] at ex'
   injection ex' with e1 e2 e3
   subst e1
   subst e3
   exact hR q h3 (.inl h4)
  ·simp only [e0,Nat.sub_zero]
   exact hp
 ·rename_i e sz bt z id gen off len jP hex
  rw [hex] at hx
  obtain ⟨hu,_,inf,zv,nN,qX,_⟩:=hT.slice _ _ _ _ _ jP
  split at hp
  ·rename_i g cJ n' e' f MI
   obtain ⟨rfl,hp⟩:=hp
   replace hp:=bX hp
   obtain ⟨B1,hm,hp⟩:=hp
   obtain rfl:=No B1
   have hh:=fY MI
   have hsl:=λl m (h1:l<=m) (h2:m<=len)=>Tq hT hH id g off len sz n' e' f hh _ hx l m h1 h2
   obtain ⟨aa,c,ex,hc,_⟩:=hsl 0 0 (As _) (aLl _)
   refine eT.choose ?_
   refine key (Lz K) e inf sz len aa c (λl m=>.own id g (off+l) (m - l)) hu nN qX ex hc (λl m q h1 h2 h3 h4=>?_) hm ?_
   ·obtain ⟨aa',c',ex',_,hR⟩:=hsl l m h1 h2
    rw [ex] at ex'
    injection ex' with e1 e2 e3
    subst e1
    subst e3
    exact hR q h3 h4
   ·exact hp
  ·exact aMG
 ·rename_i s jP hex
  rw [hex] at hx
  replace hp:=bX hp
  obtain ⟨hmn,hp⟩:=hp
  obtain rfl:mx=none:=by simpa using hmn
  refine eT.choose ?_
  generalize Lz K=K at*
  have ex:=hx.oF
  have hu:=hT.str _ jP
  have jO:(ByteArray.mk ⟨s⟩).size=s.length:=rfl
  have fin:∀(l m:Nat) (s':List UInt8),s'=(s.take m).drop l->K (.str s')->(∀w',(Instr.sliceAt t (.string ⟨⟨s⟩⟩) (lo.map a.eval) (hi.map a.eval) none).run P w'=.ok (.string ((ByteArray.mk ⟨s⟩).extract l m)) w')->
    eT P ⟨dst,.slice t x lo hi none,ty,pos,after,guard⟩ a μ h S w K:=λl m s' hs hK hr=>.mk hK (ba.str _) λw' _=>eK rfl (by rw [ex,hs,<-A9];exact hr w')
  simp only [Dx] at hp
  split at hp
  ·rename_i e1 e2
   exact fin 0 s.length s aNf hp λw'=>by rw [hlo.1 e1,hhi.1 e2,run_sliceAt_string w' _ _ _ _ _ hu,run_slice_string_all w' t ⟨⟨s⟩⟩ hu];rfl
  ·rename_i k l e1 e2
   obtain ⟨⟨h0,h1⟩,hp⟩:=hp
   exact fin l.toNat s.length _ aNf hp λw'=>by rw [hlo.2 _ _ e1,hhi.1 e2,run_sliceAt_string w' _ _ _ _ _ hu,run_slice_string_l w' t ⟨⟨s⟩⟩ hu k l h0 h1];rfl
  ·rename_i k m e1 e2
   obtain ⟨⟨h0,h1⟩,hp⟩:=hp
   exact fin 0 m.toNat _ aNf hp λw'=>by rw [hlo.1 e1,hhi.2 _ _ e2,run_sliceAt_string w' _ _ _ _ _ hu,run_slice_string_h w' t ⟨⟨s⟩⟩ hu k m h0 h1]
  ·rename_i k l k' m e1 e2
   obtain ⟨⟨h0,h1,h2⟩,hp⟩:=hp
   exact fin l.toNat m.toNat _ rfl hp λw'=>by rw [hlo.2 _ _ e1,hhi.2 _ _ e2,run_sliceAt_string w' _ _ _ _ _ hu,run_slice_string w' t ⟨⟨s⟩⟩ k k' l m hu h0 h1 h2]
  ·exact aMG
 ·exact aMG
theorem rm:∀(cs l:List PV) (off j:Nat),off+cs.length<=l.length->(gH l off cs)[j]? =if off<=j/\j<off+cs.length then cs[j - off]? else l[j]?
 | [],l,off,j,_=>by
  simp only [gH,mg,aKZ]
  rw [if_neg aNc]
 | c::r,l,off,j,hl=>by
  simp only [gH,an] at hl ⊢
  rw [rm r (l.set off c) (off+1) j aNl]
  by_cases h1:j=off
  ·subst h1
   rw [if_neg aNc,if_pos aNc,aLm,aKP aNc]
   rfl
  ·rw [aKs aNc]
   by_cases h2:off+1<=j/\j<off+1+r.length
   ·rw [if_pos h2,if_pos aNc]
    have:j - off=(j - (off+1))+1:=by omega
    rw [this,aKE]
   ·rw [if_neg h2,if_neg aNc]
theorem nu:∀(cs l:List PV) (off:Nat),(gH l off cs).length=l.length
 | [],_,_=>rfl
 | c::r,l,off=>by simp only [gH];rw [nu r];simp
theorem ba.no {pv:PV} {v:Value} (h:ba S w pv v):eh pv=false:=by cases h<;>rfl
theorem Q7 {c:PV} (h:Af c=true):eh c=false:=by cases c<;>first | rfl | cases h
theorem O9 {v:PV} (h:storable v=true) {j:Nat} {pv:PV} (hj:(cellsOf v)[j]? =some pv):eh pv=false:=by
 have hm:=aKl hj
 cases v with
 | agg cs=>exact Q7 (aKd.1 h pv hm)
 | _=>exact Q7 (by rw [aLM.1 hm];exact h)
theorem nv {pv:PV} {v:Value} (hs:storable pv=true) (hv:cj μ h S w pv v):
  v.cells.toList.length=(cellsOf pv).length/\∀(j:Nat) (p:PV),(cellsOf pv)[j]? =some p->∃u,v.cells.toList[j]? =some u/\cQ μ h S w p u:=by
 have one:∀(hc:cQ μ h S w pv v),cellsOf pv=[pv]->v.cells.toList.length=(cellsOf pv).length/\∀(j:Nat) (p:PV),(cellsOf pv)[j]? =some p->∃u,v.cells.toList[j]? =some u/\cQ μ h S w p u:=by
  intro hc he
  have h1:=hc.one
  have h2:v.cells=#[v]:=by cases v<;>first | rfl | cases h1
  rw [h2,he]
  refine ⟨rfl,λj p hj=>?_⟩
  cases j with
  | zero=>
   simp at hj
   subst hj
   exact ⟨v,rfl,hc⟩
  | succ j=>simp at hj
 cases pv with
 | agg cs=>
  obtain ⟨vs,rfl,h2,h3⟩:=hv
  refine ⟨by simpa [Value.cells,cellsOf] using h2,λj p hj=>?_⟩
  obtain ⟨u,hu,hr⟩:=h3 j p hj
  exact ⟨u,by simpa [Value.cells] using hu,hr⟩
 | fM vs=>cases hs
 | dI sz n e f F=>cases hs
 | jQ=>cases hs
 | qv id=>exact one hv rfl
 | se f df=>exact one hv rfl
 | int k n=>exact one hv rfl
 | bool b=>exact one hv rfl
 | str s=>exact one hv rfl
 | ck=>exact one hv rfl
 | iF=>exact one hv rfl
 | ij sz n f=>exact one hv rfl
 | gD cs=>exact one hv rfl
 | own id gen off len=>exact one hv rfl
 | aA id gen i off=>exact one hv rfl
 | fn f=>exact one hv rfl
theorem GG:∀(l:List Value) (s off:Nat) (cs:Array Value),off+s+l.length<=cs.size->
  ((l.zipIdx s).foldl (λ(cs:Array Value) (p:Value×Nat)=>cs.setIfInBounds (off+p.2) p.1) cs).size=cs.size/\
  ∀q,((l.zipIdx s).foldl (λ(cs:Array Value) (p:Value×Nat)=>cs.setIfInBounds (off+p.2) p.1) cs)[q]? =if off+s<=q/\q<off+s+l.length then l[q - (off+s)]? else cs[q]?
 | [],s,off,cs,_=>by
  refine ⟨rfl,λq=>?_⟩
  simp only [List.zipIdx_nil,List.foldl_nil,mg,aKZ]
  rw [if_neg aNc]
 | v::r,s,off,cs,hl=>by
  simp only [an] at hl
  obtain ⟨h1,h2⟩:=GG r (s+1) off (cs.setIfInBounds (off+s) v) aNl
  simp only [List.zipIdx_cons,List.foldl_cons,an]
  refine ⟨by rw [h1];simp,λq=>?_⟩
  rw [h2 q]
  by_cases hq:q=off+s
  ·subst hq
   rw [if_neg aNc,if_pos aNc,aLm]
   simp [Array.getElem?_setIfInBounds,show off+s<cs.size from by omega]
  ·by_cases hr:off+(s+1)<=q/\q<off+(s+1)+r.length
   ·rw [if_pos hr,if_pos aNc]
    have:q - (off+s)=(q - (off+(s+1)))+1:=by omega
    rw [this,aKE]
   ·rw [if_neg hr,if_neg aNc,aLI aNc]
theorem uC (v:Value) (off:Nat) (cs:Array Value) (hl:off+v.cells.size<=cs.size):
  (v.cells.zipIdx.foldl (λ(cs:Array Value) (p:Value×Nat)=>cs.setIfInBounds (off+p.2) p.1) cs).size=cs.size/\
  ∀q,(v.cells.zipIdx.foldl (λ(cs:Array Value) (p:Value×Nat)=>cs.setIfInBounds (off+p.2) p.1) cs)[q]? =if off<=q/\q<off+v.cells.size then v.cells[q - off]? else cs[q]? :=by
 have h:=GG v.cells.toList 0 off cs (by simpa using hl)
 rw [<-Array.foldl_toList]
 simp only [Array.toList_zipIdx,aKZ,aLj,aKG] at h ⊢
 exact h
theorem Pa {l:List PV} (hb:isByte l=true):∃v,l=[.int .u8 v]:=by
 unfold isByte at hb
 split at hb
 ·exact aMK
 ·cases hb
theorem Dy {g:Nat->List PV} {s:List UInt8} {n:Nat} (hl:s.length=n) (hf:∀i,i<n->g i=[.int .u8 (s.getD i 0).toNat]):(∀i,i<n->isByte (g i)=true)/\(List.range n).map (λi=>byteOf (g i))=s:=by
 refine ⟨λi hi=>by rw [hf i hi];rfl,?_⟩
 apply List.ext_getElem (by simp [hl])
 intro i h1 h2
 simp only [aLB,List.length_range] at h1
 rw [List.getElem_map,List.getElem_range,hf i h1]
 simp [byteOf,aKb,Of h2]
theorem FB (hT:fe P T) (hH:de μ h S w) (ht:∀t,cj μ h S w (env t) (a.tmps.getD t undef)) (s d:Nat) (x:Operand) (hp:dA T (.convert s d x) env h K):
  eT P ⟨dst,.convert s d x,ty,pos,after,guard⟩ a μ h S w K:=by
 have hx:=dq ht x
 unfold dA at hp
 simp only at hp
 split at hp
 ·rename_i k0 k k1 n hs hd hex
  rw [hex] at hx
  exact .mk hp (ba.int _ _) λw' _=>eK rfl (by
   rw [hx.mh]
   simp [convert,run_underlying (hT.int _ _ hs),run_underlying (hT.int _ _ hd),Conv.intToInt])
 ·rename_i e sz bt z hs hd
  split at hp
  ·rename_i hte
   have hu:=(hT.slice _ _ _ _ _ hs).1
   have hue:=hT.int _ _ hte
   have hud:=hT.str _ hd
   have key:∀(b off c n:Nat) (g:Nat->List PV),a.eval x=.slice (some ⟨b,off,none⟩) n c->(∀i,i<n->isByte (g i)=true)->K (.str ((List.range n).map λi=>byteOf (g i)))->
     (∀i v,i<n->g i=[.int .u8 v]->w.cell? ⟨b,off+i,none⟩=some (.int .u8 v))->eT P ⟨dst,.convert s d x,ty,pos,after,guard⟩ a μ h S w K:=by
    intro b off c n g ex hb hK bB
    have num:∀i,i<n->∃v,g i=[.int .u8 v]:=λi hi=>Pa (hb i hi)
    let val:Nat->Int:=λi=>match g i with | [.int _ v]=>v | _=>0
    have zP:∀i,i<n->g i=[.int .u8 (val i)]:=λi hi=>by
     obtain ⟨v,hv⟩:=num i hi
     simp only [val,hv]
    refine .mk hK (ba.str _) λw' ha=>eK rfl ?_
    rw [ex,run_convert_bytes_arg w' s e hu hue b off n c ((List.range n).map val) aNf (λi hi=>?_) d hud]
    ·congr 2
     simp only [strOfNums]
     have:((List.range n).map val).map (λq=>UInt8.ofNat q.toNat)=(List.range n).map λi=>byteOf (g i):=by
      rw [List.map_map]
      apply List.map_congr_left
      intro i hi
      rw [zP i (aLL.1 hi)]
      rfl
     rw [this]
    ·rw [ha.cell (bB i _ hi (zP i hi))]
     simp [aKb,hi]
   unfold xU at hp
   split at hp
   ·rename_i hex
    rw [hex] at hx
    refine .mk hp (ba.str _) λw' _=>eK rfl ?_
    rw [hx.qt,run_convert_bytes_nil w' s e hu hue 0 0 d hud]
    rfl
   ·rename_i cJ n f hex
    rw [hex] at hx
    replace hp:=bX hp
    obtain ⟨h1,s0,JY,hf0,hK⟩:=hp
    obtain ⟨hb,hs0⟩:=Dy JY hf0
    replace hK:K (.str s0):=hK
    rw [<-hs0] at hK
    clear JY hf0 hs0
    obtain rfl:=No h1
    rcases hx.wC with ⟨aa,c,ex,rfl⟩ | ⟨b,off,c,vf,ex,hS,hl,hc,bB,pt⟩
    ·cases aa with
     | none=>
      refine .mk hK (ba.str _) λw' _=>eK rfl ?_
      rw [ex,run_convert_bytes_nil w' s e hu hue 0 c d hud]
      rfl
     | some ad=>
      refine .mk hK (ba.str _) λw' _=>eK rfl ?_
      rw [ex,run_convert_bytes_string w' s d e _ 0 c hu hue hud,run_bytesToString w' ad 0 c [] (by simp [loadCells,loadCellsFrom])]
      rfl
    ·refine key b off c n f ex hb hK λi v hi hv=>?_
     have q1:=bB i 0 (.int .u8 v) hi (by rw [hv];rfl)
     have q2:=pt i 0 (.int .u8 v) hi (by rw [hv];rfl)
     rw [Nat.mul_one,aKZ] at q1
     rw [q1]
     generalize vf i 0=u at q2
     cases q2
     rfl
   ·rename_i id gen off n hex
    rw [hex] at hx
    split at hp
    ·rename_i g cJ n' e' f MI
     obtain ⟨rfl,hp⟩:=hp
     replace hp:=bX hp
     obtain ⟨h1,s0,JY,hf0,hK⟩:=hp
     obtain ⟨hb,hs0⟩:=Dy (g:=λi=>f (off+i)) JY hf0
     replace hK:K (.str s0):=hK
     rw [<-hs0] at hK
     clear JY hf0 hs0
     obtain rfl:=No h1
     have hh:=fY MI
     have hr:=hx.pV
     unfold bG at hr
     rw [hh] at hr
     obtain ⟨⟨a0,l0,c0,e0⟩,_,hr⟩:=hr
     obtain ⟨hln,hr⟩:=hr rfl
     obtain ⟨hl,hc⟩:=hH id g 1 n' e' f hh
     cases hm:μ id with
     | none=>
      rw [hm] at hr hc
      have hn0:n=0:=by omega
      subst hn0
      refine .mk hK (ba.str _) λw' _=>eK rfl ?_
      rw [show a.eval x=.slice none 0 0 from hr,run_convert_bytes_nil w' s e hu hue 0 0 d hud]
      rfl
     | some p=>
      obtain ⟨b,base⟩:=p
      rw [hm] at hr hc
      obtain ⟨ad,cap,ex,ic,yt,O7⟩:=hr
      obtain ⟨cur,sd,wY,bB⟩:=de.cells O7 hc
      rcases aLf n with h0 | h0
      ·subst h0
       refine .mk hK (ba.str _) λw' _=>eK rfl ?_
       rw [ex,run_convert_bytes_string w' s d e _ 0 cap hu hue hud,run_bytesToString w' ad 0 cap [] (by simp [loadCells,loadCellsFrom])]
       rfl
      ·rw [yt aNc,Nat.mul_one] at ex
       refine key b (base+off) cap n (λi=>f (off+i)) ex hb hK λi v hi hv=>?_
       obtain ⟨u,q1,q2⟩:=bB (off+i) 0 (.int .u8 v) aNc (by rw [hv];rfl)
       have q2:ba S w (.int .u8 v) u:=q2
       cases q2
       rw [cell_of_row w b (base+off+i) cur e' (0,0) sd,<-q1]
       congr 1
       omega
    ·exact aMG
   ·exact aMG
  ·exact aMG
 ·exact aMG
theorem Dz (ht:∀t,cj μ h S w (env t) (a.tmps.getD t undef)) (x:Operand) (hp:dA T (.nilCheck x) env h K):
  eT P ⟨dst,.nilCheck x,ty,pos,after,guard⟩ a μ h S w K:=by
 have hx:=dq ht x
 unfold dA at hp
 simp only at hp
 split at hp
 ·rename_i cs hex
  rw [hex] at hx
  obtain ⟨b,off,vf,ex,_⟩:=hx.zb
  exact .mk hp hx λw' _=>by simp [execOp,ex]
 ·rename_i id gen i off hex
  rw [hex] at hx
  split at hp
  ·rename_i g sz n e f MI
   obtain ⟨rfl,hp⟩:=hp
   have hh:=fY MI
   have hr:=hx.vH
   unfold cN at hr
   rw [hh] at hr
   obtain ⟨_,_,hr⟩:=hr
   obtain ⟨hin,b,base,ju,O7,hv⟩:=hr rfl
   exact .mk hp hx λw' _=>by simp [execOp,hv]
  ·exact aMG
 ·exact aMG
theorem Ba (hT:fe P T) {s sz k o size:Nat} {fl:List (Nat×Nat×Bool)} {z:List PV} {ag:Bool} (jP:T.get s=.struct sz fl z) (hk:fl[k]? =some (o,size,ag)) (b off:Nat) (w':World):
  (Instr.fieldAt s (.pointer (some ⟨b,off,none⟩)) k).run P w'=.ok (.pointer (some ⟨b,off+o,none⟩)) w':=by
 obtain ⟨fs,i,hu,hi,jO,hfl,_,hf⟩:=hT.struct _ _ _ _ jP
 obtain ⟨f,j,d,h1,h2,h3,h4,h5,h6,h7⟩:=hf k o size ag hk
 have h0:¬j.size=0:=by omega
 simp [Instr.fieldAt,run_underlying hu,h1,Instr.sureAddr,fieldPlace,mi h3,h0,Addr.add_lit,h2]
theorem BH (hT:fe P T) (ht:∀t,cj μ h S w (env t) (a.tmps.getD t undef)) (s:Nat) (x:Operand) (k:Nat) (hp:dA T (.fieldAddr s x k) env h K):
  eT P ⟨dst,.fieldAddr s x k,ty,pos,after,guard⟩ a μ h S w K:=by
 have hx:=dq ht x
 unfold dA at hp
 simp only at hp
 split at hp
 ·rename_i sz fl z jP
  split at hp
  ·rename_i o size ag hk
   split at hp
   ·rename_i cs hex
    rw [hex] at hx
    obtain ⟨b,off,vf,ex,hS,bB,pt⟩:=hx.zb
    refine .mk hp (ba.gD (cs.drop o) b (off+o) (λj=>vf (o+j)) hS (λj pv hj=>?_) (λj pv hj=>?_)) λw' _=>eK rfl (by rw [ex];exact Ba hT jP hk b off w')
    ·rw [aLe] at hj
     rw [aLO]
     exact bB _ _ hj
    ·rw [aLe] at hj
     exact pt _ _ hj
   ·rename_i id gen i off hex
    rw [hex] at hx
    split at hp
    ·rename_i g cJ n e f MI
     obtain ⟨rfl,hp⟩:=hp
     have hh:=fY MI
     have hr:=hx.vH
     unfold cN at hr
     rw [hh] at hr
     obtain ⟨_,_,hr⟩:=hr
     obtain ⟨hin,b,base,ju,O7,hv⟩:=hr rfl
     refine .mk hp ?_ λw' _=>eK rfl (by rw [hv];exact Ba hT jP hk b _ w')
     show cN _ _ _ _ _ _ _ _
     unfold cN
     rw [hh]
     exact ⟨⟨_,rfl⟩,As _,λ_=>⟨hin,b,base,ju,O7,by simp only [aLO]⟩⟩
    ·exact aMG
   ·exact aMG
  ·exact aMG
 ·exact aMG
theorem zf (ht:∀t,cj μ h S w (env t) (a.tmps.getD t undef)) (sz:Nat) (fl:List (Nat×Nat×Bool)) (place:Nat->Option (Nat×Nat)) (hpl:∀(k o size:Nat) (ag:Bool),fl[k]? =some (o,size,ag)->place k=some (o,size)) {K:List PV->Prop}:
  ∀(l:List (Nat×Operand)) (acc:List PV) (cells:Array Value),qw env sz fl K l acc->cells.size=sz->acc.length=sz->(∀(j:Nat) (pv:PV),acc[j]? =some pv->∃u,cells[j]? =some u/\cQ μ h S w pv u)->
  ∃Ts jH,K Ts/\Instr.fill place cells (l.map λp=>(p.1,a.eval p.2))=some jH/\jH.size=sz/\Ts.length=sz/\∀(j:Nat) (pv:PV),Ts[j]? =some pv->∃u,jH[j]? =some u/\cQ μ h S w pv u
 | [],acc,cells,hp,hs,hl,hr=>⟨acc,cells,hp,rfl,hs,hl,hr⟩
 | (k,x)::r,acc,cells,hp,hs,hl,hr=>by
  unfold qw at hp
  split at hp
  ·rename_i o size ag hk
   replace hp:=bX (dW hp)
   obtain ⟨vI,hp⟩:=hp
   simp only [At] at vI
   obtain ⟨⟨Ag,hlen⟩,wY⟩:=vI
   have hlen:=No hlen
   have wY:=aKw wY
   obtain ⟨h3,h4⟩:=nv Ag (dq ht x)
   simp only [aLj,aKG] at h3 h4
   have hvs:(a.eval x).cells.size=size:=h3.trans hlen
   obtain ⟨g1,g2⟩:=uC (a.eval x) o cells aNc
   obtain ⟨Ts,jH,q1,q2,q3⟩:=zf ht sz fl place hpl r (gH acc o (cellsOf (ev env x))) ((a.eval x).cells.zipIdx.foldl (λ(cs:Array Value) (p:Value×Nat)=>cs.setIfInBounds (o+p.2) p.1) cells) hp (g1.trans hs) (by rw [nu];exact hl)
    (λj pv hj=>by
     rw [rm _ _ _ _ aNc] at hj
     rw [g2 j]
     by_cases hc:o<=j/\j<o+size
     ·rw [if_pos aNc] at hj
      rw [if_pos aNc]
      exact h4 _ _ hj
     ·rw [if_neg aNc] at hj
      rw [if_neg aNc]
      exact hr j pv hj)
   refine ⟨Ts,jH,q1,?_,q3⟩
   simp only [aKp,Instr.fill,hpl k o size ag hk]
   rw [if_neg (by simp only [hvs,ne_eq,not_true_eq_false,false_or];simp only [aLi,decide_eq_true_eq,not_or];simp;omega)]
   exact q2
  ·exact aMG
theorem GH:∀(fs:List Field) (n:Nat) (fl:List (Nat×Nat×Bool)),fl.length=fs.length->
  (∀(k o size:Nat) (ag:Bool),fl[k]? =some (o,size,ag)->∃f j,fs[k]? =some f/\f.offset=o/\P.info? f.type=some j/\j.size=size)->
  fs.mapM (λf=>(P.info? f.type).map λi=>(f.offset,i.size))=some (fl.map λq=>(q.1,q.2.1))
 | [],n,[],_,_=>rfl
 | f::fs,n,(o,size,ag)::fl,hl,hf=>by
  obtain ⟨f',j,h1,h2,h3,h4⟩:=hf 0 o size ag rfl
  simp at h1
  subst h1
  have ih:=GH fs n fl (by simpa using hl) (λk o size ag hk=>by
   obtain ⟨f,j,q⟩:=hf (k+1) o size ag (by simpa using hk)
   exact ⟨f,j,by simpa using q⟩)
  simp only [List.mapM_cons,aKp,h3,Option.map_some,Option.bind_eq_bind,aLT,ih,h2,h4]
  rfl
theorem LB (hT:fe P T) (ht:∀t,cj μ h S w (env t) (a.tmps.getD t undef)) (t:Nat) (parts:Array (Nat×Operand)) (hp:dA T (.build t parts) env h K):
  eT P ⟨dst,.build t parts,ty,pos,after,guard⟩ a μ h S w K:=by
 unfold dA at hp
 simp only at hp
 split at hp
 ·rename_i sz fl z jP
  obtain ⟨fs,i,hu,hi,jO,hfl,⟨zv,hz,hzs,hzl,hzc⟩,hf⟩:=hT.struct _ _ _ _ jP
  have hpl:=GH (P:=P) fs.toList 0 fl (by simpa using hfl) (λk o size ag hk=>by
   obtain ⟨f,j,d,h1,h2,h3,h4,_⟩:=hf k o size ag hk
   exact ⟨f,j,by simpa using h1,h2,h3,h4⟩)
  obtain ⟨Ts,jH,q1,q2,q3,q4,q5⟩:=zf (a:=a) (μ:=μ) (h:=h) (S:=S) (w:=w) ht sz fl ((fl.map λq=>(q.1,q.2.1)).toArray[·]?) (λk o size ag hk=>by simp [hk]) parts.toList z zv.cells hp hzs hzl (λj pv hj=>by
   have Ub:j<zv.cells.size:=by
    have:=(An.1 hj).1
    omega
   obtain ⟨gy,h5,_,h6⟩:=hzc j zv.cells[j] (aKA Ub)
   rw [hj] at h5
   injection h5 with h5
   subst h5
   exact ⟨_,aKA Ub,cQ.lB (h6 S w)⟩)
  refine .mk q1 ⟨jH,rfl,by omega,q5⟩ λw' _=>eK rfl (run_build w' t _ jH ?_)
  unfold Program.built
  simp only [hi,hu,hz,hpl]
  have:(parts.map λp=>(p.1,a.eval p.2)).toList=parts.toList.map λp=>(p.1,a.eval p.2):=by simp
  rw [this]
  exact q2
 ·exact aMG
theorem LC {P:Program} {t:TypeId} {d:TypeDesc} {j:TypeInfo} (hu:P.underlying t=some d) (hi:P.info? t=some j) (cs:Array Value) (off:Nat) (w:World):
  (part t cs off).run P w=if Fy d then .ok (.agg (cs.extract off (off+j.size))) w else match cs[off]? with | some v=>.ok v w | none=>(part t cs off).run P w:=by
 cases hd:Fy d with
 | true=>simp [part,zd hu,hd,mi hi]
 | false=>
  simp only [amb,if_false]
  cases hc:cs[off]? with
  | none=>rfl
  | some v=>simp [part,zd hu,hd,hc]
theorem LD (hT:fe P T) (ht:∀t,cj μ h S w (env t) (a.tmps.getD t undef)) (s:Nat) (x:Operand) (k:Nat) (hp:dA T (.field s x k) env h K):
  eT P ⟨dst,.field s x k,ty,pos,after,guard⟩ a μ h S w K:=by
 have hx:=dq ht x
 unfold dA at hp
 simp only at hp
 split at hp
 ·rename_i sz fl z jP
  split at hp
  ·rename_i o size ag hk
   split at hp
   ·rename_i cs hex
    rw [hex] at hx
    obtain ⟨vs,ex,jO,hv⟩:=hx
    obtain ⟨fs,i,hu,hi,qX,hfl,_,hf⟩:=hT.struct _ _ _ _ jP
    obtain ⟨f,j,d,h1,h2,h3,h4,h5,h6,h7⟩:=hf k o size ag hk
    have ox:∀w' v,(part f.type vs f.offset).run P w'=.ok v w'->(execOp a.eval ⟨dst,.field s x k,ty,pos,after,guard⟩).run P w'=.ok (.value v) w':=λw' v hr=>eK rfl (by
     rw [ex]
     simp [Instr.field,run_underlying hu,h1,hr,asAgg])
    split at hp
    ·obtain ⟨hle,hK⟩:=qu _ _ _ hp
     simp only [aLQ,aKk,aKS] at hK hle
     refine .mk hK (val:=.agg (vs.extract o (o+size))) ⟨_,rfl,by simp;omega,λq pv hq=>?_⟩ λw' _=>ox w' _ (by rw [LC h6 h3,<-h7,if_pos rfl,h2,h4])
     rw [aLC] at hq
     split at hq
     ·rename_i bc
      rw [aLe] at hq
      obtain ⟨u,hu1,hu2⟩:=hv _ _ hq
      refine ⟨u,?_,hu2⟩
      rw [Array.getElem?_extract]
      have:o+q<vs.size:=(abF.1 hu1).1
      rw [if_pos aNc]
      exact hu1
     ·cases hq
    ·split at hp
     ·rename_i c r hd
      have h0:cs[o]? =some c:=by
       have:=congrArg (·[0]?) hd
       simpa using this
      obtain ⟨u,hu1,hu2⟩:=hv _ _ h0
      exact .mk (dW hp) hu2.v λw' _=>ox w' _ (by rw [LC h6 h3,<-h7,h2];simp [hu1])
     ·exact aMG
   ·exact aMG
  ·exact aMG
 ·exact aMG
theorem FA.aeK {pv:PV} {v:Value} (hs:qs pv=true) (hr:FA pv v):cj μ h S w pv v:=by
 have one:∀(pv:PV) (v:Value),GI pv=true->DA pv v->cQ μ h S w pv v:=λpv v hs hr=>by
  cases pv<;>first | (cases hs;done) | (have hr:v=_:=hr;subst hr;first | exact ba.int _ _ | exact ba.bool _ | exact ba.str _) | exact hr
 cases pv with
 | agg cs=>
  obtain ⟨vs,h1,h2,h3⟩:=hr
  exact ⟨vs,h1,h2,λj pv hj=>let ⟨u,hu,hc⟩:=h3 j pv hj;⟨u,hu,one pv u (aKd.1 hs _ (aKl hj)) hc⟩⟩
 | jQ=>trivial
 | int k n=>exact one (.int k n) v rfl hr
 | bool b=>exact one (.bool b) v rfl hr
 | str s=>exact one (.str s) v rfl hr
 | _=>cases hs
theorem oy (hT:fe P T) (hH:de μ h S w) (ht:∀t,cj μ h S w (env t) (a.tmps.getD t undef)) {op:Op} (hp:dA T op env h K):
  eT P ⟨dst,op,ty,pos,after,guard⟩ a μ h S w K:=by
 cases op with
 | lookup t x i ok=>exact (show False from hp).elim
 | makeFunc fn first captured=>exact (show False from hp).elim
 | move x=>exact .mk (dW hp) (dq ht x) λ_ _=>rfl
 | assign x=>exact .mk (dW hp) (dq ht x) λ_ _=>rfl
 | pick c x y=>
  have hc:=dq ht c
  simp only [dA] at hp
  split at hp
  ·rename_i b hex
   rw [hex] at hc
   have ec:=hc.ns
   obtain ⟨h1,h2⟩:=kV hp
   cases b with
   | true=>exact .mk (dW (h1 rfl)) (dq ht x) λw' _=>by simp [execOp,ec,asBool]
   | false=>exact .mk (dW (h2 rfl)) (dq ht y) λw' _=>by simp [execOp,ec,asBool]
  ·exact aMG
 | binOp bo t x y t'=>exact Tn hT bo t t' x y _ _ (dq ht x) (dq ht y) hp
 | unOp u t x=>
  have hx:=dq ht x
  simp only [dA] at hp
  split at hp
  ·rename_i b hex
   rw [hex] at hx
   exact .mk hp (ba.bool _) λw' _=>eK rfl (by rw [hx.ns,unary_not];rfl)
  ·rename_i k n hex
   rw [hex] at hx
   exact .mk hp (ba.int _ _) λw' _=>eK rfl (by rw [hx.mh,unary_neg];rfl)
  ·exact aMG
 | load t x=>exact Dv hT hH t x _ (dq ht x) hp
 | convert s d x=>exact FB hT hH ht s d x hp
 | nilCheck x=>exact Dz ht x hp
 | fieldAddr s x k=>exact BH hT ht s x k hp
 | build t parts=>exact LB hT ht t parts hp
 | field s x k=>exact LD hT ht s x k hp
 | indexAddr t x i=>exact Ly hT hH ht t x i hp
 | index t x i=>exact Dw hT ht t x i hp
 | extract x i=>
  have hx:=dq ht x
  simp only [dA] at hp
  split at hp
  ·rename_i vs hex
   rw [hex] at hx
   split at hp
   ·rename_i v hv
    obtain ⟨us,e1,e2,e3⟩:=hx
    obtain ⟨u,hu,hr⟩:=e3 i v hv
    have hr':cj μ h S w v u:=by
     cases v with
     | fM ps=>exact (show False from hr).elim
     | _=>exact hr
    exact .mk (dW hp) hr' λw' _=>eK rfl (by rw [e1];simp [Instr.extract,hu])
   ·exact aMG
  ·exact aMG
 | slice t x lo hi mx=>exact LA hT hH ht t x lo hi mx hp
 | call c=>
  obtain ⟨cal,args,ts⟩:=c
  cases cal with
  | builtin b=>cases b with
   | len=>exact Tp hT hH ht args ts hp
   | _=>exact (show False from hp).elim
  | _=>exact (show False from hp).elim
 | _=>exact (show False from hp).elim
end
section
variable {P:Program} {T:qq} {μ:Mu} {h:List al} {S:Nat->Prop} {w w1:World}
def nU (μ:Mu) (id:Nat) (p:Option (Nat×Nat)):Mu:=λj=>if j=id then p else μ j
theorem bH (μ:Mu) (id:Nat) (p:Option (Nat×Nat)):nU μ id p id=p:=by simp [nU]
theorem dr (μ:Mu) {id j:Nat} (p:Option (Nat×Nat)) (hj:j≠id):nU μ id p j=μ j:=by simp [nU,hj]
structure Core (μ:Mu) (h:List al) (S:Nat->Prop) (w:World):Prop where
 heap:de μ h S w
 ok:tQ μ h S w
theorem DB (hc:Core μ h S w) (id g g1 sz n n1:Nat) (e:TypeId) (f f1:Nat->List PV) (hh:h[id]? =some (al.row g sz n e f)) (b1 sS:Nat) (lJ:Array Value)
  (hg:g<=g1) (hg1:g1=g->μ id=some (b1,sS)/\n1=n)
  (hb:w.heap.size<=b1\/∃base cur,μ id=some (b1,base)/\w.heap[b1]? =some (.cells cur e (0,0))/\cur.size=lJ.size)
  (hw:w1.heap[b1]? =some (.cells lJ e (0,0))) (wY:sS+n1*sz<=lJ.size)
  (jI:∀b,b<w.heap.size->b≠b1->w1.heap[b]? =w.heap[b]?) (zg:w.heap.size<=w1.heap.size) (hos:w1.os=w.os) (aa5:w1.tape=w.tape) (aa6:w1.output=w.output)
  (hl:∀i,i<n1->(f1 i).length=sz) (Tm:∀b base,μ id=some (b,base)->¬rS w b)
  (bB:∀(i j:Nat) (pv:PV),i<n1->(f1 i)[j]? =some pv->∃v:Value,lJ[sS+i*sz+j]? =some v/\pz μ h S w pv v) (LF:Nat)
  (vJ:∀(i j cJ n':Nat) (e':TypeId) (f':Nat->List PV) (F':Nat->Prop),i<n1->(f1 i)[j]? =some (.dI cJ n' e' f' F')->LF+i<n/\(f (LF+i))[j]? =some (.dI cJ n' e' f' F')):
  Fr μ h S w (nU μ id (some (b1,sS))) (h.set id (.row g1 sz n1 e f1)) S w1/\Core (nU μ id (some (b1,sS))) (h.set id (.row g1 sz n1 e f1)) S w1:=by
 have hid:id<h.length:=(An.1 hh).1
 have kW:(h.set id (al.row g1 sz n1 e f1))[id]? =some (al.row g1 sz n1 e f1):=by simp [hid]
 have dB:∀j,j≠id->(h.set id (al.row g1 sz n1 e f1))[j]? =h[j]? :=λj hj=>by rw [aKs (aLo hj)]
 have aa7:b1<w1.heap.size:=(abF.1 hw).1
 have vK:b1<w.heap.size->dx μ h b1:=λbc=>by
  rcases hb with hb | ⟨base,cur,hm,_,_⟩
  ·omega
  ·exact .inl ⟨id,g,sz,n,e,f,base,hh,hm⟩
 have eU:∀j x y b,eA (h.set id (al.row g1 sz n1 e f1)) j x y b->eA h j (if j=id then LF+x else x) y b:=λj x y b ⟨gj,mF,nj,ej,fj,cJ,n',e',f',F',q1,q2,q3,q4⟩=>by
  by_cases ie:j=id
  ·subst ie
   rw [kW] at q1
   injection q1 with q1
   injection q1 with e1 e2 e3 e4 e5
   subst e1 e2 e3 e4 e5
   obtain ⟨r1,r2⟩:=vJ x y _ _ _ _ _ q2 q3
   rw [if_pos rfl]
   exact ⟨_,_,_,_,_,_,_,_,_,_,hh,r1,r2,q4⟩
  ·rw [dB j ie] at q1
   rw [if_neg ie]
   exact ⟨_,_,_,_,_,_,_,_,_,_,q1,q2,q3,q4⟩
 have xi:∀j x y b,eA h j x y b->b<w.heap.size/\b≠b1:=λj x y b hx=>by
  have bc:=hc.ok.lt b (.inr ⟨j,x,y,hx⟩)
  refine ⟨bc,?_⟩
  rintro rfl
  rcases hb with hb | ⟨base,cur,hm,_,_⟩
  ·omega
  ·exact hc.ok.hv b ⟨id,g,sz,n,e,f,base,hh,hm⟩ j x y hx
 have lu:Fr μ h S w (nU μ id (some (b1,sS))) (h.set id (.row g1 sz n1 e f1)) S w1:=by
  refine ⟨by simp,λb bc Ah=>?_,λ_ hb=>hb,λ_ hb=>.inl hb,λb sd=>?_,zg,hos,aa5,aa6,λj gj mF nj ej fj hj=>?_,λj hj=>?_,λb k Bb ic=>?_,λj gj mF nj ej fj b base hj hm nI=>?_,λb j x y hx nI=>?_⟩
  rotate_right
  ·obtain ⟨q1,q2⟩:=xi j x y b hx
   obtain ⟨es,c,q⟩:=nI
   exact ⟨es,c,(jI b q1 q2).trans q⟩
  ·by_cases Is:b=b1
   ·subst Is;exact (Ah (vK bc)).elim
   ·exact jI b bc Is
  ·rcases sd with ⟨j,gj,mF,nj,ej,fj,qy,hj,hm⟩ | ⟨j,x,y,hx⟩
   rotate_left
   ·exact .inl (.inr ⟨_,_,_,eU j x y b hx⟩)
   by_cases ie:j=id
   ·subst ie
    rw [bH] at hm
    injection hm with hm
    injection hm with h1 h2
    subst h1
    rcases aKX b1 w.heap.size with bc | Q8
    ·exact .inl (vK bc)
    ·exact .inr Q8
   ·rw [dB j ie] at hj
    rw [dr μ _ ie] at hm
    exact .inl (.inl ⟨j,gj,mF,nj,ej,fj,qy,hj,hm⟩)
  ·by_cases ie:j=id
   ·subst ie
    rw [hh] at hj
    injection hj with hj
    injection hj with e1 e2 e3 e4 e5
    subst e1 e2 e3 e4 e5
    rw [kW]
    refine ⟨hg,λhe=>?_⟩
    obtain ⟨h1,h2⟩:=hg1 he
    exact ⟨by rw [bH,h1],rfl,h2,rfl⟩
   ·rw [dB j ie,hj]
    exact ⟨As _,λ_=>⟨dr μ _ ie,rfl,rfl,rfl⟩⟩
  ·have ie:j≠id:=by rintro rfl;rw [hh] at hj;cases hj
   rw [dB j ie];exact hj
  ·by_cases Is:b=b1
   ·subst Is
    obtain ⟨cur,e',z,q1,q2⟩:=ic
    rcases hb with hb | ⟨base,BI,hm,ny,jO⟩
    ·have:=(abF.1 q1).1;omega
    ·rw [ny] at q1
     injection q1 with q1
     injection q1 with q1 _ _
     subst q1
     exact ⟨lJ,e,_,hw,by omega⟩
   ·exact kX.of_same (jI b ic.lt Is) ic
  ·have ie:j≠id:=by rintro rfl;exact Tm b base hm nI
   have Is:b≠b1:=by
    rintro rfl
    obtain ⟨es,c,q⟩:=nI
    rcases hb with hb | ⟨rn,BI,Je,ny,_⟩
    ·have:=(abF.1 q).1;omega
    ·rw [ny] at q;cases q
   obtain ⟨es,c,q⟩:=nI
   exact ⟨⟨es,c,(jI b (abF.1 q).1 Is).trans q⟩,.inr ⟨⟨_,_,_,_,_,(dB j ie).trans hj⟩,by rw [dr μ _ ie];exact hm⟩⟩
 refine ⟨lu,⟨λj gj mF nj ej fj hj=>?_,?_⟩⟩
 ·by_cases ie:j=id
  ·subst ie
   rw [kW] at hj
   injection hj with hj
   injection hj with e1 e2 e3 e4 e5
   subst e1 e2 e3 e4 e5
   rw [bH]
   refine ⟨hl,de.DC ⟨lJ,hw,wY,λi k pv hi hk=>?_⟩⟩
   obtain ⟨v,h1,h2⟩:=bB i k pv hi hk
   refine ⟨v,h1,h2.fr lu hc.ok (λcJ n' e' f' F' he b sd=>?_)⟩
   rw [he] at hk
   obtain ⟨r1,r2⟩:=vJ i k _ _ _ _ _ hi hk
   obtain ⟨q1,q2⟩:=xi j (LF+i) k b ⟨_,_,_,_,_,_,_,_,_,_,hh,r1,r2,sd⟩
   exact jI b q1 q2
  ·rw [dB j ie] at hj
   obtain ⟨h1,h2⟩:=hc.heap j gj mF nj ej fj hj
   refine ⟨h1,?_⟩
   rw [dr μ _ ie]
   cases hm:μ j with
   | none=>rw [hm] at h2;exact h2
   | some p=>
    obtain ⟨b,base⟩:=p
    rw [hm] at h2
    obtain ⟨o,q1,q2⟩:=h2
    have bc:b<w.heap.size:=(abF.1 q1).1
    have Is:b≠b1:=by
     rintro rfl
     rcases hb with hb | ⟨rn,BI,Je,_⟩
     ·omega
     ·exact ie (hc.ok.inj j id _ _ _ _ _ _ _ _ _ _ _ _ _ hj hh hm Je)
    exact ⟨o,(jI b bc Is).trans q1,q2.mono (λi y pv v hi hy hr=>hr.fr lu hc.ok (λcJ n' e' f' F' he b' sd=>by
     obtain ⟨q1,q2⟩:=xi j i y b' ⟨_,_,_,_,_,_,_,_,_,_,hj,hi,by rw [hy,he],sd⟩
     exact jI b' q1 q2))⟩
 ·refine ⟨λb Bb Q9=>?_,λb Bb=>?_,λb Q9=>aKm (hc.ok.slt b Q9) zg,?_,hc.ok.DD lu,λb hvb j x y hx=>?_,λb j x y j' x' y' hx uT=>?_⟩
  rotate_right 2
  ·obtain ⟨q1,q2⟩:=xi _ _ _ b (eU j x y b hx)
   obtain ⟨k,gk,szk,nk,ek,fk,LG,hk,hm⟩:=hvb
   by_cases zE:k=id
   ·subst zE
    rw [bH] at hm
    injection hm with hm
    injection hm with h1 h2
    exact q2 h1.symm
   ·rw [dB k zE] at hk
    rw [dr μ _ zE] at hm
    exact hc.ok.hv b ⟨k,gk,szk,nk,ek,fk,LG,hk,hm⟩ _ _ _ (eU j x y b hx)
  ·obtain ⟨r1,r2,r3⟩:=hc.ok.hh b _ _ _ _ _ _ (eU j x y b hx) (eU j' x' y' b uT)
   subst r1
   refine ⟨rfl,?_,r3⟩
   split at r2<;>omega
  ·rcases lu.own b Bb with h1 | h1
   ·exact hc.ok.apart b h1 Q9
   ·have:=hc.ok.slt b Q9;omega
  ·rcases Bb with ⟨j,gj,mF,nj,ej,fj,qy,hj,hm⟩ | ⟨j,x,y,hx⟩
   rotate_left
   ·exact aKm (hc.ok.lt b (.inr ⟨_,_,_,eU j x y b hx⟩)) zg
   by_cases ie:j=id
   ·subst ie
    rw [bH] at hm
    injection hm with hm
    injection hm with h1 h2
    subst h1
    exact aa7
   ·rw [dB j ie] at hj
    rw [dr μ _ ie] at hm
    exact aKm (hc.ok.lt b (.inl ⟨j,gj,mF,nj,ej,fj,qy,hj,hm⟩)) zg
  ·intro i j gi Uc ni ei fi gj mF nj ej fj b o o' hi hj nV nz
   by_cases Ud:i=id
   ·by_cases ie:j=id
    ·rw [Ud,ie]
    ·subst Ud
     rw [bH] at nV
     injection nV with nV
     injection nV with h1 h2
     subst h1
     rw [dB j ie] at hj
     rw [dr μ _ ie] at nz
     rcases hb with hb | ⟨rn,BI,Je,_⟩
     ·have:=hc.ok.lt _ (.inl ⟨j,gj,mF,nj,ej,fj,o',hj,nz⟩);omega
     ·exact hc.ok.inj i j _ _ _ _ _ _ _ _ _ _ _ _ _ hh hj Je nz
   ·rw [dB i Ud] at hi
    rw [dr μ _ Ud] at nV
    by_cases ie:j=id
    ·subst ie
     rw [bH] at nz
     injection nz with nz
     injection nz with h1 h2
     subst h1
     rcases hb with hb | ⟨rn,BI,Je,_⟩
     ·have:=hc.ok.lt _ (.inl ⟨i,gi,Uc,ni,ei,fi,o,hi,nV⟩);omega
     ·exact hc.ok.inj i j _ _ _ _ _ _ _ _ _ _ _ _ _ hi hh nV Je
    ·rw [dB j ie] at hj
     rw [dr μ _ ie] at nz
     exact aMO
theorem Tt (hc:Core μ h S w) (sz n:Nat) (e:TypeId) (f:Nat->List PV) (p:Option (Nat×Nat))
  (hp:match p with
   | none=>n=0
   | some (b,base)=>w.heap.size<=b/\∃o:Obj,w1.heap[b]? =some o/\xV (cQ μ h S w) base sz n e f o)
  (ha:c7 w w1) (hl:∀i,i<n->(f i).length=sz) (vJ:∀(i j:Nat) (pv:PV),i<n->(f i)[j]? =some pv->eh pv=false):
  Fr μ h S w (nU μ h.length p) (h++[.row 0 sz n e f]) S w1/\Core (nU μ h.length p) (h++[.row 0 sz n e f]) S w1:=by
 have rp:∀j o,h[j]? =some o->(h++[al.row 0 sz n e f])[j]? =some o:=λj o hj=>by
  rw [aKB (An.1 hj).1];exact hj
 have B2:(h++[al.row 0 sz n e f])[h.length]? =some (al.row 0 sz n e f):=by simp
 have rq:∀j o,(h++[al.row 0 sz n e f])[j]? =some o->(h[j]? =some o/\j≠h.length)\/(j=h.length/\o=al.row 0 sz n e f):=λj o hj=>by
  rcases Nat.lt_trichotomy j h.length with bc | heq | MI
  ·rw [aKB bc] at hj;exact .inl ⟨hj,by omega⟩
  ·subst heq;rw [B2] at hj;injection hj with hj;exact .inr ⟨rfl,hj.symm⟩
  ·rw [aKM aNl] at hj;cases hj
 have pA:∀j o,h[j]? =some o->nU μ h.length p j=μ j:=λj o hj=>dr μ _ (by have:=(An.1 hj).1;omega)
 have eU:∀j x y b,eA (h++[al.row 0 sz n e f]) j x y b->eA h j x y b:=λj x y b ⟨gj,mF,nj,ej,fj,cJ,n',e',f',F',q1,q2,q3,q4⟩=>by
  rcases rq j _ q1 with ⟨h1,h2⟩ | ⟨h1,h2⟩
  ·exact ⟨_,_,_,_,_,_,_,_,_,_,h1,q2,q3,q4⟩
  ·injection h2 with e1 e2 e3 e4 e5
   subst e1 e2 e3 e4 e5
   have:=vJ x y _ q2 q3
   cases this
 have lu:Fr μ h S w (nU μ h.length p) (h++[.row 0 sz n e f]) S w1:=by
  refine ⟨by simp,λb bc _=>ha.blocks b bc,λ_ hb=>hb,λ_ hb=>.inl hb,λb sd=>?_,ha.size,ha.os,ha.tape,ha.output,λj gj mF nj ej fj hj=>?_,λj hj=>rp j _ hj,λb k Bb ic=>kX.of_same (ha.blocks b ic.lt) ic,λj gj mF nj ej fj b base hj hm nI=>⟨let ⟨es,c,q⟩:=nI;⟨es,c,(ha.blocks b (abF.1 q).1).trans q⟩,.inr ⟨⟨_,_,_,_,_,rp j _ hj⟩,by rw [pA j _ hj];exact hm⟩⟩,λb j x y hx nI=>let ⟨es,c,q⟩:=nI;⟨es,c,(ha.blocks b (abF.1 q).1).trans q⟩⟩
  ·rcases sd with ⟨j,gj,mF,nj,ej,fj,qy,hj,hm⟩ | ⟨j,x,y,hx⟩
   rotate_left
   ·exact .inl (.inr ⟨_,_,_,eU j x y b hx⟩)
   rcases rq j _ hj with ⟨h1,h2⟩ | ⟨h1,h2⟩
   ·rw [dr μ _ h2] at hm
    exact .inl (.inl ⟨j,gj,mF,nj,ej,fj,qy,h1,hm⟩)
   ·subst h1
    rw [bH] at hm
    subst hm
    exact .inr hp.1
  ·rw [rp j _ hj]
   exact ⟨As _,λ_=>⟨pA j _ hj,rfl,rfl,rfl⟩⟩
 refine ⟨lu,⟨λj gj mF nj ej fj hj=>?_,?_⟩⟩
 ·rcases rq j _ hj with ⟨h1,h2⟩ | ⟨h1,h2⟩
  ·obtain ⟨q1,q2⟩:=hc.heap j gj mF nj ej fj h1
   refine ⟨q1,?_⟩
   rw [dr μ _ h2]
   cases hm:μ j with
   | none=>rw [hm] at q2;exact q2
   | some p'=>
    obtain ⟨b,base⟩:=p'
    rw [hm] at q2
    obtain ⟨o,r1,r2⟩:=q2
    have bc:b<w.heap.size:=(abF.1 r1).1
    exact ⟨o,(ha.blocks b bc).trans r1,r2.mono (λi y pv v hi hy hr=>hr.fr lu hc.ok (λcJ n' e' f' F' he b' sd=>ha.blocks b' (hc.ok.lt b' (.inr ⟨j,i,y,_,_,_,_,_,_,_,_,_,_,h1,hi,he▸hy,sd⟩))))⟩
  ·subst h1
   injection h2 with e1 e2 e3 e4 e5
   subst e1 e2 e3 e4 e5
   rw [bH]
   refine ⟨hl,?_⟩
   cases p with
   | none=>exact hp
   | some p'=>
    obtain ⟨b,base⟩:=p'
    obtain ⟨_,o,r1,r2⟩:=hp
    exact ⟨o,r1,r2.mono (λi y pv v hi hy hr=>(hr.fr lu hc.ok).k (vJ i y pv hi hy))⟩
 ·refine ⟨λb Bb Q9=>?_,λb Bb=>?_,λb Q9=>aKm (hc.ok.slt b Q9) ha.size,?_,hc.ok.DD lu,λb hvb j x y hx=>?_,λb j x y j' x' y' hx uT=>hc.ok.hh b _ _ _ _ _ _ (eU j x y b hx) (eU j' x' y' b uT)⟩
  rotate_right
  ·have hx:=eU j x y b hx
   obtain ⟨k,gk,szk,nk,ek,fk,LG,hk,hm⟩:=hvb
   rcases rq k _ hk with ⟨h1,h2⟩ | ⟨h1,h2⟩
   ·rw [dr μ _ h2] at hm
    exact hc.ok.hv b ⟨k,gk,szk,nk,ek,fk,LG,h1,hm⟩ _ _ _ hx
   ·subst h1
    rw [bH] at hm
    subst hm
    have:=hc.ok.lt b (.inr ⟨_,_,_,hx⟩)
    have:=hp.1
    omega
  ·rcases lu.own b Bb with h1 | h1
   ·exact hc.ok.apart b h1 Q9
   ·have:=hc.ok.slt b Q9;omega
  ·rcases Bb with ⟨j,gj,mF,nj,ej,fj,qy,hj,hm⟩ | ⟨j,x,y,hx⟩
   rotate_left
   ·exact aKm (hc.ok.lt b (.inr ⟨_,_,_,eU j x y b hx⟩)) ha.size
   rcases rq j _ hj with ⟨h1,h2⟩ | ⟨h1,h2⟩
   ·rw [dr μ _ h2] at hm
    exact aKm (hc.ok.lt b (.inl ⟨j,gj,mF,nj,ej,fj,qy,h1,hm⟩)) ha.size
   ·subst h1
    rw [bH] at hm
    subst hm
    obtain ⟨_,o,r1,_⟩:=hp
    exact (abF.1 r1).1
  ·intro i j gi Uc ni ei fi gj mF nj ej fj b o o' hi hj nV nz
   rcases rq i _ hi with ⟨h1,h2⟩ | ⟨h1,h2⟩
   ·rw [dr μ _ h2] at nV
    rcases rq j _ hj with ⟨h3,h4⟩ | ⟨h3,h4⟩
    ·rw [dr μ _ h4] at nz
     exact hc.ok.inj i j _ _ _ _ _ _ _ _ _ _ _ _ _ h1 h3 nV nz
    ·subst h3
     rw [bH] at nz
     subst nz
     have:=hc.ok.lt _ (.inl ⟨i,gi,Uc,ni,ei,fi,o,h1,nV⟩)
     have:=hp.1
     omega
   ·subst h1
    rw [bH] at nV
    rcases rq j _ hj with ⟨h3,h4⟩ | ⟨h3,h4⟩
    ·rw [dr μ _ h4] at nz
     subst nV
     have:=hc.ok.lt _ (.inl ⟨j,gj,mF,nj,ej,fj,o',h3,nz⟩)
     have:=hp.1
     omega
    ·exact h3.symm
theorem oK (hc:Core μ h S w) (sz n:Nat) (e:TypeId) (f:Nat->List PV) (p:Option (Nat×Nat))
  (hp:match p with
   | none=>n=0
   | some (b,base)=>w.heap.size<=b/\∃cur:Array Value,w1.heap[b]? =some (.cells cur e (0,0))/\base+n*sz<=cur.size/\
    ∀(i j:Nat) (pv:PV),i<n->(f i)[j]? =some pv->∃v:Value,cur[base+i*sz+j]? =some v/\cQ μ h S w pv v)
  (ha:c7 w w1) (hl:∀i,i<n->(f i).length=sz) (vJ:∀(i j:Nat) (pv:PV),i<n->(f i)[j]? =some pv->eh pv=false):
  Fr μ h S w (nU μ h.length p) (h++[.row 0 sz n e f]) S w1/\Core (nU μ h.length p) (h++[.row 0 sz n e f]) S w1:=by
 refine Tt hc sz n e f p ?_ ha hl vJ
 cases p with
 | none=>exact hp
 | some q=>exact ⟨hp.1,de.DC hp.2⟩
theorem kX.Pb {b k:Nat} (h:kX w b k):¬rS w b:=by
 rintro ⟨es,c,q⟩
 obtain ⟨cur,e,z,h1,_⟩:=h
 rw [h1] at q;cases q
end
theorem oz.refl:∀(l:List PV),oz l l
 | []=>trivial
 | a::l=>⟨.same a,oz.refl l⟩
theorem oz.len:∀{l r:List PV},oz l r->r.length=l.length
 | [],[],_=>rfl
 | a::l,b::r,h=>by simp [oz.len h.2]
 | [],_::_,h=>h.elim
 | _::_,[],h=>h.elim
theorem oz.get:∀{l r:List PV},oz l r->∀{j:Nat} {b:PV},r[j]? =some b->∃a,l[j]? =some a/\Ue a b
 | [],[],_,j,b,hj=>by simp at hj
 | a::l,c::r,h,0,b,hj=>by simp at hj;subst hj;exact ⟨a,rfl,h.1⟩
 | a::l,c::r,h,j+1,b,hj=>by
  obtain ⟨x,q1,q2⟩:=oz.get h.2 (j:=j) aNu
  exact ⟨x,by simpa using q1,q2⟩
 | [],_::_,h,_,_,_=>h.elim
 | _::_,[],h,_,_,_=>h.elim
theorem oz.aBY:∀{l r:List PV},oz l r->∀{j:Nat} {a:PV},l[j]? =some a->∃b,r[j]? =some b/\Ue a b
 | [],[],_,j,b,hj=>by simp at hj
 | a::l,c::r,h,0,b,hj=>by simp at hj;subst hj;exact ⟨c,rfl,h.1⟩
 | a::l,c::r,h,j+1,b,hj=>by
  obtain ⟨x,q1,q2⟩:=oz.aBY h.2 (j:=j) aNu
  exact ⟨x,by simpa using q1,q2⟩
 | [],_::_,h,_,_,_=>h.elim
 | _::_,[],h,_,_,_=>h.elim
theorem Ue.amv {a b:PV} (h:Ue a b) {μ:Mu} {l:List al} {S:Nat->Prop} {w:World} {v:Value} (hr:cQ μ l S w a v):cQ μ l S w b v:=by
 cases h with
 | same=>exact hr
 | nil sz f=>
  have hr:ba S w .ck v:=hr
  cases hr
  exact ba.uS _ _ _ _
 | Bu sz e f=>exact cQ.one hr
def OEq:al->al->Prop
 | .row g sz n e f,.row g' cJ n' e' f'=>g=g'/\sz=cJ/\n=n'/\e=e'/\∀i,i<n->oz (f i) (f' i)
 | .dead,.dead=>True
 | _,_=>False
def e9:List al->List al->Prop
 | [],[]=>True
 | o::l,o'::l'=>OEq o o'/\e9 l l'
 | _,_=>False
theorem e9.len:∀{l l':List al},e9 l l'->l.length=l'.length
 | [],[],_=>rfl
 | o::l,o'::l',h=>by simp [e9.len h.2]
 | [],_::_,h=>h.elim
 | _::_,[],h=>h.elim
theorem e9.get:∀{l l':List al},e9 l l'->∀{j:Nat} {g sz n:Nat} {e:TypeId} {f:Nat->List PV},l[j]? =some (al.row g sz n e f)->∃f',l'[j]? =some (al.row g sz n e f')/\∀i,i<n->oz (f i) (f' i)
 | o::l,o'::l',h,0,g,sz,n,e,f,hj=>by
  simp at hj
  subst hj
  cases o' with
  | dead=>exact h.1.elim
  | row g' cJ n' e' f'=>
   obtain ⟨rfl,rfl,rfl,rfl,hf⟩:=h.1
   exact ⟨f',rfl,hf⟩
 | o::l,o'::l',h,j+1,g,sz,n,e,f,hj=>by
  simp at hj
  obtain ⟨f',h1,h2⟩:=e9.get h.2 hj
  exact ⟨f',by simpa using h1,h2⟩
 | [],[],_,_,_,_,_,_,_,hj=>by simp at hj
 | [],_::_,h,_,_,_,_,_,_,_=>h.elim
 | _::_,[],h,_,_,_,_,_,_,_=>h.elim
theorem e9.Tu:∀{l l':List al},e9 l l'->∀{j:Nat} {g sz n:Nat} {e:TypeId} {f':Nat->List PV},l'[j]? =some (al.row g sz n e f')->∃f,l[j]? =some (al.row g sz n e f)/\∀i,i<n->oz (f i) (f' i)
 | o::l,o'::l',h,0,g,sz,n,e,f',hj=>by
  simp at hj
  subst hj
  cases o with
  | dead=>exact h.1.elim
  | row g' cJ n' e' f=>
   obtain ⟨rfl,rfl,rfl,rfl,hf⟩:=h.1
   exact ⟨f,rfl,hf⟩
 | o::l,o'::l',h,j+1,g,sz,n,e,f',hj=>by
  simp at hj
  obtain ⟨f,h1,h2⟩:=e9.Tu h.2 hj
  exact ⟨f,by simpa using h1,h2⟩
 | [],[],_,_,_,_,_,_,_,hj=>by simp at hj
 | [],_::_,h,_,_,_,_,_,_,_=>h.elim
 | _::_,[],h,_,_,_,_,_,_,_=>h.elim
theorem e9.getD:∀{l l':List al},e9 l l'->∀{j:Nat},l[j]? =some al.dead->l'[j]? =some al.dead
 | o::l,o'::l',h,0,hj=>by
  simp at hj
  subst hj
  cases o' with
  | dead=>rfl
  | row g' cJ n' e' f'=>exact h.1.elim
 | o::l,o'::l',h,j+1,hj=>by
  simp at hj
  simpa using e9.getD h.2 hj
 | [],[],_,_,hj=>by simp at hj
 | [],_::_,h,_,_=>h.elim
 | _::_,[],h,_,_=>h.elim
theorem e9.aeL {l l':List al} (h:e9 l l') {id i j b:Nat} (ho:eA l' id i j b):eA l id i j b:=by
 obtain ⟨g,sz,n,e,f',cJ,n',e',f2,F',q1,q2,q3,q4⟩:=ho
 obtain ⟨f,r1,r2⟩:=h.Tu q1
 obtain ⟨a,ha,hle⟩:=(r2 i q2).get q3
 cases hle with
 | same=>exact ⟨_,_,_,_,_,_,_,_,_,_,r1,q2,ha,q4⟩
 | Bu=>exact q4.elim
theorem e9.aBZ {l l':List al} (h:e9 l l') {μ:Mu} {b:Nat} (ho:GJ μ l' b):GJ μ l b:=by
 obtain ⟨id,g,sz,n,e,f,base,h1,h2⟩:=ho
 obtain ⟨f',h3,_⟩:=h.Tu h1
 exact ⟨id,g,sz,n,e,f',base,h3,h2⟩
theorem e9.Ai {l l':List al} (h:e9 l l') {μ:Mu} {b:Nat} (ho:dx μ l' b):dx μ l b:=by
 rcases ho with ho | ⟨id,i,j,ho⟩
 ·exact .inl (h.aBZ ho)
 ·exact .inr ⟨id,i,j,h.aeL ho⟩
theorem e9.hid {l l':List al} (h:e9 l l') {id i j b:Nat} (ho:eA l id i j b):eA l' id i j b:=by
 obtain ⟨g,sz,n,e,f,cJ,n',e',f2,F',q1,q2,q3,q4⟩:=ho
 obtain ⟨f',r1,r2⟩:=h.get q1
 obtain ⟨c,hc,hle⟩:=(r2 i q2).aBY q3
 cases hle
 exact ⟨_,_,_,_,_,_,_,_,_,_,r1,q2,hc,q4⟩
theorem e9.owned {l l':List al} (h:e9 l l') {μ:Mu} {b:Nat} (ho:dx μ l b):dx μ l' b:=by
 rcases ho with ⟨id,g,sz,n,e,f,base,h1,h2⟩ | ⟨x,y,z,ho⟩
 ·obtain ⟨f',h3,_⟩:=h.get h1
  exact .inl ⟨id,g,sz,n,e,f',base,h3,h2⟩
 ·exact .inr ⟨_,_,_,h.hid ho⟩
theorem e9.own {l l':List al} (h:e9 l l') {μ:Mu} {w:World} {id gen off len:Nat} {v:Value} (hr:bG μ l w id gen off len v):bG μ l' w id gen off len v:=by
 unfold bG at*
 refine ⟨hr.1,?_⟩
 have hr:=hr.2
 cases ho:l[id]? with
 | none=>rw [ho] at hr;exact hr.elim
 | some o=>
  cases o with
  | dead=>rw [h.getD ho];trivial
  | row g sz n e f=>
   obtain ⟨f',h1,_⟩:=h.get ho
   rw [ho] at hr
   rw [h1]
   exact hr
theorem e9.aA {l l':List al} (h:e9 l l') {μ:Mu} {id gen i off:Nat} {v:Value} {w:World} (hr:cN μ l w id gen i off v):cN μ l' w id gen i off v:=by
 unfold cN at*
 refine ⟨hr.1,?_⟩
 have hr:=hr.2
 cases ho:l[id]? with
 | none=>rw [ho] at hr;exact hr.elim
 | some o=>
  cases o with
  | dead=>rw [h.getD ho];trivial
  | row g sz n e f=>
   obtain ⟨f',h1,_⟩:=h.get ho
   rw [ho] at hr
   rw [h1]
   exact hr
theorem Ue.aeM {a b:PV} (h:Ue a b) (ha:qs a=true):b=a:=by
 cases h with
 | same=>rfl
 | _=>cases ha
theorem oz.aeM {kp vp:PV} {l:List PV} (h:oz [kp,vp] l) (h1:qs kp=true) (h2:qs vp=true):l=[kp,vp]:=by
 rcases l with _ | ⟨a,_ | ⟨b,_ | ⟨c,l⟩⟩⟩
 ·exact h.elim
 ·exact h.2.elim
 ·rw [h.1.aeM h1,h.2.1.aeM h2]
 ·exact h.2.2.elim
theorem e9.qv {l l':List al} (h:e9 l l') {μ:Mu} {w:World} {id:Nat} {v:Value} (hr:iv μ l w id v):iv μ l' w id v:=by
 unfold iv at*
 refine ⟨hr.1,?_⟩
 have hr:=hr.2
 cases ho:l[id]? with
 | none=>rw [ho] at hr;exact hr.elim
 | some o=>
  cases o with
  | dead=>rw [h.getD ho];trivial
  | row g sz n e f=>
   obtain ⟨f',h1,_⟩:=h.get ho
   rw [ho] at hr
   rw [h1]
   exact hr
theorem e9.se {l l':List al} (h:e9 l l') {μ:Mu} {w:World} {f:Nat} {df:List (Nat×Nat)} {v:Value} (hr:qz μ l w f df v):qz μ l' w f df v:=uU.mono hr (λid g u hu=>h.aA hu)
theorem e9.amv {l l':List al} (h:e9 l l') {μ:Mu} {S:Nat->Prop} {w:World} {pv:PV} {v:Value} (hr:cQ μ l S w pv v):cQ μ l' S w pv v:=by
 cases pv with
 | own id gen off len=>exact h.own hr
 | aA id gen i off=>exact h.aA hr
 | qv id=>exact h.qv hr
 | se f df=>exact h.se hr
 | _=>exact hr
theorem e9.amw {l l':List al} (h:e9 l l') {μ:Mu} {S:Nat->Prop} {w:World} {pv:PV} {v:Value} (hr:pz μ l S w pv v):pz μ l' S w pv v:=by
 cases pv with
 | dI sz n e f F=>exact hr
 | _=>exact cQ.k (h.amv (pz.c hr)) rfl
theorem Ue.amw {a b:PV} (h:Ue a b) {μ:Mu} {l:List al} {S:Nat->Prop} {w:World} {v:Value} (hr:pz μ l S w a v):pz μ l S w b v:=by
 cases h with
 | same=>exact hr
 | nil sz f=>
  have hr:ba S w .ck v:=hr
  cases hr
  exact ba.uS _ _ _ _
 | Bu sz e f=>
  have hr:ba S w .ck v:=hr
  cases hr
  exact my.nil _ _ _ _ (λ_ h=>h)
theorem e9.aeK {l l':List al} (h:e9 l l') {μ:Mu} {S:Nat->Prop} {w:World} {pv:PV} {v:Value} (hr:kz μ l S w pv v):kz μ l' S w pv v:=by
 cases pv with
 | own id gen off len=>exact h.own hr
 | aA id gen i off=>exact h.aA hr
 | qv id=>exact h.qv hr
 | se f df=>exact h.se hr
 | agg cs=>
  obtain ⟨vs,h1,h2,h3⟩:=hr
  exact ⟨vs,h1,h2,λj pv hj=>by obtain ⟨u,hu,hc⟩:=h3 j pv hj;exact ⟨u,hu,h.amv hc⟩⟩
 | _=>exact hr
theorem e9.refl:∀(l:List al),e9 l l
 | []=>trivial
 | .row g sz n e f::l=>⟨⟨rfl,rfl,rfl,rfl,λ_ _=>oz.refl _⟩,e9.refl l⟩
 | .dead::l=>⟨trivial,e9.refl l⟩
theorem e9.set:∀(l:List al) (id g sz n:Nat) (e:TypeId) (f f':Nat->List PV),(∀i,i<n->oz (f i) (f' i))->e9 (l.set id (.row g sz n e f)) (l.set id (.row g sz n e f'))
 | [],_,_,_,_,_,_,_,_=>trivial
 | o::l,0,g,sz,n,e,f,f',hf=>⟨⟨rfl,rfl,rfl,rfl,hf⟩,e9.refl l⟩
 | o::l,id+1,g,sz,n,e,f,f',hf=>⟨by cases o;exact ⟨rfl,rfl,rfl,rfl,λ_ _=>oz.refl _⟩;exact trivial,e9.set l id g sz n e f f' hf⟩
theorem e9.snoc:∀(l:List al) (g sz n:Nat) (e:TypeId) (f f':Nat->List PV),(∀i,i<n->oz (f i) (f' i))->e9 (l++[.row g sz n e f]) (l++[.row g sz n e f'])
 | [],g,sz,n,e,f,f',hf=>⟨⟨rfl,rfl,rfl,rfl,hf⟩,trivial⟩
 | o::l,g,sz,n,e,f,f',hf=>⟨by cases o;exact ⟨rfl,rfl,rfl,rfl,λ_ _=>oz.refl _⟩;exact trivial,e9.snoc l g sz n e f f' hf⟩
theorem e9.aHA {l l':List al} (h:e9 l l') {μ:Mu} {S:Nat->Prop} {w:World} {pv:PV} {v:Value} (hr:cj μ l S w pv v):cj μ l' S w pv v:=by
 cases pv with
 | fM ps=>
  obtain ⟨vs,h1,h2,h3⟩:=hr
  exact ⟨vs,h1,h2,λj pv hj=>by obtain ⟨u,hu,hc⟩:=h3 j pv hj;exact ⟨u,hu,h.aeK hc⟩⟩
 | own id gen off len=>exact h.own hr
 | aA id gen i off=>exact h.aA hr
 | qv id=>exact h.qv hr
 | se f df=>exact h.se hr
 | agg cs=>exact h.aeK (pv:=.agg cs) hr
 | _=>exact hr
theorem e9.core {l l':List al} (he:e9 l l') {μ:Mu} {S:Nat->Prop} {w:World} (hc:Core μ l S w):Core μ l' S w:=by
 refine ⟨λid g sz n e f hid=>?_,⟨λb hb=>hc.ok.apart b (he.Ai hb),λb hb=>hc.ok.lt b (he.Ai hb),hc.ok.slt,λi j g sz n e f g' cJ n' e' f' b o o' hi hj h1 h3=>?_,hc.ok.known,λb hb id i j hx=>hc.ok.hv b (he.aBZ hb) id i j (he.aeL hx),λb _ _ _ _ _ _ hx hy=>hc.ok.hh b _ _ _ _ _ _ (he.aeL hx) (he.aeL hy)⟩⟩
 ·obtain ⟨f',h1,h3⟩:=he.Tu hid
  obtain ⟨q1,q2⟩:=hc.heap id g sz n e f' h1
  refine ⟨λi hi=>by rw [(h3 i hi).len];exact q1 i hi,?_⟩
  cases hm:μ id with
  | none=>rw [hm] at q2;exact q2
  | some p=>
   obtain ⟨b,base⟩:=p
   rw [hm] at q2
   obtain ⟨o,r1,r2⟩:=q2
   refine ⟨o,r1,?_⟩
   cases o with
   | cells cur e' z=>
    obtain ⟨r2,r3,r4,r5⟩:=r2
    refine ⟨r2,r3,r4,λi j pv hi hj=>?_⟩
    obtain ⟨a,ha,hle⟩:=(h3 i hi).get hj
    obtain ⟨v,hv,hcc⟩:=r5 i j a hi ha
    exact ⟨v,hv,he.amw (hle.amw hcc)⟩
   | map es c=>
    obtain ⟨r2,r3⟩:=r2
    refine ⟨r2,λi hi=>?_⟩
    obtain ⟨kp,vp,en,s1,s2,s3,s4⟩:=r3 i hi
    have hle:=h3 i hi
    rw [s1] at hle
    exact ⟨kp,vp,en,hle.aeM s2 s3,s2,s3,s4⟩
   | _=>exact r2.elim
 ·obtain ⟨fi,q1,_⟩:=he.Tu hi
  obtain ⟨fj,q2,_⟩:=he.Tu hj
  exact hc.ok.inj i j g sz n e fi g' cJ n' e' fj b o o' q1 q2 h1 h3
theorem e9.fr {l l':List al} (he:e9 l l') {μ0 μ:Mu} {h0:List al} {S0 S:Nat->Prop} {w0 w:World} (hF:Fr μ0 h0 S0 w0 μ l S w):Fr μ0 h0 S0 w0 μ l' S w:=by
 refine ⟨by rw [<-he.len];exact hF.len,hF.blocks,hF.sub,hF.new,λb hb=>hF.own b (he.Ai hb),hF.size,hF.os,hF.tape,hF.output,λid g sz n e f hid=>?_,λid hid=>he.getD (hF.dead id hid),hF.df,λid g sz n e f b base hj hm nI=>?_,hF.xj⟩
 rotate_left
 ·obtain ⟨r1,r2⟩:=hF.maps id g sz n e f b base hj hm nI
  refine ⟨r1,?_⟩
  rcases r2 with r2 | ⟨⟨g',cJ,n',e',f',r2⟩,r3⟩
  ·exact .inl (he.getD r2)
  ·obtain ⟨f2,h1,_⟩:=he.get r2
   exact .inr ⟨⟨_,_,_,_,_,h1⟩,r3⟩
 have hg:=hF.DE id g sz n e f hid
 cases ho:l[id]? with
 | none=>rw [ho] at hg;exact hg.elim
 | some o=>
  cases o with
  | dead=>rw [he.getD ho];trivial
  | row g' cJ n' e' f'=>
   obtain ⟨f2,h1,_⟩:=he.get ho
   rw [ho] at hg
   rw [h1]
   exact hg
section
variable {P:Program} {T:qq} {μ:Mu} {h:List al} {S:Nat->Prop} {w:World}
def iG (P:Program) (o:Oper) (a:Act) (μ:Mu) (h:List al) (S:Nat->Prop) (w:World) (K:PV->List al->Prop):Prop:=
 ∀(next:Act->World->Prop) (Q:Exit->Act->World->Prop),
  (∀v val h' μ' S' w',K v h'->cj μ' h' S' w' v val->Core μ' h' S' w'->Fr μ h S w μ' h' S' w'->next (a.put o.dst val) w')->o.wp P a w next Q
theorem iG.rows {o:Oper} {a:Act} {K:PV->List al->Prop} (hA:iG P o a μ h S w (λv h1=>∃h2,e9 h1 h2/\K v h2)):iG P o a μ h S w K:=by
 intro next Q hn
 refine hA next Q λv val h' μ' S' w' ⟨h2,he,hK⟩ hv hc hf=>?_
 exact hn v val h2 μ' S' w' hK (he.aHA hv) (he.core hc) (he.fr hf)
theorem iG.sT {o:Oper} {a:Act} {K:PV->List al->Prop} (hc:Core μ h S w) (hs:eT P o a μ h S w (λv=>K v h)):iG P o a μ h S w K:=by
 obtain ⟨v,val,hK,hv,hr⟩:=hs
 intro next Q hn
 unfold Oper.wp
 rw [hr w (c7.refl w)]
 exact hn v val h μ S w hK hv hc Fr.refl
theorem iG.jJ {o:Oper} {a:Act} {K:PV->List al->Prop} {v:PV} {val:Value} {h':List al} {μ':Mu} {S':Nat->Prop} {w':World} (hr:(execOp a.eval o).run P w=.ok (.value val) w') (hK:K v h') (hv:cj μ' h' S' w' v val)
  (hc:Core μ' h' S' w') (hf:Fr μ h S w μ' h' S' w'):iG P o a μ h S w K:=by
 intro next Q hn
 unfold Oper.wp
 rw [hr]
 exact hn v val h' μ' S' w' hK hv hc hf
theorem iG.aeN {o:Oper} {a:Act} {K:PV->List al->Prop} {h':List al} {μ':Mu} {S':Nat->Prop} {w':World} (hr:(execOp a.eval o).run P w=.ok .skip w') (hK:K .jQ h')
  (hc:Core μ' h' S' w') (hf:Fr μ h S w μ' h' S' w'):iG P o a μ h S w K:=by
 intro next Q hn
 unfold Oper.wp
 rw [hr]
 exact hn .jQ undef h' μ' S' w' hK trivial hc hf
theorem aeO (hT:fe P T) {t:Nat} {n:Nat} (hn:lI (T.get t)=n) (Tv:0<n):∃i,P.info? t=some i/\i.size=n:=by
 cases jP:T.get t with
 | struct sz fl z=>
  obtain ⟨fs,i,_,hi,jO,_⟩:=hT.struct _ _ _ _ jP
  rw [jP] at hn
  exact ⟨i,hi,jO.trans hn⟩
 | other=>rw [jP] at hn;simp [lI] at hn;omega
 | _=>
  rw [jP] at hn
  have h1:n=1:=hn.symm
  subst h1
  refine hT.one t ?_ ?_
  ·rw [jP];rfl
  ·intro sz fl z hh;rw [jP] at hh;cases hh
variable {a:Act} {env:Env} {K:PV->List al->Prop} {dst:Option Tmp} {ty:TypeId} {pos:String} {after:Array Edge} {guard:Option (Nat×Bool)}
theorem xW (cur vs:List Value) (o q:Nat) (hl:o+vs.length<=cur.length):
  (cur.take o++vs++cur.drop (o+vs.length))[q]? =if o<=q/\q<o+vs.length then vs[q - o]? else cur[q]? :=by
 have h1:(cur.take o).length=o:=by simp;omega
 by_cases ha:q<o
 ·rw [if_neg aNc,aKy,aKB aNc,aLC,if_pos ha]
 ·by_cases hb:q<o+vs.length
  ·rw [if_pos ⟨by omega,hb⟩,aKB aNl,aKt aNc,h1]
  ·rw [if_neg aNc,aKt aNl,aLe]
   congr 1
   simp
   omega
theorem LH (hT:fe P T) (hc:Core μ h S w) (ht:∀t,cj μ h S w (env t) (a.tmps.getD t undef)) (t:Nat) (ad x:Operand) (hp:pop P T (.store t ad x) env h K):
  iG P ⟨dst,.store t ad x,ty,pos,after,guard⟩ a μ h S w K:=by
 have hx:=dq ht x
 have yt:=dq ht ad
 simp only [pop] at hp
 split at hp
 ·rename_i id gen i off hea
  rw [hea] at yt
  split at hp
  ·rename_i g sz n e f hg
   obtain ⟨rfl,hp⟩:=hp
   replace hp:=bX (dW hp)
   obtain ⟨vI,hK⟩:=hp
   simp only [At] at vI
   obtain ⟨⟨⟨Ag,Tv⟩,hty⟩,hle⟩:=vI
   have Tv:=aKw Tv
   have hty:=No hty
   have hle:=aKw hle
   have hh:=fY hg
   have hr:=yt.vH
   unfold cN at hr
   rw [hh] at hr
   obtain ⟨_,_,hr⟩:=hr
   obtain ⟨hin,b,base,ju,O7,hav⟩:=hr rfl
   obtain ⟨hl,lK⟩:=hc.heap id g sz n e f hh
   rw [ju] at lK
   obtain ⟨cur,ny,wY,bB⟩:=de.cells O7.1 lK
   obtain ⟨hvl,hvc⟩:=nv Ag hx
   have hso:∀(j:Nat) (pv:PV),(cellsOf (ev env x))[j]? =some pv->eh pv=false:=λj pv hj=>O9 Ag hj
   generalize hcs:cellsOf (ev env x)=cs at*
   generalize hvs:(a.eval x).cells.toList=vs at*
   have Tv:0<cs.length:=by omega
   obtain ⟨inf,nN,qX⟩:=aeO hT hty Tv
   have hmul:(i+1)*sz<=n*sz:=aKn _ hin
   rw [aKi] at hmul
   have ox:(storeCells ⟨b,base+i*sz+off,none⟩ vs 0).run P w=.ok () (w.setRow b (cur.toList.take (base+i*sz+off+0)++vs++cur.toList.drop (base+i*sz+off+0+vs.length)).toArray):=
    run_storeCells_at P b (base+i*sz+off) e vs 0 cur w ny aNc (λv hv=>by
     obtain ⟨j,hj,rfl⟩:=aLx.1 hv
     have Tw:j<cs.length:=by omega
     obtain ⟨u,hu,hr⟩:=hvc j cs[j] (Of Tw)
     rw [Of hj] at hu
     injection hu with hu
     rw [hu]
     exact hr.one)
   rw [aKZ] at ox
   have Ra:∀k,(da f i (gH (f i) off cs) k)=if k=i then gH (f i) off cs else f k:=λk=>by
    unfold da
    by_cases hk:k=i
    ·subst hk;simp
    ·have:Nat.beq k i=false:=by
      cases hb:Nat.beq k i with
      | true=>exact (hk (No hb)).elim
      | false=>rfl
     simp [this,hk]
   have oX:=DB (w1:=w.setRow b (cur.toList.take (base+i*sz+off)++vs++cur.toList.drop (base+i*sz+off+vs.length)).toArray) hc id g g sz n n e f (da f i (gH (f i) off cs)) hh b base
    (cur.toList.take (base+i*sz+off)++vs++cur.toList.drop (base+i*sz+off+vs.length)).toArray (As _) (λ_=>⟨ju,rfl⟩)
    (.inr ⟨base,cur,ju,ny,by simp;omega⟩) (setRow_heap w b cur _ e _ ny) aNl
    (λb' _ oY=>setRow_other w b b' _ oY) aNf rfl rfl rfl
    (λk hk=>by
     rw [Ra]
     split
     ·rename_i zE;subst zE;rw [nu];exact hl _ hk
     ·exact hl k hk)
    (λb' rn Je=>by rw [ju] at Je;injection Je with Je;injection Je with h1 _;subst h1;exact O7.1.Pb)
    (λk j pv hk hj=>by
     have O6:j<sz:=by
      have h1:=(An.1 hj).1
      rw [Ra] at h1
      split at h1
      ·rw [nu,hl i hin] at h1;exact h1
      ·rw [hl k hk] at h1;exact h1
     have FC:(cur.toList.take (base+i*sz+off)++vs++cur.toList.drop (base+i*sz+off+vs.length)).toArray[base+k*sz+j]? =if base+i*sz+off<=base+k*sz+j/\base+k*sz+j<base+i*sz+off+vs.length then vs[base+k*sz+j - (base+i*sz+off)]? else cur[base+k*sz+j]? :=by
      have hsp:=xW cur.toList vs (base+i*sz+off) (base+k*sz+j) aNl
      rw [aLH,hsp]
      simp only [aKG]
     rw [FC]
     rw [Ra] at hj
     by_cases zE:k=i
     ·subst zE
      rw [if_pos rfl,rm cs (f k) off j (by rw [hl k hk];exact hle)] at hj
      by_cases hr:off<=j/\j<off+cs.length
      ·rw [if_pos hr] at hj
       rw [if_pos aNc]
       obtain ⟨u,hu,pt⟩:=hvc _ _ hj
       exact ⟨u,by rw [<-hu];congr 1;omega,pt.k (hso _ _ hj)⟩
      ·rw [if_neg hr] at hj
       rw [if_neg aNc]
       exact bB k j pv hk hj
     ·rw [if_neg zE] at hj
      have aa6:¬(base+i*sz+off<=base+k*sz+j/\base+k*sz+j<base+i*sz+off+vs.length):=by
       rcases Nat.lt_or_gt_of_ne zE with bc | MI
       ·have:(k+1)*sz<=i*sz:=aKn _ bc
        rw [aKi] at this
        omega
       ·have:(i+1)*sz<=k*sz:=aKn _ MI
        rw [aKi] at this
        omega
      rw [if_neg aa6]
      exact bB k j pv hk hj) 0 (λk j cJ n' e' f' F' hk hj=>by
    rw [aKc]
    refine ⟨hk,?_⟩
    rw [Ra] at hj
    by_cases zE:k=i
    ·subst zE
     rw [if_pos rfl,rm cs (f k) off j (by rw [hl k hk];exact hle)] at hj
     by_cases hr:off<=j/\j<off+cs.length
     ·rw [if_pos hr] at hj
      have:=hso _ _ hj
      cases this
     ·rw [if_neg hr] at hj;exact hj
    ·rw [if_neg zE] at hj;exact hj)
   obtain ⟨lu,uD⟩:=oX
   obtain ⟨_,f',rfl,Jf,hK⟩:=hK
   refine iG.rows (iG.aeN ?_ ⟨_,e9.set _ _ _ _ _ _ _ _ Jf,hK⟩ uD lu)
   have e1:(execOp a.eval ⟨dst,.store t ad x,ty,pos,after,guard⟩)=(do Instr.storeAt t (a.eval ad) (a.eval x);pure .skip:Sem Next):=rfl
   rw [e1,hav]
   have jO:¬(a.eval x).cells.size≠inf.size:=by
    rw [qX]
    simp only [ne_eq,Decidable.not_not]
    rw [<-hvl,<-hvs]
    simp
   simp only [Instr.storeAt,Instr.sureAddr,storeVar,Sem.run_bind,Sem.run_pure,Result.andThen,mi nN,if_neg jO,hvs,ox]
  ·exact aMG
 ·exact aMG
theorem FD (z:Array Value) (n q:Nat) (hq:q<n) (hz:0<z.size):(madeCells z n)[q]? =z[q % z.size]? :=by
 have h1:q % z.size<z.size:=Nat.mod_lt _ hz
 simp [madeCells,hq,h1]
theorem aeP (i j sz:Nat) (hj:j<sz):(i*sz+j) % sz=j:=by
 rw [Nat.mul_comm,Nat.mul_add_mod];exact Nat.mod_eq_of_lt hj
theorem oZ (w:World) (o:Obj):c7 w (w.alloc o):=
 ⟨λb hb=>Below.heap_alloc w o b hb,by simp,rfl,rfl,rfl⟩
theorem Pc (hT:fe P T) (hc:Core μ h S w) (ht:∀t,cj μ h S w (env t) (a.tmps.getD t undef)) (t:Nat) (l c:Operand) (hp:pop P T (.makeSlice t l c) env h K):
  iG P ⟨dst,.makeSlice t l c,ty,pos,after,guard⟩ a μ h S w K:=by
 have hl:=dq ht l
 have ic:=dq ht c
 simp only [pop] at hp
 split at hp
 ·rename_i e sz bytes zero k n k' m jP hel hec
  rw [hel] at hl
  rw [hec] at ic
  obtain ⟨⟨h0,h1,h2,h3⟩,_,f',rfl,Jf,hK⟩:=hp
  obtain ⟨hu,jO,inf,zv,nN,qX,hib,hz,hzs,hzl,hzc⟩:=hT.slice _ _ _ _ _ jP
  subst qX hib
  have hm:(inf.bytes:Int)*m<=281474976710656:=by
   have e1:(m.toNat:Int)=m:=Int.toNat_of_nonneg aNc
   have e2:((m.toNat*inf.bytes:Nat):Int)<=140737488355328:=by omega
   rw [Int.natCast_mul,e1,Int.mul_comm] at e2
   omega
  have ox:=run_make (P:=P) w t e inf zv hu nN hz k k' n m h0 h1 hm aNc
  have oX:=oK (w1:=w.alloc (.cells (madeCells zv.cells (m.toNat*inf.size)) e)) hc inf.size n.toNat e (λ_=>zero) (some (w.heap.size,0))
   ⟨As _,_,heap_alloc_new w _,by
    rw [size_madeCells,aKc]
    exact aKn _ aNc,λi j pv hi hj=>by
    have O6:j<inf.size:=by rw [<-hzl];exact (An.1 hj).1
    have bc:0+i*inf.size+j<m.toNat*inf.size:=by
     have:(i+1)*inf.size<=m.toNat*inf.size:=aKn _ aNc
     rw [aKi] at this
     omega
    rw [FD _ _ _ bc aNc,aKc,hzs,aeP i j _ O6]
    have Ub:j<zv.cells.size:=by omega
    obtain ⟨gy,h5,_,h6⟩:=hzc j zv.cells[j] (aKA Ub)
    rw [hj] at h5
    injection h5 with h5
    subst h5
    exact ⟨_,aKA Ub,cQ.lB (h6 S w)⟩⟩ (oZ w _) (λi hi=>hzl) (λi j pv _ hj=>by
  have Ub:j<zv.cells.size:=by have:=(An.1 hj).1;omega
  obtain ⟨gy,h5,_,h6⟩:=hzc j zv.cells[j] (aKA Ub)
  rw [hj] at h5;injection h5 with h5;rw [h5];exact ba.no (h6 S w))
  obtain ⟨lu,uD⟩:=oX
  refine iG.rows (iG.jJ (eK rfl (by rw [hl.mh,ic.mh];exact ox)) ⟨_,e9.snoc _ _ _ _ _ _ _ Jf,hK⟩ ?_ uD lu)
  show bG _ _ _ _ _ _ _ _
  unfold bG
  rw [aKt (As _),aLm]
  refine ⟨⟨_,_,_,rfl⟩,As _,λ_=>⟨by omega,?_⟩⟩
  rw [bH]
  refine ⟨_,m.toNat,rfl,by omega,λ_=>by simp,_,e,_,heap_alloc_new w _,?_⟩
  rw [size_madeCells]
  simp
 ·exact aMG
theorem LI (sz len:Nat) (place:Nat->Option (Nat×Nat)) (aa8:∀i,place i=some (i*sz,sz)):∀(l:List (Nat×Operand)) (ρ:Operand->Value) (k:Nat) (cells:Array Value),Bc len k l=true->cells.size=len*sz->
  (∀p∈l,(ρ p.2).cells.size=sz)->
  ∃jH,Instr.fill place cells (l.map λp=>(p.1,ρ p.2))=some jH/\jH.size=len*sz/\(∀q,q<k*sz->jH[q]? =cells[q]?)/\
   ∀(i j:Nat) (p:Nat×Operand),l[i]? =some p->j<sz->jH[(k+i)*sz+j]? =(ρ p.2).cells[j]?
 | [],ρ,k,cells,hi,hs,_=>⟨cells,rfl,hs,λ_ _=>rfl,λi j p hp=>by simp at hp⟩
 | (i0,x)::r,ρ,k,cells,hi,hs,hv=>by
  simp only [Bc,At] at hi
  have hik:=No hi.1
  subst hik
  have hlen:∀(l:List (Nat×Operand)) (k:Nat),Bc len k l=true->k<=len:=by
   intro l
   induction l with
   | nil=>intro k h;exact Nat.le_of_eq (No h)
   | cons p l ih=>
    intro k h
    obtain ⟨a,b⟩:=p
    simp only [Bc,At] at h
    have:=ih (k+1) h.2
    omega
  have hk:=hlen r (i0+1) hi.2
  have hvx:=hv (i0,x) aNf
  have rr:(i0+1)*sz<=len*sz:=aKn _ hk
  have amx:=rr
  rw [aKi] at amx
  obtain ⟨g1,g2⟩:=uC (ρ x) (i0*sz) cells (by rw [hvx];omega)
  obtain ⟨jH,h1,h2,h3,h4⟩:=LI sz len place aa8 r ρ (i0+1) _ hi.2 (g1.trans hs) (λp hp=>hv p (by simp [hp]))
  refine ⟨jH,?_,h2,λq hq=>?_,λi j p hp hj=>?_⟩
  ·simp only [aKp,Instr.fill,aa8]
   rw [if_neg (by simp only [hvx,ne_eq,not_true_eq_false,false_or];simp only [aLi,decide_eq_true_eq,not_or];simp;omega)]
   exact h1
  ·rw [h3 q (by rw [aKi];omega),g2 q,if_neg aNc]
  ·cases i with
   | zero=>
    simp at hp
    subst hp
    rw [aKZ,h3 _ (by rw [aKi];omega),g2,hvx,if_pos aNc]
    congr 1
    omega
   | succ i=>
    simp at hp
    have:=h4 i j p hp hj
    rw [show i0+1+i=i0+(i+1) from by omega] at this
    exact this
theorem Aj (hT:fe P T) (hc:Core μ h S w) (ht:∀t,cj μ h S w (env t) (a.tmps.getD t undef)) (t len:Nat) (parts:Array (Nat×Operand)) (hp:pop P T (.buildSlice t len parts) env h K):
  iG P ⟨dst,.buildSlice t len parts,ty,pos,after,guard⟩ a μ h S w K:=by
 simp only [pop] at hp
 split at hp
 ·rename_i e sz bytes zero jP
  replace hp:=bX hp
  obtain ⟨vI,hK⟩:=hp
  obtain ⟨hu,jO,inf,zv,nN,qX,hib,hz,hzs,hzl,hzc⟩:=hT.slice _ _ _ _ _ jP
  subst qX
  simp only [At] at vI
  obtain ⟨FC,hle⟩:=vI
  have hle:=aKw hle
  obtain ⟨tR,hK⟩:=Bd _ _ hK
  simp only [aLQ,aKk] at hK
  have lK:∀p∈parts.toList,(a.eval p.2).cells.size=inf.size/\(cellsOf (ev env p.2)).length=inf.size/\
    ∀(j:Nat) (q:PV),(cellsOf (ev env p.2))[j]? =some q->∃u,(a.eval p.2).cells[j]? =some u/\cQ μ h S w q u:=λp hp=>by
   obtain ⟨h1,h2⟩:=tR p hp
   have h2:=No h2
   obtain ⟨h3,h4⟩:=nv h1 (dq ht p.2)
   simp only [aLj,aKG] at h3 h4
   exact ⟨h3.trans h2,h2,h4⟩
  obtain ⟨jH,f1,f2,_,f4⟩:=LI inf.size len (λi=>some (i*inf.size,inf.size)) (λ_=>rfl) parts.toList a.eval 0
   ((Array.range (len*inf.size)).map (λq=>(if len*inf.size=0 then #[] else zv.cells)[q % (if len*inf.size=0 then #[] else zv.cells).size]!)) FC aNf (λp hp=>(lK p hp).1)
  have hlen:parts.toList.length=len:=by
   have key:∀(l:List (Nat×Operand)) (k:Nat),Bc len k l=true->k+l.length=len:=by
    intro l
    induction l with
    | nil=>intro k hh;exact No hh
    | cons p l ih=>
     intro k hh
     obtain ⟨x,y⟩:=p
     simp only [Bc,At] at hh
     have:=ih (k+1) hh.2
     simp only [an]
     omega
   have:=key parts.toList 0 FC
   omega
  have er:∀i,i<len->∃p,parts.toList[i]? =some p/\p∈parts.toList/\(parts.toList.map λp=>cellsOf (ev env p.2)).getD i []=cellsOf (ev env p.2):=λi hi=>by
   have rT:i<parts.toList.length:=by omega
   refine ⟨parts.toList[i],Of rT,aKr rT,?_⟩
   rw [aKb,aKq,Of rT]
   rfl
  have oX:=oK (w1:=w.alloc (.cells jH e)) hc inf.size len e (λk=>(parts.toList.map λp=>cellsOf (ev env p.2)).getD k []) (some (w.heap.size,0))
   ⟨As _,jH,heap_alloc_new w _,by omega,λi j pv hi hj=>by
    obtain ⟨p,FR,My,hp3⟩:=er i hi
    rw [hp3] at hj
    obtain ⟨_,q2,q3⟩:=lK p My
    have O6:j<inf.size:=by rw [<-q2];exact (An.1 hj).1
    have:=f4 i j p FR O6
    rw [aKc] at this
    obtain ⟨u,hu1,hu2⟩:=q3 j pv hj
    exact ⟨u,by rw [<-hu1,<-this,aKc],hu2⟩⟩ (oZ w _)
   (λi hi=>by
    obtain ⟨p,FR,My,hp3⟩:=er i hi
    rw [hp3]
    exact (lK p My).2.1) (λi j pv hi hj=>by
    obtain ⟨p,FR,My,hp3⟩:=er i hi
    rw [hp3] at hj
    exact O9 (tR p My).1 hj)
  obtain ⟨lu,uD⟩:=oX
  obtain ⟨f',Jf,hK⟩:=hK
  refine iG.rows (iG.jJ (val:=.slice (some ⟨w.heap.size,0,none⟩) len len) (eK rfl ?_) ⟨_,e9.snoc _ _ _ _ _ _ _ Jf,hK⟩ ?_ uD lu)
  ·have amy:(parts.map λp=>(p.1,a.eval p.2)).toList=parts.toList.map λp=>(p.1,a.eval p.2):=by simp
   have hn:¬(16777216<len*inf.size):=by omega
   have Rb:Instr.fill (λi=>some (i*inf.size,inf.size)) (Array.map (λx=>(if len*inf.size=0 then #[] else zv.cells)[x % (if len*inf.size=0 then #[] else zv.cells).size]!) (Array.range (len*inf.size))) (parts.map λp=>(p.1,a.eval p.2)).toList=some jH:=by
    rw [amy];exact f1
   by_cases h0:len*inf.size=0
   ·simp [h0] at Rb
    simp only [Instr.buildSlice,Sem.run_bind,run_underlying hu,Result.andThen,mi nN]
    simp [h0,newRow]
    rw [Rb]
    rfl
   ·simp [h0] at Rb
    simp only [Instr.buildSlice,Sem.run_bind,run_underlying hu,Result.andThen,mi nN]
    simp [h0,hn,newRow,zeroValue,typeInfo,nN,hz]
    rw [Rb]
    rfl
  ·show bG _ _ _ _ _ _ _ _
   unfold bG
   rw [aKt (As _),aLm]
   refine ⟨⟨_,_,_,rfl⟩,As _,λ_=>⟨by omega,?_⟩⟩
   rw [bH]
   exact ⟨_,len,rfl,As _,λ_=>by simp,jH,e,_,heap_alloc_new w _,by rw [aKc,aKc];omega⟩
 ·exact aMG
theorem Tx (hc:Core μ h S w) (ht:∀t,cj μ h S w (env t) (a.tmps.getD t undef)) (t:Nat) (x:Operand) (hp:pop P T (.box t x) env h K):
  iG P ⟨dst,.box t x,ty,pos,after,guard⟩ a μ h S w K:=by
 simp only [pop] at hp
 replace hp:=bX (dW hp)
 obtain ⟨vI,hK⟩:=hp
 simp only [At] at vI
 obtain ⟨Ag,hlen⟩:=vI
 have hlen:=No hlen
 obtain ⟨h3,h4⟩:=nv Ag (dq ht x)
 simp only [aLj,aKG] at h3 h4
 have oX:=oK (w1:=w.alloc (.cells (a.eval x).cells t)) hc (lI (T.get t)) 1 t (λ_=>cellsOf (ev env x)) (some (w.heap.size,0))
  ⟨As _,_,heap_alloc_new w _,by omega,λi j pv hi hj=>by
   obtain ⟨u,hu,hr⟩:=h4 j pv hj
   have:i=0:=by omega
   subst this
   exact ⟨u,by rw [<-hu];congr 1;omega,hr⟩⟩ (oZ w _) (λi hi=>hlen) (λi j pv _ hj=>O9 Ag hj)
 obtain ⟨lu,uD⟩:=oX
 refine iG.jJ (val:=.pointer (some ⟨w.heap.size,0,none⟩)) (eK rfl ?_) hK ?_ uD lu
 ·simp [Instr.box,newVar,newRow]
 ·show cN _ _ _ _ _ _ _ _
  unfold cN
  rw [aKt (As _),aLm]
  refine ⟨⟨_,rfl⟩,As _,λ_=>⟨by omega,w.heap.size,0,bH _ _ _,⟨⟨_,_,_,heap_alloc_new w _,aLl _⟩,λ_=>rfl⟩,?_⟩⟩
  simp
theorem LJ (hT:fe P T) (hc:Core μ h S w) (t:Nat) (hp:pop P T (.alloc t) env h K):
  iG P ⟨dst,.alloc t,ty,pos,after,guard⟩ a μ h S w K:=by
 simp only [pop] at hp
 split at hp
 ·rename_i z jP
  obtain ⟨i,zv,hi,hz,hzs,hzl,hzc⟩:=hT.zero t z jP
  generalize jO:lI (T.get t)=sz at*
  have oX:=oK (w1:=w.alloc (.cells zv.cells t)) hc sz 1 t (λ_=>z) (some (w.heap.size,0))
   ⟨As _,_,heap_alloc_new w _,by omega,λi j pv hi hj=>by
    have Ub:j<zv.cells.size:=by
     have:=(An.1 hj).1
     omega
    obtain ⟨gy,h5,_,h6⟩:=hzc j zv.cells[j] (aKA Ub)
    rw [hj] at h5
    injection h5 with h5
    subst h5
    have:i=0:=by omega
    subst this
    exact ⟨_,by rw [<-aKA Ub];congr 1;omega,cQ.lB (h6 S w)⟩⟩ (oZ w _) (λi hi=>hzl) (λi j pv _ hj=>by
  have Ub:j<zv.cells.size:=by have:=(An.1 hj).1;omega
  obtain ⟨gy,h5,_,h6⟩:=hzc j zv.cells[j] (aKA Ub)
  rw [hj] at h5;injection h5 with h5;rw [h5];exact ba.no (h6 S w))
  obtain ⟨lu,uD⟩:=oX
  refine iG.jJ (val:=.pointer (some ⟨w.heap.size,0,none⟩)) (eK rfl ?_) hp ?_ uD lu
  ·simp [Instr.alloc,zeroValue,typeInfo,hi,hz,newVar,newRow]
  ·show cN _ _ _ _ _ _ _ _
   unfold cN
   rw [aKt (As _),aLm]
   refine ⟨⟨_,rfl⟩,As _,λ_=>⟨by omega,w.heap.size,0,bH _ _ _,⟨⟨_,_,_,heap_alloc_new w _,aLl _⟩,λ_=>rfl⟩,?_⟩⟩
   simp
 ·exact aMG
end
section
variable {P:Program} {T:qq} {μ:Mu} {h:List al} {S:Nat->Prop} {w:World}
theorem kY (t tx ty e:TypeId) (i:TypeInfo) (d:TypeDesc) (ht:P.underlying t=some (.slice e)) (hx:P.underlying tx=some d) (hd:(∃e',d=.slice e')\/d=.string) (hi:P.info? e=some i)
  (sa:Option Addr) (sU DF:Nat) (xv:Value) (m:Nat) (news:Array Value) (w':World) (hlen:(Builtin.lenOf xv).run P w=.ok m w) (hfc:(Builtin.firstCells i.size m xv).run P w=.ok news w) (rr:sU+m<=DF)
  (Ag:match sa with | some a=>(storeCells (a.add (sU*i.size)) news.toList).run P w=.ok () w' | none=>w'=w):
  (Builtin.append_ #[t,tx] ty #[.slice sa sU DF,xv]).run P w=.ok (.slice sa (sU+m) DF) w':=by
 rcases hd with ⟨e',rfl⟩ | rfl<;>cases sa with
 | none=>
  have Ag:w'=w:=Ag
  subst Ag
  simp [Builtin.append_,run_underlying ht,run_underlying hx,sizeOf,typeInfo,hi,hlen,rr,hfc]
 | some a=>
  have Ag:(storeCells (a.add (sU*i.size)) news.toList).run P w=.ok () w':=Ag
  simp [Builtin.append_,run_underlying ht,run_underlying hx,sizeOf,typeInfo,hi,hlen,rr,hfc,Ag]
theorem pB (t tx ty e:TypeId) (i:TypeInfo) (z:Value) (d:TypeDesc) (ht:P.underlying t=some (.slice e)) (hx:P.underlying tx=some d) (hd:(∃e',d=.slice e')\/d=.string) (hi:P.info? e=some i) (hz:i.zero=some z)
  (sa:Option Addr) (sU DF:Nat) (xv:Value) (m:Nat) (xX news:Array Value) (hlen:(Builtin.lenOf xv).run P w=.ok m w) (Ua:(Builtin.firstCells i.size sU (.slice sa sU DF)).run P w.drew=.ok xX w.drew)
  (hfc:(Builtin.firstCells i.size m xv).run P w.drew=.ok news w.drew) (hg:DF<sU+m) (Jg:0<i.bytes) (wY:(sU+m)*i.bytes<=140737488355328):
  (Builtin.append_ #[t,tx] ty #[.slice sa sU DF,xv]).run P w=.ok (.slice (some ⟨w.heap.size,0,none⟩) (sU+m) (grownCap w (sU+m) DF e))
   (w.drew.alloc (.cells (xX++news++Builtin.zeroCells z.cells (grownCap w (sU+m) DF e - (sU+m))) e)):=by
 have hn:¬(sU+m<=DF):=by omega
 have hle:sU+m<=(sU+m)*i.bytes:=Nat.le_mul_of_pos_right _ Jg
 have aHB:¬(9223372036854775807<((sU:Int)+(m:Int))):=by omega
 have aIS:=growslice_fits hg wY
 have aHC:¬(281474976710656<Builtin.nextslicecap (sU+m) DF*i.bytes):=by omega
 rcases hd with ⟨e',rfl⟩ | rfl<;>
  simp [Builtin.append_,run_underlying ht,run_underlying hx,sizeOf,typeInfo,zeroValue,hi,hz,hlen,hn,aHB,aHC,Question.forced,hfc,Ua,newRow,grownCap]
theorem LK (b off m sz:Nat) (jO:0<sz) (g:Nat->List PV) (hl:∀i,i<m->(g i).length=sz)
  (bB:∀(i j:Nat) (pv:PV),i<m->(g i)[j]? =some pv->∃u,w.cell? ⟨b,off+i*sz+j,none⟩=some u/\pz μ h S w pv u):
  ∃news:Array Value,news.size=m*sz/\(∀(i j:Nat) (pv:PV),i<m->(g i)[j]? =some pv->∃u,news[i*sz+j]? =some u/\pz μ h S w pv u)/\
   (∀u∈news.toList,u.oneCell'=true)/\∀w',c7 w w'->(loadCells ⟨b,off,none⟩ (m*sz)).run P w'=.ok news w':=by
 let F:Nat->Value:=λq=>(w.cell? ⟨b,off+q,none⟩).getD undef
 have hF:∀(i j:Nat) (pv:PV),i<m->(g i)[j]? =some pv->w.cell? ⟨b,off+(i*sz+j),none⟩=some (F (i*sz+j))/\pz μ h S w pv (F (i*sz+j)):=λi j pv hi hj=>by
  obtain ⟨u,h1,h2⟩:=bB i j pv hi hj
  have e:off+(i*sz+j)=off+i*sz+j:=by omega
  have e2:F (i*sz+j)=u:=by
   show (w.cell? ⟨b,off+(i*sz+j),none⟩).getD undef=u
   rw [e,h1];rfl
  rw [e2,e]
  exact ⟨h1,h2⟩
 have hq:∀q,q<m*sz->∃pv,q / sz<m/\(g (q / sz))[q % sz]? =some pv:=λq hq=>by
  have h1:q / sz<m:=(Nat.div_lt_iff_lt_mul jO).2 hq
  have h2:q % sz<(g (q / sz)).length:=by rw [hl _ h1];exact Nat.mod_lt _ jO
  exact ⟨_,h1,Of h2⟩
 have MJ:∀q,q / sz*sz+q % sz=q:=λq=>by rw [Nat.mul_comm];exact Nat.div_add_mod q sz
 refine ⟨((List.range (m*sz)).map F).toArray,by simp,λi j pv hi hj=>?_,λu hu=>?_,λw' ha=>?_⟩
 ·have O6:j<sz:=by rw [<-hl i hi];exact (An.1 hj).1
  have bc:i*sz+j<m*sz:=by
   have:(i+1)*sz<=m*sz:=aKn _ hi
   rw [aKi] at this
   omega
  exact ⟨F (i*sz+j),by simp [bc],(hF i j pv hi hj).2⟩
 ·simp only [aKJ,aLL] at hu
  obtain ⟨q,hql,rfl⟩:=hu
  obtain ⟨pv,h1,h2⟩:=hq q hql
  have:=(hF _ _ pv h1 h2).2.c.one
  rwa [MJ] at this
 ·refine run_loadCells w' ⟨b,off,none⟩ (m*sz) F λq hql=>?_
  obtain ⟨pv,h1,h2⟩:=hq q hql
  have:=(hF _ _ pv h1 h2).1
  rw [MJ] at this
  rw [Addr.add_lit]
  exact ha.cell this
theorem Rc:∀{l:List PV},noO l=true->∀{j:Nat} {pv:PV},l[j]? =some pv->eh pv=false
 | [],_,j,pv,hj=>by simp at hj
 | c::r,h,0,pv,hj=>by
  simp at hj
  subst hj
  cases c<;>first | rfl | cases h
 | c::r,h,j+1,pv,hj=>Rc (l:=r) (by cases c<;>first | exact h | cases h) aNu
def Src (P:Program) (μ:Mu) (h:List al) (S:Nat->Prop) (w:World) (xv:Value) (sz m:Nat) (g:Nat->List PV):Prop:=
 (∀i,i<m->(g i).length=sz)/\∃news:Array Value,news.size=m*sz/\(∀(i j:Nat) (pv:PV),i<m->(g i)[j]? =some pv->∃u,news[i*sz+j]? =some u/\pz μ h S w pv u)/\
  (∀u∈news.toList,u.oneCell'=true)/\∀w',c7 w w'->(Builtin.lenOf xv).run P w'=.ok m w'/\(Builtin.firstCells sz m xv).run P w'=.ok news w'
theorem Src.empty (xv:Value) (sz:Nat) (g:Nat->List PV) (hx:∃a c,xv=.slice a 0 c):Src P μ h S w xv sz 0 g:=by
 obtain ⟨a,c,rfl⟩:=hx
 refine ⟨λi hi=>absurd hi aNc,#[],by simp,λi j pv hi=>absurd hi aNc,λu hu=>by simp at hu,λw' _=>⟨rfl,?_⟩⟩
 cases a with
 | none=>rfl
 | some a=>simp [Builtin.firstCells,loadCells,loadCellsFrom]
theorem qb (hc:Core μ h S w) (id g off len sz n:Nat) (e:TypeId) (f:Nat->List PV) (hh:h[id]? =some (al.row g sz n e f)) (v:Value) (hv:cj μ h S w (.own id g off len) v) (jO:0<sz):Src P μ h S w v sz len (λi=>f (off+i)):=by
 have hr:=hv.pV
 unfold bG at hr
 rw [hh] at hr
 obtain ⟨_,_,hr⟩:=hr
 obtain ⟨hle,hr⟩:=hr rfl
 obtain ⟨hl,bB⟩:=hc.heap id g sz n e f hh
 cases ju:μ id with
 | none=>
  rw [ju] at hr bB
  have hn:n=0:=bB
  have h0:len=0:=by omega
  subst h0
  exact Src.empty v sz _ ⟨_,_,hr⟩
 | some p=>
  obtain ⟨b,base⟩:=p
  rw [ju] at hr bB
  obtain ⟨ad,cap,hv,hlc,yt,O7⟩:=hr
  obtain ⟨cur,ny,wY,lK⟩:=de.cells O7 bB
  rcases aLf len with h0 | h0
  ·subst h0
   exact Src.empty v sz _ ⟨_,_,hv⟩
  ·have yt:=yt aNc
   subst yt
   obtain ⟨news,q1,q2,q3,q4⟩:=LK (P:=P) (μ:=μ) (h:=h) (S:=S) (w:=w) b (base+off*sz) len sz jO (λi=>f (off+i)) (λi hi=>hl _ aNc) (λi j pv hi hj=>by
    obtain ⟨u,r1,r2⟩:=lK (off+i) j pv aNc hj
    refine ⟨u,?_,r2⟩
    rw [cell_of_row w b _ cur e (0,0) ny,<-r1]
    congr 1
    rw [aKi]
    omega)
   exact ⟨λi hi=>hl _ aNc,news,q1,q2,q3,λw' ha=>⟨by rw [hv];rfl,by rw [hv];exact q4 w' ha⟩⟩
theorem GK (hc:Core μ h S w) (x:PV) (xv:Value) (hx:cj μ h S w x xv) (sz:Nat) (jO:0<sz) (K:Nat->(Nat->List PV)->Prop) (hp:Pd x h sz K):∃m g,K m g/\Src P μ h S w xv sz m g/\∀(i j:Nat) (pv:PV),i<m->(g i)[j]? =some pv->eh pv=false:=by
 unfold Pd at hp
 split at hp
 ·exact ⟨_,_,hp,Src.empty _ _ _ ⟨_,_,hx.qt⟩,λi j pv hi=>absurd hi (aKR _)⟩
 ·rename_i cJ m g
  replace hp:=bX hp
  obtain ⟨B1,hp⟩:=hp
  obtain rfl:=No B1
  refine ⟨m,g,hp,?_⟩
  rcases hx.wC with ⟨a,c,ex,rfl⟩ | ⟨b,off,c,vf,ex,hS,hl,hc',bB,pt⟩
  ·exact ⟨Src.empty _ _ _ ⟨_,_,ex⟩,λi j pv hi=>absurd hi (aKR _)⟩
  ·obtain ⟨news,q1,q2,q3,q4⟩:=LK (P:=P) (μ:=μ) (h:=h) (S:=S) (w:=w) b off m sz jO g hl (λi j pv hi hj=>⟨_,bB i j pv hi hj,(cQ.lB (pt i j pv hi hj)).k (ba.no (pt i j pv hi hj))⟩)
   exact ⟨⟨hl,news,q1,q2,q3,λw' ha=>⟨by rw [ex];rfl,by rw [ex];exact q4 w' ha⟩⟩,λi j pv hi hj=>ba.no (pt i j pv hi hj)⟩
 ·rename_i id gen off m
  split at hp
  ·rename_i g cJ n e f hg
   obtain ⟨rfl,Ah,hp⟩:=hp
   replace hp:=bX hp
   obtain ⟨B1,hp⟩:=hp
   obtain rfl:=No B1
   exact ⟨m,_,hp,qb hc id g off m sz n e f (fY hg) xv hx jO,λi j pv hi hj=>Rc (Ah i hi) hj⟩
  ·exact aMG
 ·rename_i s
  replace hp:=bX hp
  obtain ⟨B1,hp⟩:=hp
  obtain rfl:=No B1
  refine ⟨_,_,hp,⟨λi hi=>rfl,(s.map λb=>Value.int .u8 b.toNat).toArray,by simp,λi j pv hi hj=>?_,λu hu=>?_,λw' _=>⟨by rw [hx.oF];rfl,?_⟩⟩,λi j pv hi hj=>?_⟩
  ·cases j with
   | zero=>
    simp at hj
    subst hj
    refine ⟨.int .u8 (s.getD i 0).toNat,?_,ba.int _ _⟩
    rw [aKb,Of hi]
    simp [hi]
   | succ j=>simp at hj
  ·simp at hu
   obtain ⟨b,_,rfl⟩:=hu
   rfl
  ·rw [hx.oF]
   have e1:(ByteArray.mk ⟨s⟩).extract 0 s.length=ByteArray.mk ⟨s⟩:=by rw [A9];simp
   simp only [Builtin.firstCells,e1]
   simp
  ·cases j with
   | zero=>simp at hj;subst hj;rfl
   | succ j=>simp at hj
 ·exact aMG
end
end Go.Am
