/- Texts of the proof, joined and shortened. -/
import Derived.Test.YtiigfbapjeefbaaGreatDoorPk0
import Derived.WalkLawsBesides
set_option linter.unusedVariables false
set_option linter.unusedSimpArgs false
namespace Go.Am
open Go Go.RowKit
def Cp:TypeDesc->Bool
 | .struct _=>true
 | .array _ _=>true
 | _=>false
def jQ (P:Program):Nat->List Field->List PV->Bool
 | _,[],[]=>true
 | n,f::r,.int k _::z=>f.name != "_" &&Nat.beq f.offset n&&(match P.underlying f.type with | some (.int k')=>qY k k' | _=>false)&&jQ P (n+1) r z
 | n,f::r,.bool _::z=>f.name != "_" &&Nat.beq f.offset n&&(match P.underlying f.type with | some .bool=>true | _=>false)&&jQ P (n+1) r z
 | n,f::r,.str _::z=>f.name != "_" &&Nat.beq f.offset n&&(match P.underlying f.type with | some .string=>true | _=>false)&&jQ P (n+1) r z
 | _,_,_=>false
def GO (P:Program) (t:Nat) (z:List PV):Bool:=match P.underlying t with
 | some (.struct fs)=>!(P.stoodInHeld t)&&!(P.eqGuardType P.depth t)&&jQ P 0 fs.toList z
 | _=>false
structure dJ (P:Program) (T:o9):Prop where
 flat:∀t sz fl z,T.get t=.struct sz fl z->zW z=true->GO P t z=true
 int:∀t k,T.get t=.int k->P.underlying t=some (.int k)
 bool:∀t,T.get t=.bool->P.underlying t=some .bool
 str:∀t,T.get t=.str->P.underlying t=some .string
 ptr:∀t e,T.get t=.ptr e->P.underlying t=some (.pointer e)
 slice:∀t e sz Za z,T.get t=.slice e sz Za z->P.underlying t=some (.slice e)/\0<sz/\∃i zv,P.info? e=some i/\i.size=sz/\i.bytes=Za/\i.zero=some zv/\zv.cells.size=sz/\z.length=sz/\
  ∀(j:Nat) (u:Value),zv.cells[j]? =some u->∃pv:PV,z[j]? =some pv/\u.oneCell'=true/\∀S w,aY S w pv u
 map:∀t k e z,T.get t=.map k e z->P.underlying t=some (.map k e)/\∃i zv,P.info? e=some i/\i.zero=some zv/\qZ z zv/\ko z=true/\storable z=true
 bytes:∀t e sz Za z,T.get t=.slice e sz Za z->0<Za
 one:∀t,lD (T.get t)=1->(∀sz fl z,T.get t≠.struct sz fl z)->∃i,P.info? t=some i/\i.size=1
 zero:∀t z,Cq (T.get t)=some z->∃i zv,P.info? t=some i/\i.zero=some zv/\zv.cells.size=lD (T.get t)/\z.length=lD (T.get t)/\
  ∀(j:Nat) (u:Value),zv.cells[j]? =some u->∃pv:PV,z[j]? =some pv/\u.oneCell'=true/\∀S w,aY S w pv u
 struct:∀t sz fl z,T.get t=.struct sz fl z->∃fs i,P.underlying t=some (.struct fs)/\P.info? t=some i/\i.size=sz/\fl.length=fs.size/\
  (∃zv,i.zero=some zv/\zv.cells.size=sz/\z.length=sz/\∀(j:Nat) (u:Value),zv.cells[j]? =some u->∃pv:PV,z[j]? =some pv/\u.oneCell'=true/\∀S w,aY S w pv u)/\
  ∀(k:Nat) (off size:Nat) (ag:Bool),fl[k]? =some (off,size,ag)->∃f j d,fs[k]? =some f/\f.offset=off/\P.info? f.type=some j/\j.size=size/\0<size/\
   P.underlying f.type=some d/\ag=Cp d
section
variable {P:Program} {T:o9} {μ:Mu} {h:List ak} {S:Nat->Prop} {w:World}
theorem bS.ll {k:IntKind} {n:Int} {v:Value} (hv:bS μ h S w (.int k n) v):v=.int k n:=by
 have hv:aY S w (.int k n) v:=hv
 cases hv;rfl
theorem bS.ng {b:Bool} {v:Value} (hv:bS μ h S w (.bool b) v):v=.bool b:=by
 have hv:aY S w (.bool b) v:=hv
 cases hv;rfl
theorem bS.nh {s:List UInt8} {v:Value} (hv:bS μ h S w (.str s) v):v=.string ⟨⟨s⟩⟩:=by
 have hv:aY S w (.str s) v:=hv
 cases hv;rfl
theorem bS.p9 {v:Value} (hv:bS μ h S w .cd v):v=.slice none 0 0:=by
 have hv:aY S w .cd v:=hv
 cases hv;rfl
theorem bS.Zb {f:Nat} {v:Value} (hv:bS μ h S w (.fn f) v):v=.func (.func f) #[] #[]:=by
 have hv:aY S w (.fn f) v:=hv
 cases hv;rfl
theorem bS.vG {sz n:Nat} {f:Nat->List PV} {v:Value} (hv:bS μ h S w (.ig sz n f) v):
  (∃a c,v=.slice a n c/\n=0)\/∃(b off c:Nat) (vf:Nat->Nat->Value),v=.slice (some ⟨b,off,none⟩) n c/\S b/\(∀i,i<n->(f i).length=sz)/\n<=c/\
   (∀(i j:Nat) (pv:PV),i<n->(f i)[j]? =some pv->w.cell? ⟨b,off+i*sz+j,none⟩=some (vf i j))/\(∀(i j:Nat) (pv:PV),i<n->(f i)[j]? =some pv->aY S w pv (vf i j)):=by
 have hv:aY S w (.ig sz n f) v:=hv
 cases hv with
 | uk _ _ a c=>exact .inl ⟨a,c,rfl,rfl⟩
 | ig _ _ _ b off c vf h1 h2 h3 h4 h5=>exact .inr ⟨b,off,c,vf,rfl,h1,h2,h3,h4,h5⟩
theorem bS.yb {cs:List PV} {v:Value} (hv:bS μ h S w (.gB cs) v):
  ∃(b off:Nat) (vf:Nat->Value),v=.pointer (some ⟨b,off,none⟩)/\S b/\(∀(j:Nat) (pv:PV),cs[j]? =some pv->w.cell? ⟨b,off+j,none⟩=some (vf j))/\(∀(j:Nat) (pv:PV),cs[j]? =some pv->aY S w pv (vf j)):=by
 have hv:aY S w (.gB cs) v:=hv
 cases hv with
 | gB _ b off vf h1 h4 h5=>exact ⟨b,off,vf,rfl,h1,h4,h5⟩
theorem Zc {v:Value} {p:PV} (h:ak6 v=some p):aY S w p v:=by
 cases v with
 | int k n=>cases h;exact aY.int k n
 | bool b=>cases h;exact aY.bool b
 | string s=>
  obtain ⟨⟨l⟩⟩:=s
  cases h
  exact aY.str l
 | slice a n c=>
  cases a with
  | none=>
   cases n with
   | zero=>
    cases c with
    | zero=>cases h;exact aY.cd
    | succ c=>cases h
   | succ n=>cases h
  | some a=>cases h
 | pointer a=>
  cases a with
  | none=>cases h;exact aY.iC
  | some a=>cases h
 | _=>cases h
theorem JH:∀{vs:List Value} {l:List PV},Ri vs=some l->vs.length=l.length/\∀(j:Nat) (pv:PV),l[j]? =some pv->∃u,vs[j]? =some u/\aY S w pv u
 | [],l,h=>by
  cases h
  exact ⟨rfl,λj pv hj=>by simp at hj⟩
 | v::r,l,h=>by
  unfold Ri at h
  cases h1:ak6 v with
  | none=>rw [h1] at h;cases h
  | some p=>
   cases h2:Ri r with
   | none=>rw [h1,h2] at h;cases h
   | some q=>
    rw [h1,h2] at h
    cases h
    obtain ⟨q1,q2⟩:=JH h2
    refine ⟨by simp [q1],λj pv hj=>?_⟩
    cases j with
    | zero=>simp at hj;subst hj;exact ⟨v,rfl,Zc h1⟩
    | succ j=>obtain ⟨u,r1,r2⟩:=q2 j pv aKZ;exact ⟨u,by simpa using r1,r2⟩
theorem JI (v:Value):bS μ h S w (ofValue v) v:=by
 cases v with
 | int k n=>exact aY.int k n
 | bool b=>exact aY.bool b
 | string s=>
  obtain ⟨⟨l⟩⟩:=s
  exact aY.str l
 | slice a n c=>
  cases a with
  | none=>
   cases n with
   | zero=>
    cases c with
    | zero=>exact aY.cd
    | succ c=>trivial
   | succ n=>trivial
  | some a=>trivial
 | pointer a=>
  cases a with
  | none=>exact aY.iC
  | some a=>trivial
 | agg vs=>
  simp only [ofValue]
  cases hl:Ri vs.toList with
  | none=>trivial
  | some l=>
   obtain ⟨q1,q2⟩:=JH (S:=S) (w:=w) hl
   exact ⟨vs,rfl,by simpa using q1,λj pv hj=>by obtain ⟨u,r1,r2⟩:=q2 j pv hj;exact ⟨u,by simpa using r1,cz.lp r2⟩⟩
 | _=>trivial
theorem cA {env:Env} {a:Act} (ht:∀t,bS μ h S w (env t) (a.tmps.getD t undef)) (x:Operand):bS μ h S w (ev env x) (a.eval x):=by
 cases x with
 | tmp t=>exact ht t
 | const v=>exact JI v
 | global g=>trivial
 | func f=>exact aY.fn f
def eh (P:Program) (o:Oper) (a:Act) (μ:Mu) (h:List ak) (S:Nat->Prop) (w:World) (K:PV->Prop):Prop:=
 ∃v val,K v/\bS μ h S w v val/\∀w',cD w w'->(execOp a.eval o).run P w'=.ok (.value val) w'
theorem eh.mk {o:Oper} {a:Act} {K:PV->Prop} {v:PV} {val:Value} (hK:K v) (hv:bS μ h S w v val) (hr:∀w',cD w w'->(execOp a.eval o).run P w'=.ok (.value val) w'):eh P o a μ h S w K:=⟨v,val,hK,hv,hr⟩
variable {a:Act} {env:Env} {K:PV->Prop} {dst:Option Tmp} {ty:TypeId} {pos:String} {after:Array Edge} {guard:Option (Nat×Bool)}
theorem zX {s:Sem Value} {w' Zd:World} {val:Value} (hs:s.run P w'=.ok val Zd):(do pure (Next.value (<-s)):Sem Next).run P w'=.ok (.value val) Zd:=by
 simp [hs]
theorem toList_mk (l:List UInt8):(ByteArray.mk ⟨l⟩).toList=l:=by
 have h:(ByteArray.mk ⟨l⟩).toList=(ByteArray.mk ⟨l⟩).data.toList:=by simp
 rw [h]
theorem Pr {bo:BinOp} {t:TypeId} {x y:Operand} {u u' val:Value} {w':World} (hg:eqGuard bo t x y u u'=pure ()) (hb:(binOp bo t u u').run P w'=.ok val w'):
  (do eqGuard bo t x y u u';binOp bo t u u':Sem Value).run P w'=.ok val w':=by
 rw [hg]
 simp [hb]
theorem sZ {P:Program} {t:TypeId} {d:TypeDesc} (hu:P.underlying t=some d) (hd:Cp d=false) (cs:Array Value) (off:Nat) (v:Value) (hc:cs[off]? =some v) (w:World):(part t cs off).run P w=.ok v w:=by
 have:(isAgg t).run P w=.ok false w:=by
  unfold isAgg
  simp only [Sem.run_bind,run_underlying hu,Result.andThen]
  cases d<;>first | rfl | cases hd
 simp [part,this,hc]
theorem dc {g q:Bool} {o:Option Bool} {b:Bool} (h:JJ g q o=some b):g=true/\∃c,o=some c/\b=(q&&c):=by
 cases o with
 | none=>cases h
 | some c=>cases g with
  | true=>exact ⟨rfl,c,rfl,(aIv h).symm⟩
  | false=>cases h
theorem re {P:Program} {μ:Mu} {h:List ak} {S:Nat->Prop} {w w':World} {xs ys:Array Value} (d:Nat):∀(fs:List Field) (z pxs Ps:List PV) (n:Nat) (b:Bool),jQ P n fs z=true->
  (∀(j:Nat) (pv:PV),pxs[j]? =some pv->∃u,xs[n+j]? =some u/\cz μ h S w pv u)->(∀(j:Nat) (pv:PV),Ps[j]? =some pv->∃u,ys[n+j]? =some u/\cz μ h S w pv u)->
  Fb z pxs Ps=some b->(Op.eqFields (d+1) xs ys fs).run P w'=.ok b w'
 | [],z,pxs,Ps,n,b,hf,_,_,hk=>by
  cases z with
  | nil=>
   cases pxs with
   | nil=>cases Ps with
    | nil=>cases hk;rfl
    | cons _ _=>cases hk
   | cons _ _=>cases hk
  | cons _ _=>simp [jQ] at hf
 | f::fs,z,pxs,Ps,n,b,hf,hx,hy,hk=>by
  have go:∀(c1 c2:PV) (v1 v2:Value) (q c:Bool) (dd:TypeDesc) (z r r':List PV),pxs=c1::r->Ps=c2::r'->(∀u,cz μ h S w c1 u->u=v1)->(∀u,cz μ h S w c2 u->u=v2)->f.name≠ "_" ->f.offset=n->P.underlying f.type=some dd->Cp dd=false->
    (Op.equalIn (d+1) f.type v1 v2).run P w'=.ok q w'->jQ P (n+1) fs z=true->Fb z r r'=some c->(Op.eqFields (d+1) xs ys (f::fs)).run P w'=.ok (q&&c) w':=by
   intro c1 c2 v1 v2 q c dd z r r' e1 e2 Sf hi2 JG aAk hu hd hq hfs vZ
   subst e1 e2
   obtain ⟨u1,Sg,hr1⟩:=hx 0 c1 rfl
   obtain ⟨u2,Pt,hr2⟩:=hy 0 c2 rfl
   obtain rfl:=Sf u1 hr1
   obtain rfl:=hi2 u2 hr2
   have lS:=re (w':=w') d fs z r r' (n+1) c hfs (λj pv hj=>by
     obtain ⟨u,q1,q2⟩:=hx (j+1) pv aKZ
     exact ⟨u,by rw [<-q1];congr 1;omega,q2⟩) (λj pv hj=>by
     obtain ⟨u,q1,q2⟩:=hy (j+1) pv aKZ
     exact ⟨u,by rw [<-q1];congr 1;omega,q2⟩) vZ
   have p1:=sZ hu hd xs f.offset u1 (by rw [aAk];exact Sg) w'
   have p2:=sZ hu hd ys f.offset u2 (by rw [aAk];exact Pt) w'
   unfold Op.eqFields
   rw [if_pos JG]
   simp only [Sem.run_bind,p1,p2,hq,Result.andThen_ok]
   cases q with
   | true=>simpa using lS
   | false=>simp
  unfold Fb at hk
  split at hk
  ·simp [jQ] at hf
  ·rename_i k n0 z k1 a r k2 b' r'
   simp only [jQ,As,bne_iff_ne] at hf
   obtain ⟨⟨⟨h1,h2⟩,h3⟩,h4⟩:=hf
   have h2:=Of h2
   obtain ⟨hg,c,hc,rfl⟩:=dc hk
   simp only [As] at hg
   obtain rfl:=fD hg.1
   obtain rfl:=fD hg.2
   split at h3
   ·rename_i k' hu
    exact go _ _ (.int k a) (.int k b') (a==b') c _ z r r' rfl rfl (λu hu=>by have hu:aY S w (.int k a) u:=hu;cases hu;rfl) (λu hu=>by have hu:aY S w (.int k b') u:=hu;cases hu;rfl) h1 h2 hu rfl (run_equalIn_int w' d _ _ _ _ _ hu) h4 hc
   ·cases h3
  ·rename_i n0 z a r b' r'
   simp only [jQ,As,bne_iff_ne] at hf
   obtain ⟨⟨⟨h1,h2⟩,h3⟩,h4⟩:=hf
   have h2:=Of h2
   obtain ⟨hg,c,hc,rfl⟩:=dc hk
   split at h3
   ·rename_i hu
    exact go _ _ (.bool a) (.bool b') (a==b') c _ z r r' rfl rfl (λu hu=>by have hu:aY S w (.bool a) u:=hu;cases hu;rfl) (λu hu=>by have hu:aY S w (.bool b') u:=hu;cases hu;rfl) h1 h2 hu rfl (run_equalIn_bool w' d _ _ _ hu) h4 hc
   ·cases h3
  ·rename_i n0 z a r b' r'
   simp only [jQ,As,bne_iff_ne] at hf
   obtain ⟨⟨⟨h1,h2⟩,h3⟩,h4⟩:=hf
   have h2:=Of h2
   obtain ⟨hg,c,hc,rfl⟩:=dc hk
   split at h3
   ·rename_i hu
    exact go _ _ (.string ⟨⟨a⟩⟩) (.string ⟨⟨b'⟩⟩) (a==b') c _ z r r' rfl rfl (λu hu=>by have hu:aY S w (.str a) u:=hu;cases hu;rfl) (λu hu=>by have hu:aY S w (.str b') u:=hu;cases hu;rfl) h1 h2 hu rfl (by
     rw [run_equalIn_string w' d _ _ _ hu,toList_mk,toList_mk]) h4 hc
   ·cases h3
  ·cases hk
theorem Rj (hT:dJ P T) (bo:BinOp) (t t':TypeId) (x y:Operand) (px py:PV) (hx:bS μ h S w px (a.eval x)) (hy:bS μ h S w py (a.eval y)) (hp:Rk (T.get t) bo px py K):
  eh P ⟨dst,.binOp bo t x y t',ty,pos,after,guard⟩ a μ h S w K:=by
 have key:∀(v:PV) (val:Value),K v->bS μ h S w v val->eqGuard bo t x y (a.eval x) (a.eval y)=pure ()->(∀w',(binOp bo t (a.eval x) (a.eval y)).run P w'=.ok val w')->
   eh P ⟨dst,.binOp bo t x y t',ty,pos,after,guard⟩ a μ h S w K:=λv val hK hv hg hr=>.mk hK hv λw' _=>zX (Pr hg (hr w'))
 unfold Rk at hp
 split at hp
 ·rename_i k n k' n'
  have ex:=hx.ll
  have ey:=hy.ll
  have hg:eqGuard bo t x y (a.eval x) (a.eval y)=pure ():=by rw [ex];apply eqGuard_at_int
  cases bo<;>simp only at hp
  case shl=>
   have h0:¬n'<0:=by omega
   exact key _ _ hp.2 (aY.int _ _) hg λw'=>by rw [ex,ey,binOp_shl];simp only [Op.shift,if_neg h0];rfl
  case shr=>
   have h0:¬n'<0:=by omega
   exact key _ _ hp.2 (aY.int _ _) hg λw'=>by rw [ex,ey,binOp_shr];simp only [Op.shift,if_neg h0];rfl
  all_goals
   replace hp:=bI hp
   obtain ⟨hk,hp⟩:=hp
   obtain rfl:=fD hk
  case and=>exact key _ _ hp (aY.int _ _) hg λw'=>by rw [ex,ey,binOp_and,intBits_and];rfl
  case or=>exact key _ _ hp (aY.int _ _) hg λw'=>by rw [ex,ey,binOp_or,intBits_or];rfl
  case xor=>exact key _ _ hp (aY.int _ _) hg λw'=>by rw [ex,ey,binOp_xor,intBits_xor];rfl
  case andNot=>exact key _ _ hp (aY.int _ _) hg λw'=>by rw [ex,ey,binOp_andNot,intBits_andNot];rfl
  case add=>exact key _ _ hp (aY.int _ _) hg λw'=>by rw [ex,ey,binOp_add];rfl
  case sub=>exact key _ _ hp (aY.int _ _) hg λw'=>by rw [ex,ey,binOp_sub];rfl
  case mul=>exact key _ _ hp (aY.int _ _) hg λw'=>by rw [ex,ey,binOp_mul];rfl
  case quo=>exact key _ _ hp.2 (aY.int _ _) hg λw'=>by rw [ex,ey,binOp_quo];simp [Op.intDiv,hp.1]
  case rem=>exact key _ _ hp.2 (aY.int _ _) hg λw'=>by rw [ex,ey,binOp_rem];simp [Op.intDiv,hp.1]
  case eql=>exact key _ _ hp (aY.bool _) hg λw'=>by rw [ex,ey,binOp_eql];rfl
  case neq=>exact key _ _ hp (aY.bool _) hg λw'=>by rw [ex,ey,binOp_neq];rfl
  case lss=>exact key _ _ hp (aY.bool _) hg λw'=>by rw [ex,ey,binOp_lss];rfl
  case leq=>exact key _ _ hp (aY.bool _) hg λw'=>by rw [ex,ey,binOp_leq];rfl
  case gtr=>exact key _ _ hp (aY.bool _) hg λw'=>by rw [ex,ey,binOp_gtr];rfl
  case geq=>exact key _ _ hp (aY.bool _) hg λw'=>by rw [ex,ey,binOp_geq];rfl
 ·rename_i b b'
  have ex:=hx.ng
  have ey:=hy.ng
  have hg:eqGuard bo t x y (a.eval x) (a.eval y)=pure ():=by rw [ex];apply eqGuard_at_bool
  split at hp
  ·rename_i gH
   exact key _ _ hp (aY.bool _) hg λw'=>by rw [ex,ey];exact run_eql_bool w' t _ _ (hT.bool _ gH)
  ·rename_i gH
   exact key _ _ hp (aY.bool _) hg λw'=>by rw [ex,ey];exact run_neq_bool w' t _ _ (hT.bool _ gH)
  ·exact aKm
 ·rename_i s s'
  have ex:=hx.nh
  have ey:=hy.nh
  have hg:eqGuard bo t x y (a.eval x) (a.eval y)=pure ():=by rw [ex];apply eqGuard_at_string
  cases bo<;>simp only at hp
  case add=>
   obtain ⟨Dx,_,rfl,Hy⟩:=hp
   refine key _ _ Hy (aY.str _) hg λw'=>?_
   rw [ex,ey,binOp_string_add]
   have h1:¬(((ByteArray.mk ⟨s⟩).size+(ByteArray.mk ⟨s'⟩).size:Nat):Int)>IntKind.i64.max:=by
    have e1:(ByteArray.mk ⟨s⟩).size=s.length:=rfl
    have e2:(ByteArray.mk ⟨s'⟩).size=s'.length:=rfl
    rw [e1,e2,IntKind.max_i64]
    omega
   simp only [Op.stringOp,if_neg h1]
   have h2:ByteArray.mk ⟨s⟩++ByteArray.mk ⟨s'⟩=ByteArray.mk ⟨s++s'⟩:=by
    apply ByteArray.ext
    simp [ByteArray.data_append]
   rw [h2]
   rfl
  case eql=>exact key _ _ hp (aY.bool _) hg λw'=>by rw [ex,ey,binOp_string_eql,toList_mk,toList_mk];rfl
  case neq=>exact key _ _ hp (aY.bool _) hg λw'=>by rw [ex,ey,binOp_string_neq,toList_mk,toList_mk];rfl
  case lss=>exact key _ _ hp (aY.bool _) hg λw'=>by rw [ex,ey,binOp_string_lss,toList_mk,toList_mk];rfl
  case leq=>exact key _ _ hp (aY.bool _) hg λw'=>by rw [ex,ey,binOp_string_leq,toList_mk,toList_mk];rfl
  case gtr=>exact key _ _ hp (aY.bool _) hg λw'=>by rw [ex,ey,binOp_string_gtr,toList_mk,toList_mk];rfl
  case geq=>exact key _ _ hp (aY.bool _) hg λw'=>by rw [ex,ey,binOp_string_geq,toList_mk,toList_mk];rfl
  all_goals exact hp.elim
 ·rename_i pxs Ps
  split at hp
  ·rename_i sz fl z gH
   replace hp:=bI hp
   obtain ⟨hz,hp⟩:=hp
   have M4:=hT.flat _ _ _ _ gH hz
   unfold GO at M4
   split at M4
   ·rename_i fs hu
    simp only [As,aIt] at M4
    obtain ⟨⟨h1,h2⟩,h3⟩:=M4
    obtain ⟨xs,ex,_,hxs⟩:=hx
    obtain ⟨ys,ey,_,hys⟩:=hy
    have M5:P.fieldsOf t=fs:=by simp [Program.fieldsOf,hu]
    have lS:∀b,Fb z pxs Ps=some b->∀w',(Op.equalIn 10000 t (.agg xs) (.agg ys)).run P w'=.ok b w':=λb hk w'=>by
     rw [run_equalIn_struct w' 9999 t xs ys (by rw [M5];exact hu) h1,M5]
     exact re (μ:=μ) (h:=h) (S:=S) (w:=w) 9998 fs.toList z pxs Ps 0 b h3 (λj pv hj=>by rw [aHJ];exact hxs j pv hj) (λj pv hj=>by rw [aHJ];exact hys j pv hj) hk
    have aAl:∀(b:Bool),K (.bool b)->(∀w',(binOp bo t (.agg xs) (.agg ys)).run P w'=.ok (.bool b) w')->eh P ⟨dst,.binOp bo t x y t',ty,pos,after,guard⟩ a μ h S w K:=λb hK hr=>.mk hK (aY.bool b) λw' _=>zX (by
     rw [ex,ey]
     simp [run_eqGuard_agg w' bo t x y xs ys h2,hr w'])
    split at hp
    ·rename_i b hb
     split at hp
     ·obtain ⟨_,rfl,hK⟩:=hp
      exact aAl _ hK λw'=>by rw [run_eql_struct,lS b hb w'];rfl
     ·obtain ⟨_,rfl,hK⟩:=hp
      exact aAl _ hK λw'=>by rw [run_neq_struct,lS b hb w'];rfl
     ·exact aKm
    ·exact aKm
   ·cases M4
  ·exact aKm
 ·exact aKm
theorem yc {t:TypeId} {d:TypeDesc} (hu:P.underlying t=some d) (w':World):(isAgg t).run P w'=.ok (Cp d) w':=by
 unfold isAgg
 simp only [Sem.run_bind,run_underlying hu,Result.andThen]
 cases d<;>rfl
def ado (μ:Mu) (h:List ak) (S:Nat->Prop) (w:World) (cells:List PV) (b off:Nat):Prop:=
 ∀(j:Nat) (pv:PV),cells[j]? =some pv->∃u,w.cell? ⟨b,off+j,none⟩=some u/\cz μ h S w pv u
theorem Cr (hT:dJ P T) (t:Nat) (x:Operand) (cells:List PV) (b off:Nat) (hx:a.eval x=.pointer (some ⟨b,off,none⟩)) (hc:ado μ h S w cells b off) (hp:zi T t cells K)
  (adp:∀pv u,pv∈cells->cz μ h S w pv u->bS μ h S w pv u):
  eh P ⟨dst,.load t x,ty,pos,after,guard⟩ a μ h S w K:=by
 have key:∀(v:PV) (val:Value),K v->bS μ h S w v val->(∀w',cD w w'->(loadVar t ⟨b,off,none⟩).run P w'=.ok val w')->
   eh P ⟨dst,.load t x,ty,pos,after,guard⟩ a μ h S w K:=λv val hK hv hr=>.mk hK hv λw' ha=>by
  refine zX ?_
  rw [hx]
  simp [Instr.loadAt,Instr.sureAddr,hr w' ha]
 have one:∀d,P.underlying t=some d->Cp d=false->(∃c r,cells=c::r/\K c)->
   eh P ⟨dst,.load t x,ty,pos,after,guard⟩ a μ h S w K:=λd hu hd ⟨c,r,hcs,hK⟩=>by
  obtain ⟨u,Sg,Pt⟩:=hc 0 c (by rw [hcs];rfl)
  refine key c u hK (adp c u (by rw [hcs];simp) Pt) λw' ha=>?_
  have h0:=ha.cell Sg
  rw [aIP] at h0
  unfold loadVar
  simp only [Sem.run_bind,yc hu,hd,Result.andThen]
  simp [run_load,h0]
 unfold zi at hp
 split at hp
 ·rename_i sz fl zz gH
  obtain ⟨fs,i,hu,hi,gK,_⟩:=hT.struct _ _ _ _ gH
  replace hp:=qa _ _ _ hp
  obtain ⟨hle,hK⟩:=hp
  simp only [aJB,aIg] at hK
  have hf:∃f:Nat->Value,∀(j:Nat) (pv:PV),cells[j]? =some pv->w.cell? ⟨b,off+j,none⟩=some (f j)/\cz μ h S w pv (f j):=by
   refine ⟨λj=>(w.cell? ⟨b,off+j,none⟩).getD undef,λj pv hj=>?_⟩
   obtain ⟨u,h1,h2⟩:=hc j pv hj
   simp only [h1,aJC]
   exact ⟨trivial,h2⟩
  obtain ⟨f,hf⟩:=hf
  refine key _ (.agg ((List.range sz).map f).toArray) hK ⟨_,rfl,by simp [Nat.min_eq_left hle],λj pv hj=>?_⟩ λw' ha=>?_
  ·rw [aJn] at hj
   split at hj
   ·rename_i K0
    obtain ⟨h1,h2⟩:=hf j pv hj
    exact ⟨f j,by simp [K0],h2⟩
   ·cases hj
  ·unfold loadVar
   have hd:Cp (.struct fs)=true:=rfl
   simp only [Sem.run_bind,yc hu,hd,Result.andThen]
   have hl:=run_loadCells (P:=P) w' ⟨b,off,none⟩ sz f (λj hj=>by
    rw [Addr.add_lit]
    have yK:j<cells.length:=aHX hj hle
    exact ha.cell (hf j _ (abF yK)).1)
   simp [sizeOf,typeInfo,hi,gK,hl]
 ·exact aKm
 ·rename_i h1 h2
  have hcs:∃c r,cells=c::r/\K c:=by
   cases cells with
   | nil=>exact hp.elim
   | cons c r=>exact ⟨c,r,rfl,cK hp⟩
  cases gH:T.get t with
  | int k=>exact one _ (hT.int _ _ gH) rfl hcs
  | bool=>exact one _ (hT.bool _ gH) rfl hcs
  | str=>exact one _ (hT.str _ gH) rfl hcs
  | slice e sz Za z=>exact one _ (hT.slice _ _ _ _ _ gH).1 rfl hcs
  | struct sz fl zz=>exact (h1 _ _ _ gH).elim
  | map k e z=>exact one _ (hT.map _ _ _ _ gH).1 rfl hcs
  | ptr e=>exact one _ (hT.ptr _ _ gH) rfl hcs
  | other=>exact (h2 gH).elim
theorem ez {id:Nat} {g sz n:Nat} {e:TypeId} {f:Nat->List PV} (hh:dz h id=.row g sz n e f):h[id]? =some (ak.row g sz n e f):=by
 unfold dz at hh
 rw [aHL] at hh
 cases ho:h[id]? with
 | none=>rw [ho] at hh;cases hh
 | some o=>rw [ho] at hh;simp at hh;rw [hh]
theorem bS.om {id gen off len:Nat} {v:Value} (hv:bS μ h S w (.own id gen off len) v):bC μ h w id gen off len v:=hv
theorem bS.uZ {id gen i off:Nat} {v:Value} (hv:bS μ h S w (.aC id gen i off) v):cG μ h w id gen i off v:=hv
theorem bS.GP {id:Nat} {v:Value} (hv:bS μ h S w (.oL id) v):gI μ h w id v:=hv
theorem Cs (hH:cZ μ h S w) {id g sz n:Nat} {e:TypeId} {f:Nat->List PV} {v:Value} (hh:h[id]? =some (ak.row g sz n e f)) (hr:gI μ h w id v):
  ∃b base es c,μ id=some (b,base)/\v=.map (some b)/\w.heap[b]? =some (.map es c)/\es.size=n/\
   ∀i,i<n->∃(kp vp:PV) (en:MapEntry),f i=[kp,vp]/\ko kp=true/\ko vp=true/\es[i]? =some en/\qZ kp en.key/\qZ vp en.val:=by
 unfold gI at hr
 rw [hh] at hr
 obtain ⟨_,b,base,hC,⟨es,c,hb⟩,rfl⟩:=hr
 obtain ⟨_,ho⟩:=hH id g sz n e f hh
 rw [hC] at ho
 obtain ⟨o,h1,h2⟩:=ho
 obtain rfl:=aIv (hb.symm.trans h1)
 exact ⟨b,base,es,c,hC,rfl,hb,h2.1,h2.2⟩
theorem yd:∀(z xs ys:List PV) (b:Bool),Fb z xs ys=some b->∀(j:Nat) (pv:PV),ys[j]? =some pv->∀u,tL pv u->cz μ h S w pv u
 | z,xs,ys,b,hk,j,pv,hj,u,hu=>by
  unfold Fb at hk
  split at hk
  ·simp at hj
  ·obtain ⟨_,c,hc,_⟩:=dc hk
   cases j with
   | zero=>simp at hj;subst hj;have hu:u=_:=hu;subst hu;exact aY.int _ _
   | succ j=>exact yd _ _ _ c hc j pv aKZ u hu
  ·obtain ⟨_,c,hc,_⟩:=dc hk
   cases j with
   | zero=>simp at hj;subst hj;have hu:u=_:=hu;subst hu;exact aY.bool _
   | succ j=>exact yd _ _ _ c hc j pv aKZ u hu
  ·obtain ⟨_,c,hc,_⟩:=dc hk
   cases j with
   | zero=>simp at hj;subst hj;have hu:u=_:=hu;subst hu;exact aY.str _
   | succ j=>exact yd _ _ _ c hc j pv aKZ u hu
  ·cases hk
theorem A6:∀(z xs ys:List PV) (b:Bool),Fb z xs ys=some b->xs.length=z.length
 | z,xs,ys,b,hk=>by
  unfold Fb at hk
  split at hk
  ·rfl
  ·obtain ⟨_,c,hc,_⟩:=dc hk
   simp [A6 _ _ _ c hc]
  ·obtain ⟨_,c,hc,_⟩:=dc hk
   simp [A6 _ _ _ c hc]
  ·obtain ⟨_,c,hc,_⟩:=dc hk
   simp [A6 _ _ _ c hc]
  ·cases hk
theorem M6 {kt:TypeId} {fs:Array Field} {z xs:List PV} {vxs:Array Value} (hu:P.underlying kt=some (.struct fs)) (hf:jQ P 0 fs.toList z=true)
  (hx:∀(j:Nat) (pv:PV),xs[j]? =some pv->∃u,vxs[j]? =some u/\cz μ h S w pv u) (hl:xs.length=z.length) (em:Bool) (w':World):(Instr.checkKey em 10000 kt (.agg vxs)).run P w'=.ok () w':=by
 rw [show 10000=9999+1 from rfl,Instr.checkKey]
 simp only [Sem.run_bind,run_underlying hu,Result.andThen_ok]
 rw [<-Array.forIn_toList]
 replace hx:∀(j:Nat) (pv:PV),xs[j]? =some pv->∃u,vxs[0+j]? =some u/\cz μ h S w pv u:=λj pv hj=>by rw [aHJ];exact hx j pv hj
 generalize (0:Nat)=n at hf hx
 generalize fs.toList=L at hf
 clear hu
 induction L generalizing n z xs with
 | nil=>simp
 | cons f L ih=>
  cases z with
  | nil=>simp [jQ] at hf
  | cons c z=>
   cases xs with
   | nil=>simp at hl
   | cons p xs=>
    have aAm:jQ P (n+1) L z=true->(∀(j:Nat) (pv:PV),xs[j]? =some pv->∃u,vxs[n+1+j]? =some u/\cz μ h S w pv u):=λ_ j pv hj=>by
     obtain ⟨u,q1,q2⟩:=hx (j+1) pv aKZ
     exact ⟨u,by rw [<-q1];congr 1;omega,q2⟩
    obtain ⟨u,Sg,_⟩:=hx 0 p rfl
    have key:∃d,P.underlying f.type=some d/\Cp d=false/\f.name≠ "_" /\f.offset=n/\jQ P (n+1) L z=true/\∀u,(Instr.checkKey em 9999 f.type u).run P w'=.ok () w':=by
     cases c with
     | int k n0=>
      simp only [jQ,As,bne_iff_ne] at hf
      obtain ⟨⟨⟨h1,h2⟩,h3⟩,h4⟩:=hf
      split at h3
      ·rename_i k' hu
       exact aKs
      ·cases h3
     | bool b0=>
      simp only [jQ,As,bne_iff_ne] at hf
      obtain ⟨⟨⟨h1,h2⟩,h3⟩,h4⟩:=hf
      split at h3
      ·rename_i hu
       exact aKs
      ·cases h3
     | str s0=>
      simp only [jQ,As,bne_iff_ne] at hf
      obtain ⟨⟨⟨h1,h2⟩,h3⟩,h4⟩:=hf
      split at h3
      ·rename_i hu
       exact aKs
      ·cases h3
     | _=>simp [jQ] at hf
    obtain ⟨d,hu,hd,hn,ho,hfs,hck⟩:=key
    have p1:=sZ hu hd vxs f.offset u (by rw [ho];exact Sg) w'
    have p2:=hck u
    simp only [List.forIn_cons,Sem.run_bind,hn,ne_eq,not_false_eq_true,if_true,Result.andThen_ok,p1,p2,Sem.run_pure]
    exact ih (by simpa using hl) (n+1) (aAm hfs) hfs
def u0 (P:Program) (kt:TypeId) (d:TypeDesc) (s:Bool) (key ek:Value) (q:Bool):Prop:=
 match s with
 | false=>Instr.sameNow d key ek=some q
 | true=>Instr.sameNow d key ek=none/\∀w',(Op.equal kt key ek).run P w'=.ok q w'
theorem Pu (hT:dJ P T) {kt:Nat} {kv:PV} {key:Value} {q0:Bool} (hkv:bS μ h S w kv key) (h0:nE (T.get kt) kv kv=some q0):
  ∃d s,P.underlying kt=some d/\(∀(em:Bool) (w':World),(Instr.checkKey em 10000 kt key).run P w'=.ok () w')/\∀(kp:PV) (ek:Value) (q:Bool),qZ kp ek->nE (T.get kt) kv kp=some q->u0 P kt d s key ek q:=by
 cases gH:T.get kt with
 | int k=>
  rw [gH] at h0
  cases kv<;>simp only [nE] at h0<;>try cases h0
  rename_i k1 x
  have hu:=hT.int _ _ gH
  obtain ⟨hg0,_⟩:=dc h0
  simp only [As] at hg0
  obtain rfl:=fD hg0.1
  obtain rfl:=hkv.ll
  refine ⟨_,false,hu,λem w'=>by rw [show 10000=9999+1 from rfl,Instr.checkKey];simp [run_underlying hu],λkp ek q hs hq=>?_⟩
  cases kp<;>simp only [nE] at hq<;>try cases hq
  rename_i k3 y3
  obtain ⟨hg,c,hc,rfl⟩:=dc hq
  injection hc with hc;subst hc
  simp only [As] at hg
  obtain rfl:=fD hg.2
  obtain rfl:ek=_:=hs
  simp [u0,Instr.sameNow]
 | str=>
  rw [gH] at h0
  cases kv<;>simp only [nE] at h0<;>try cases h0
  rename_i x
  have hu:=hT.str _ gH
  obtain rfl:=hkv.nh
  refine ⟨_,false,hu,λem w'=>by rw [show 10000=9999+1 from rfl,Instr.checkKey];simp [run_underlying hu],λkp ek q hs hq=>?_⟩
  cases kp<;>simp only [nE] at hq<;>try cases hq
  obtain rfl:ek=_:=hs
  rename_i y3
  simp only [u0,Instr.sameNow]
  congr 1
  show ((Array.mk x)==(Array.mk y3))=(x==y3)
  rw [aJb,beq_iff_eq,beq_iff_eq,Array.mk.injEq]
 | struct sz fl z=>
  rw [gH] at h0
  cases kv<;>simp only [nE] at h0<;>try cases h0
  rename_i xs
  split at h0
  ·rename_i hz
   have M4:=hT.flat _ _ _ _ gH hz
   unfold GO at M4
   split at M4
   ·rename_i fs hu
    simp only [As,aIt] at M4
    obtain ⟨⟨h1,h2⟩,h3⟩:=M4
    obtain ⟨vxs,ex,_,hxs⟩:=(show jF μ h S w (.agg xs) key from hkv)
    subst ex
    have M5:P.fieldsOf kt=fs:=by simp [Program.fieldsOf,hu]
    refine ⟨_,true,hu,λem w'=>M6 hu h3 hxs (A6 z xs xs q0 h0) em w',λkp ek q hs hq=>?_⟩
    cases kp<;>simp only [nE,hz] at hq<;>try cases hq
    rename_i Ps
    obtain ⟨vys,rfl,_,hys⟩:=(show ∃vs:Array Value,ek=.agg vs/\vs.size=Ps.length/\∀(j:Nat) (pv:PV),Ps[j]? =some pv->∃u:Value,vs[j]? =some u/\tL pv u from hs)
    refine ⟨rfl,λw'=>?_⟩
    show (Op.equalIn 10000 kt (.agg vxs) (.agg vys)).run P w'=_
    rw [run_equalIn_struct w' 9999 kt vxs vys (by rw [M5];exact hu) h1,M5]
    exact re (μ:=μ) (h:=h) (S:=S) (w:=w) 9998 fs.toList z xs Ps 0 q h3 (λj pv hj=>by rw [aHJ];exact hxs j pv hj) (λj pv hj=>by
     rw [aHJ]
     obtain ⟨u,hu,hr⟩:=hys j pv hj
     exact ⟨u,hu,yd z xs Ps q hq j pv hj u hr⟩) hq
   ·cases M4
  ·cases h0
 | _=>
  rw [gH] at h0
  cases kv<;>simp [nE] at h0
theorem Ct {d:TypeDesc} {key:Value}:∀(l:List MapEntry) (i s:Nat) (en:MapEntry),(∀j,j<i->∀x:MapEntry,l[j]? =some x->Instr.sameNow d key x.key=some false)->l[i]? =some en->Instr.sameNow d key en.key=some true->
  Instr.findNow d key l s=some (some (s+i,en.val))
 | [],i,s,en,_,h,_=>by simp at h
 | x::l,0,s,en,_,h,hq=>by
  simp at h;subst h
  simp [Instr.findNow,hq]
 | x::l,i+1,s,en,hf,h,hq=>by
  have h0:=hf 0 aKK x rfl
  have:=Ct l i (s+1) en (λj hj y hy=>hf (j+1) aKK y aLp) aLi hq
  simp only [Instr.findNow,h0,this]
  congr 3
  omega
theorem ye {d:TypeDesc} {key:Value}:∀(l:List MapEntry) (s:Nat),(∀(j:Nat) (x:MapEntry),l[j]? =some x->Instr.sameNow d key x.key=some false)->Instr.findNow d key l s=some none
 | [],s,_=>rfl
 | x::l,s,hf=>by
  have h0:=hf 0 x rfl
  simp only [Instr.findNow,h0]
  exact ye l (s+1) (λj y hy=>hf (j+1) y aLp)
theorem Cu {kt:TypeId} {key:Value} {w':World}:∀(l:List MapEntry) (i s:Nat) (en:MapEntry),(∀j,j<i->∀x:MapEntry,l[j]? =some x->(Op.equal kt key x.key).run P w'=.ok false w')->l[i]? =some en->(Op.equal kt key en.key).run P w'=.ok true w'->
  (Instr.findAsking kt key l s).run P w'=.ok (some (s+i,en.val)) w'
 | [],i,s,en,_,h,_=>by simp at h
 | x::l,0,s,en,_,h,hq=>by
  simp at h;subst h
  simp [Instr.findAsking,hq]
 | x::l,i+1,s,en,hf,h,hq=>by
  have h0:=hf 0 aKK x rfl
  have:=Cu l i (s+1) en (λj hj y hy=>hf (j+1) aKK y aLp) aLi hq
  simp only [Instr.findAsking,Sem.run_bind,h0,Result.andThen_ok,amb,if_false,this]
  congr 3
  omega
theorem yf {kt:TypeId} {key:Value} {w':World}:∀(l:List MapEntry) (s:Nat),(∀(j:Nat) (x:MapEntry),l[j]? =some x->(Op.equal kt key x.key).run P w'=.ok false w')->(Instr.findAsking kt key l s).run P w'=.ok none w'
 | [],s,_=>rfl
 | x::l,s,hf=>by
  have h0:=hf 0 x rfl
  simp only [Instr.findAsking,Sem.run_bind,h0,Result.andThen_ok,amb,if_false]
  exact yf l (s+1) (λj y hy=>hf (j+1) y aLp)
theorem Cv {kt:TypeId} {d:TypeDesc} {s:Bool} {key:Value} {w':World} (hu:P.underlying kt=some d) (l:List MapEntry) (i:Nat) (en:MapEntry) (hf:∀j,j<i->∀x:MapEntry,l[j]? =some x->u0 P kt d s key x.key false)
  (hi:l[i]? =some en) (hq:u0 P kt d s key en.key true):(Instr.findKey kt key l).run P w'=.ok (some (i,en.val)) w':=by
 unfold Instr.findKey
 cases s with
 | false=>
  have:=Ct l i 0 en hf hi hq
  rw [aHJ] at this
  simp [run_underlying hu,this]
 | true=>
  have h1:=Cu (P:=P) (w':=w') l i 0 en (λj hj x hx=>(hf j hj x hx).2 w') hi (hq.2 w')
  rw [aHJ] at h1
  have h2:Instr.findNow d key l 0=none:=by
   cases l with
   | nil=>simp at hi
   | cons x l=>
    have h3:Instr.sameNow d key x.key=none:=by
     cases i with
     | zero=>simp at hi;subst hi;exact hq.1
     | succ i=>exact (hf 0 aKK x rfl).1
    simp [Instr.findNow,h3]
  simp [run_underlying hu,h2,h1]
theorem yg {kt:TypeId} {d:TypeDesc} {s:Bool} {key:Value} {w':World} (hu:P.underlying kt=some d) (l:List MapEntry) (hf:∀(j:Nat) (x:MapEntry),l[j]? =some x->u0 P kt d s key x.key false):
  (Instr.findKey kt key l).run P w'=.ok none w':=by
 unfold Instr.findKey
 cases s with
 | false=>simp [run_underlying hu,ye l 0 hf]
 | true=>
  have h1:=yf (P:=P) (w':=w') (kt:=kt) (key:=key) l 0 (λj x hx=>(hf j x hx).2 w')
  cases l with
  | nil=>simp [run_underlying hu,Instr.findNow]
  | cons x l=>
   have h3:Instr.sameNow d key x.key=none:=(hf 0 x rfl).1
   simp [run_underlying hu,Instr.findNow,h3,h1]
theorem cz.v {pv:PV} {u:Value} (hc:cz μ h S w pv u):bS μ h S w pv u:=by
 cases pv<;>first | exact (show False from hc).elim | trivial | exact hc
theorem Cw (hT:dJ P T) (hH:cZ μ h S w) (t:Nat) (x:Operand) (px:PV) (hx:bS μ h S w px (a.eval x)) (hp:yh T t px h K):
  eh P ⟨dst,.load t x,ty,pos,after,guard⟩ a μ h S w K:=by
 unfold yh at hp
 split at hp
 ·rename_i cells
  obtain ⟨b,off,vf,e1,_,h2,h3⟩:=hx.yb
  exact Cr hT t x cells b off e1 (λj pv hj=>⟨vf j,h2 j pv hj,cz.lp (h3 j pv hj)⟩) hp λpv u _ hc=>hc.v
 ·rename_i id gen i off
  split at hp
  ·rename_i g sz n e f hg
   obtain ⟨rfl,_,rfl,hp⟩:=hp
   have hh:=ez hg
   have hr:=hx.uZ
   unfold cG at hr
   rw [hh] at hr
   obtain ⟨_,_,hr⟩:=hr
   obtain ⟨Sh,b,base,hC,M7,hv⟩:=hr rfl
   obtain ⟨hl,hc⟩:=hH id g sz n e f hh
   rw [hC] at hc
   obtain ⟨cur,hb,gK,bs⟩:=cZ.cells M7.1 hc
   refine Cr hT t x _ b (base+i*sz+off) hv (λj pv hj=>?_) hp λpv u _ hc=>hc.v
   rw [aIQ] at hj
   obtain ⟨v,h1,h2⟩:=bs i (off+j) pv Sh hj
   refine ⟨v,?_,h2.c⟩
   rw [cell_of_row w b (base+i*sz+off+j) cur e (0,0) hb,<-h1]
   congr 1
   omega
  ·exact aKm
 ·exact aKm
theorem lW {e:TypeId} {i:TypeInfo} (hi:P.info? e=some i) (w':World):(sizeOf e).run P w'=.ok i.size w':=by
 simp [sizeOf,typeInfo,hi]
theorem zY {t e:TypeId} {i:TypeInfo} (hu:P.underlying t=some (.slice e)) (hi:P.info? e=some i) (a:Addr) (n c:Nat) (k:IntKind) (x:Int) (h0:0<=x) (h1:x<n) (w':World):
  (Instr.indexAt t (.slice (some a) n c) (.int k x)).run P w'=.ok (.pointer (some (a.add (x.toNat*i.size)))) w':=by
 have he:P.elem t=e:=by simp [Program.elem,hu]
 rw [run_indexAt_slice w' t a n c k x aLu,if_pos ⟨h0,h1⟩,he,lW hi]
 rfl
theorem JK (hT:dJ P T) (hH:cZ μ h S w) (ht:∀t,bS μ h S w (env t) (a.tmps.getD t undef)) (t:Nat) (x i:Operand) (hp:de T (.indexAddr t x i) env h K):
  eh P ⟨dst,.indexAddr t x i,ty,pos,after,guard⟩ a μ h S w K:=by
 have hx:=cA ht x
 have hi:=cA ht i
 unfold de at hp
 simp only at hp
 split at hp
 ·rename_i e sz bt z cr n f k ix gH hex hei
  rw [hex] at hx
  rw [hei] at hi
  replace hp:=bI hp
  obtain ⟨yL,⟨h0,h1⟩,_,rfl,hK⟩:=hp
  obtain rfl:=Of yL
  have ei:=hi.ll
  obtain ⟨hu,_,inf,zv,lr,pH,_⟩:=hT.slice _ _ _ _ _ gH
  rcases hx.vG with ⟨_,_,_,rfl⟩ | ⟨b,off,c,vf,ex,hS,hl,hc,bs,pa⟩
  ·omega
  ·have hix:ix.toNat<n:=by omega
   refine .mk hK (aY.gB (f ix.toNat) b (off+ix.toNat*sz) (vf ix.toNat) hS (λj pv hj=>bs _ j pv hix hj) (λj pv hj=>pa _ j pv hix hj)) λw' _=>zX ?_
   rw [ex,ei,zY hu lr _ _ _ _ _ h0 h1,pH,Addr.add_lit]
 ·rename_i e sz bt z id gen off len k ix gH hex hei
  rw [hex] at hx
  rw [hei] at hi
  have ei:=hi.ll
  obtain ⟨hu,_,inf,zv,lr,pH,_⟩:=hT.slice _ _ _ _ _ gH
  split at hp
  ·rename_i g cr n e' f Fc
   obtain ⟨rfl,hp⟩:=hp
   replace hp:=bI hp
   obtain ⟨yL,⟨h0,h1⟩,_,rfl,hK⟩:=hp
   obtain ⟨yL,hnb⟩:=Bool.and_eq_true_iff.1 yL
   obtain rfl:=Of yL
   have hh:=ez Fc
   have hr:=hx.om
   unfold bC at hr
   rw [hh] at hr
   obtain ⟨_,_,hr⟩:=hr
   obtain ⟨hle,hr⟩:=hr rfl
   cases hC:μ id with
   | none=>
    rw [hC] at hr
    obtain ⟨_,hz⟩:=hH id _ _ _ _ _ hh
    rw [hC] at hz
    have hz:n=0:=hz
    omega
   | some p=>
    obtain ⟨b,base⟩:=p
    rw [hC] at hr
    obtain ⟨ad,cap,ex,hlc,vH,M7⟩:=hr
    have vH:=vH aKK
    subst vH
    refine .mk hK (v:=.aC id g (off+ix.toNat) 0) (val:=.pointer (some ⟨b,base+(off+ix.toNat)*sz+0,none⟩)) ?_ λw' _=>zX ?_
    ·show cG μ h w id g (off+ix.toNat) 0 _
     unfold cG
     rw [hh]
     exact ⟨⟨_,rfl⟩,No _,λ_=>⟨by omega,b,base,hC,⟨M7.least,λhb=>by rw [hb] at hnb;cases hnb⟩,rfl⟩⟩
    ·rw [ex,ei,zY hu lr _ _ _ _ _ h0 h1,pH,Addr.add_lit]
     have:base+off*sz+ix.toNat*sz=base+(off+ix.toNat)*sz+0:=by rw [aHR];omega
     rw [this]
  ·exact aKm
 ·exact aKm
theorem Cx (hT:dJ P T) (ht:∀t,bS μ h S w (env t) (a.tmps.getD t undef)) (t:Nat) (x i:Operand) (hp:de T (.index t x i) env h K):
  eh P ⟨dst,.index t x i,ty,pos,after,guard⟩ a μ h S w K:=by
 have hx:=cA ht x
 have hi:=cA ht i
 unfold de at hp
 simp only at hp
 split at hp
 ·rename_i s k ix gH hex hei
  rw [hex] at hx
  rw [hei] at hi
  obtain ⟨⟨h0,h1⟩,_,rfl,hK⟩:=hp
  have ei:=hi.ll
  have ex:=hx.nh
  have hu:=hT.str _ gH
  refine .mk hK (aY.int _ _) λw' _=>zX ?_
  rw [ex,ei]
  have hb:(ByteArray.mk ⟨s⟩)[ix.toNat]? =some (s.getD ix.toNat 0):=by
   have bg:ix.toNat<s.length:=by omega
   rw [aHL,abF bg]
   rw [getElem?_pos (ByteArray.mk ⟨s⟩) ix.toNat bg]
   rfl
  simp only [Instr.index,asIntOf,Sem.run_bind,Sem.run_pure,Result.andThen,run_underlying hu,if_pos h0,hb]
 ·exact aKm
theorem Rl (hT:dJ P T) (hH:cZ μ h S w) (ht:∀t,bS μ h S w (env t) (a.tmps.getD t undef)) (args:Array Operand) (ts:Array TypeId) (hp:de T (.call ⟨.builtin .len,args,ts⟩) env h K):
  eh P ⟨dst,.call ⟨.builtin .len,args,ts⟩,ty,pos,after,guard⟩ a μ h S w K:=by
 obtain ⟨args⟩:=args
 obtain ⟨ts⟩:=ts
 unfold de at hp
 simp only at hp
 split at hp
 ·rename_i x t
  have hx:=cA ht x
  have fin:∀(n:Int) (val:Value),a.eval x=val->K (.int .i64 n)->(∀w',(Builtin.len_ #[t] ty #[val]).run P w'=.ok (goInt n) w')->
    eh P ⟨dst,.call ⟨.builtin .len,#[x],#[t]⟩,ty,pos,after,guard⟩ a μ h S w K:=λn val yW hK hr=>.mk hK (aY.int _ _) λw' _=>by
   simp only [execOp,resolve,invoke,builtin,Sem.run_bind,Sem.run_pure,Result.andThen_ok,aJu,aHQ,aIr,yW,hr]
   rfl
  split at hp
  ·rename_i e sz bt z cr n f gH hex
   rw [hex] at hx
   obtain ⟨hu,_⟩:=hT.slice _ _ _ _ _ gH
   have he:P.elem t=e:=by simp [Program.elem,hu]
   rcases hx.vG with ⟨aa,c,ex,rfl⟩ | ⟨b,off,c,vf,ex,_⟩
   ·exact fin _ _ ex hp λw'=>run_len_slice w' t ty _ _ _ aLu
   ·exact fin _ _ ex hp λw'=>run_len_slice w' t ty _ _ _ aLu
  ·rename_i e sz bt z gH hex
   rw [hex] at hx
   obtain ⟨hu,_⟩:=hT.slice _ _ _ _ _ gH
   have he:P.elem t=e:=by simp [Program.elem,hu]
   exact fin _ _ hx.p9 hp λw'=>run_len_slice w' t ty _ _ _ aLu
  ·rename_i e sz bt z id gen off n gH hex
   rw [hex] at hx
   obtain ⟨hu,_⟩:=hT.slice _ _ _ _ _ gH
   have he:P.elem t=e:=by simp [Program.elem,hu]
   split at hp
   ·rename_i g cr n' e' f Fc
    obtain ⟨rfl,hK⟩:=hp
    have hh:=ez Fc
    have hr:=hx.om
    unfold bC at hr
    rw [hh] at hr
    obtain ⟨_,_,hr⟩:=hr
    obtain ⟨hle,hr⟩:=hr rfl
    have yW:∃aa c,a.eval x=.slice aa n c:=by
     cases hC:μ id with
     | none=>
      rw [hC] at hr
      obtain ⟨_,hz⟩:=hH id _ _ _ _ _ hh
      rw [hC] at hz
      have hz:n'=0:=hz
      have:n=0:=by omega
      subst this
      exact ⟨_,_,hr⟩
     | some p=>
      rw [hC] at hr
      obtain ⟨ad,cap,ex,_⟩:=hr
      exact ⟨_,_,ex⟩
    obtain ⟨aa,c,ex⟩:=yW
    exact fin _ _ ex hK λw'=>run_len_slice w' t ty _ _ _ aLu
   ·exact aKm
  ·rename_i s gH hex
   rw [hex] at hx
   have hu:=hT.str _ gH
   refine fin _ _ hx.nh hp λw'=>?_
   simp [Builtin.len_,run_underlying hu]
   rfl
  ·rename_i k0 e0 z0 id gH hex
   rw [hex] at hx
   obtain ⟨hu,_⟩:=hT.map _ _ _ _ gH
   split at hp
   ·rename_i g sz n e f Fc
    obtain ⟨b,base,es,c,hC,ex,hb,hn,_⟩:=Cs hH (ez Fc) hx.GP
    refine .mk hp (aY.int _ _) λw' ha=>?_
    have nA:w'.heap[b]? =some (.map es c):=(ha.blocks b (abL.1 hb).1).trans hb
    simp only [execOp,resolve,invoke,builtin,Sem.run_bind,Sem.run_pure,Result.andThen_ok,aJu,aHQ,aIr,ex]
    rw [show (Builtin.len_ #[t] ty #[.map (some b)]).run P w'=.ok (goInt es.size) w' by simp [Builtin.len_,run_underlying hu,run_getObj_map w' b es c nA]]
    rw [hn]
    rfl
   ·exact aKm
  ·exact aKm
 ·exact aKm
theorem zZ (s:List UInt8) (l m:Nat):(ByteArray.mk ⟨s⟩).extract l m=ByteArray.mk ⟨(s.take m).drop l⟩:=by
 apply ByteArray.ext
 rw [ByteArray.data_extract]
 apply Array.ext'
 rw [aJx]
 simp [Array.toList_extract,List.extract]
theorem Rm (hT:dJ P T) (hH:cZ μ h S w) (id g off len sz n:Nat) (e:TypeId) (f:Nat->List PV) (hh:h[id]? =some (ak.row g sz n e f)) (v:Value) (hv:bS μ h S w (.own id g off len) v) (l m:Nat) (hl:l<=m) (hm:m<=len):
  ∃aa c,v=.slice aa len c/\len<=c/\∀(mx:Nat),m<=mx->mx<=c->bS μ h S w (.own id g (off+l) (m - l)) (.slice (if mx=l then aa else aa.map (·.add (l*sz))) (m - l) (mx - l)):=by
 have hr:=hv.om
 unfold bC at hr
 rw [hh] at hr
 obtain ⟨_,_,hr⟩:=hr
 obtain ⟨hle,hr⟩:=hr rfl
 cases hC:μ id with
 | none=>
  rw [hC] at hr
  obtain ⟨_,hz⟩:=hH id _ _ _ _ _ hh
  rw [hC] at hz
  have hz:n=0:=hz
  have h0:len=0:=by omega
  subst h0
  have hr:v=.slice none 0 0:=hr
  refine ⟨none,0,hr,No _,λmx h1 h2=>?_⟩
  have hm0:m=0:=by omega
  have H8:l=0:=by omega
  have hx0:mx=0:=by omega
  subst hm0
  subst H8
  subst hx0
  show bC μ h w id g (off+0) (0 - 0) _
  unfold bC
  rw [hh]
  refine ⟨⟨_,_,_,rfl⟩,No _,λ_=>⟨by omega,?_⟩⟩
  rw [hC]
  rfl
 | some p=>
  obtain ⟨b,base⟩:=p
  rw [hC] at hr
  obtain ⟨ad,cap,ex,hlc,vH,fY⟩:=hr
  refine ⟨some ad,cap,ex,hlc,λmx h1 h2=>?_⟩
  show bC μ h w id g (off+l) (m - l) _
  unfold bC
  rw [hh]
  refine ⟨⟨_,_,_,rfl⟩,No _,λ_=>⟨by omega,?_⟩⟩
  rw [hC]
  by_cases hml:mx=l
  ·refine ⟨ad,0,by rw [if_pos hml];subst hml;simp,by omega,λh=>absurd h aKK,?_⟩
   obtain ⟨cur,e',z,q1,q2⟩:=fY
   refine ⟨cur,e',z,q1,aIH ?_ q2⟩
   have:(off+l+0)*sz<=(off+cap)*sz:=aHO _ aKK
   omega
  ·have vH:=vH aKK
   subst vH
   refine ⟨⟨b,base+(off+l)*sz,none⟩,mx - l,?_,by omega,λ_=>rfl,?_⟩
   ·rw [if_neg hml,Option.map_some,Addr.add_lit,aHR,aJA]
   ·obtain ⟨cur,e',z,q1,q2⟩:=fY
    refine ⟨cur,e',z,q1,aIH ?_ q2⟩
    have:(off+l+(mx - l))*sz<=(off+cap)*sz:=aHO _ aKK
    omega
theorem Rn (sz n:Nat) (f:Nat->List PV) (v:Value) (hv:bS μ h S w (.ig sz n f) v) (l m:Nat) (hl:l<=m) (hm:m<=n):
  ∃aa c,v=.slice aa n c/\((n<=c\/n=0)/\∀(mx:Nat),m<=mx->(mx<=c\/m=0)->bS μ h S w (.ig sz (m - l) (λi=>f (l+i))) (.slice (if mx=l then aa else aa.map (·.add (l*sz))) (m - l) (mx - l))):=by
 rcases hv.vG with ⟨aa,c,ex,rfl⟩ | ⟨b,off,c,vf,ex,hS,hlen,hc,bs,pa⟩
 ·have hm0:m=0:=by omega
  subst hm0
  have H8:l=0:=by omega
  subst H8
  exact ⟨aa,c,ex,.inr rfl,λmx _ _=>aY.uk _ _ _ _⟩
 ·refine ⟨_,c,ex,.inl hc,λmx h1 h2=>?_⟩
  by_cases hml:m=l
  ·subst hml
   rw [aIR]
   exact aY.uk _ _ _ _
  ·rw [if_neg aKK,Option.map_some,Addr.add_lit]
   refine aY.ig sz (m - l) _ b (off+l*sz) (mx - l) (λi j=>vf (l+i) j) hS (λi hi=>hlen _ aKK) aKK (λi j pv hi hj=>?_) (λi j pv hi hj=>pa _ j pv aKK hj)
   have:=bs (l+i) j pv aKK hj
   rw [aHR] at this
   rw [<-this]
   congr 2
   omega
theorem dN {o:Oper} {s:Sem Value} {val:Value} {w' Zd:World} (he:execOp a.eval o=(do pure (Next.value (<-s)):Sem Next)) (hs:s.run P w'=.ok val Zd):(execOp a.eval o).run P w'=.ok (.value val) Zd:=by
 rw [he];exact zX hs
theorem xd (hx:∀x,bS μ h S w (ev env x) (a.eval x)) {lo:Option Operand}:(lo.map (ev env)=none->lo.map a.eval=none)/\∀k n,lo.map (ev env)=some (.int k n)->lo.map a.eval=some (.int k n):=by
 cases lo with
 | none=>exact ⟨λ_=>rfl,λk n h=>aLh⟩
 | some x=>
  refine ⟨λh=>aLh,λk n hh=>?_⟩
  have hh:ev env x=.int k n:=by injection hh
  have:=hx x
  rw [hh] at this
  show some (a.eval x)=_
  rw [this.ll]
theorem M8 {t e:TypeId} {i:TypeInfo} (hu:P.underlying t=some (.slice e)) (hi:P.info? e=some i) (aa:Option Addr) (n c:Nat) (hc:n<=c) (w':World):
  ((Instr.sliceAt t (.slice aa n c) none none none).run P w'=.ok (sliced aa 0 n c i.size) w')/\
  (∀(k:IntKind) (l:Int),0<=l->l<=n->(Instr.sliceAt t (.slice aa n c) (some (.int k l)) none none).run P w'=.ok (sliced aa l.toNat n c i.size) w')/\
  (∀(k:IntKind) (m:Int),0<=m->m<=n->(Instr.sliceAt t (.slice aa n c) none (some (.int k m)) none).run P w'=.ok (sliced aa 0 m.toNat c i.size) w')/\
  (∀(k:IntKind) (l:Int) (k':IntKind) (m:Int),0<=l->l<=m->m<=n->(Instr.sliceAt t (.slice aa n c) (some (.int k l)) (some (.int k' m)) none).run P w'=.ok (sliced aa l.toNat m.toNat c i.size) w')/\
  (∀(k:IntKind) (m:Int) (k':IntKind) (q:Int),0<=m->m<=q->q<=n->(Instr.sliceAt t (.slice aa n c) none (some (.int k m)) (some (.int k' q))).run P w'=.ok (sliced aa 0 m.toNat q.toNat i.size) w')/\
  (∀(k:IntKind) (l:Int) (k':IntKind) (m:Int) (k'':IntKind) (q:Int),0<=l->l<=m->m<=q->q<=n->(Instr.sliceAt t (.slice aa n c) (some (.int k l)) (some (.int k' m)) (some (.int k'' q))).run P w'=.ok (sliced aa l.toNat m.toNat q.toNat i.size) w'):=by
 have he:P.elem t=e:=by simp [Program.elem,hu]
 have hu':P.underlying t=some (.slice (P.elem t)):=by rw [he];exact hu
 have hcc:(n:Int)<=c:=by omega
 refine ⟨?_,λk l h0 h1=>?_,λk m h0 h1=>?_,λk l k' m h0 h1 h2=>?_,λk m k' q h0 h1 h2=>?_,λk l k' m k'' q h0 h1 h2 h3=>?_⟩<;>rw [run_sliceAt_slice w' _ _ _ _ _ hu']
 ·rw [run_slice_all w' t aa n c hu',he,lW hi];rfl
 ·rw [run_slice_l w' t aa n c hu' k l h0 h1,he,lW hi];rfl
 ·rw [run_slice_h w' t aa n c hu' k m h0 aKK,he,lW hi];rfl
 ·rw [run_slice_lh w' t aa n c hu' k k' l m h0 h1 aKK,he,lW hi];rfl
 ·rw [run_slice_hm w' t aa n c hu' k k' m q h0 h1 aKK,he,lW hi];rfl
 ·rw [run_slice_lhm w' t aa n c hu' k k' k'' l m q h0 h1 h2 aKK,he,lW hi];rfl
theorem eh.choose {o:Oper} (hs:eh P o a μ h S w (JL K)):eh P o a μ h S w K:=by
 obtain ⟨v,val,hK,hv,hr⟩:=hs
 cases v with
 | ig sz n f=>
  obtain ⟨n',f',rfl,hf,hK⟩:=hK
  refine ⟨_,val,hK,?_,hr⟩
  rcases hv.vG with ⟨a,c,rfl,rfl⟩ | ⟨b,off,c,vf,rfl,h1,h2,h3,h4,h5⟩
  ·exact aY.uk _ _ _ _
  ·exact aY.ig sz n' f' b off c vf h1 (λi hi=>by rw [hf i hi];exact h2 i hi) h3 (λi j pv hi hj=>h4 i j pv hi aLn) (λi j pv hi hj=>h5 i j pv hi aLn)
 | str s=>
  obtain ⟨_,rfl,hK⟩:=hK
  exact ⟨_,val,hK,hv,hr⟩
 | own id g off n=>
  obtain ⟨_,_,rfl,rfl,hK⟩:=hK
  exact ⟨_,val,hK,hv,hr⟩
 | _=>exact ⟨_,val,hK,hv,hr⟩
theorem JM (hT:dJ P T) (hH:cZ μ h S w) (ht:∀t,bS μ h S w (env t) (a.tmps.getD t undef)) (t:Nat) (x:Operand) (lo hi mx:Option Operand) (hp:de T (.slice t x lo hi mx) env h K):
  eh P ⟨dst,.slice t x lo hi mx,ty,pos,after,guard⟩ a μ h S w K:=by
 have hx:=cA ht x
 have hlo:=xd (λx=>cA ht x) (lo:=lo)
 have hhi:=xd (λx=>cA ht x) (lo:=hi)
 have hmx:=xd (λx=>cA ht x) (lo:=mx)
 unfold de at hp
 simp only at hp
 have key:∀(K:PV->Prop) (e:TypeId) (i:TypeInfo) (sz n:Nat) (aa:Option Addr) (c:Nat) (R:Nat->Nat->PV),P.underlying t=some (.slice e)->P.info? e=some i->i.size=sz->a.eval x=.slice aa n c->n<=c->
   (∀l m mx,l<=m->m<=n->m<=mx->mx<=c->bS μ h S w (R l m) (.slice (if mx=l then aa else aa.map (·.add (l*sz))) (m - l) (mx - l)))->adq n (hi.map (ev env)) (mx.map (ev env))->
   (match lo.map (ev env),hi.map (ev env) with
    | none,none=>K (R 0 n)
    | some (.int _ l),none=>(0<=l/\l<=n)/\K (R l.toNat n)
    | none,some (.int _ m)=>(0<=m/\m<=n)/\K (R 0 m.toNat)
    | some (.int _ l),some (.int _ m)=>(0<=l/\l<=m/\m<=n)/\K (R l.toNat m.toNat)
    | _,_=>False)->eh P ⟨dst,.slice t x lo hi mx,ty,pos,after,guard⟩ a μ h S w K:=by
  intro K e i sz n aa c R hu lr pH ex hc hR hm hp
  subst pH
  have lS:=λw'=>M8 (P:=P) hu lr aa n c hc w'
  have fin:∀(l m q:Nat),l<=m->m<=n->m<=q->q<=c->K (R l m)->(∀w',(Instr.sliceAt t (.slice aa n c) (lo.map a.eval) (hi.map a.eval) (mx.map a.eval)).run P w'=.ok (sliced aa l m q i.size) w')->
    eh P ⟨dst,.slice t x lo hi mx,ty,pos,after,guard⟩ a μ h S w K:=λl m q h1 h2 h3 h4 hK hr=>.mk hK (hR l m q h1 h2 h3 h4) λw' _=>dN rfl (by rw [ex];exact hr w')
  unfold adq at hm
  split at hm
  ·rename_i e3
   have e3:=hmx.1 e3
   split at hp
   ·rename_i e1 e2
    exact fin 0 n c aKK aKK hc aKK hp λw'=>by rw [hlo.1 e1,hhi.1 e2,e3];exact (lS w').1
   ·rename_i k l e1 e2
    obtain ⟨⟨h0,h1⟩,hp⟩:=hp
    exact fin l.toNat n c aKK aKK hc aKK hp λw'=>by rw [hlo.2 _ _ e1,hhi.1 e2,e3];exact (lS w').2.1 _ _ h0 h1
   ·rename_i k m e1 e2
    obtain ⟨⟨h0,h1⟩,hp⟩:=hp
    exact fin 0 m.toNat c aKK aKK aKK aKK hp λw'=>by rw [hlo.1 e1,hhi.2 _ _ e2,e3];exact (lS w').2.2.1 _ _ h0 h1
   ·rename_i k l k' m e1 e2
    obtain ⟨⟨h0,h1,h2⟩,hp⟩:=hp
    exact fin l.toNat m.toNat c aKK aKK aKK aKK hp λw'=>by rw [hlo.2 _ _ e1,hhi.2 _ _ e2,e3];exact (lS w').2.2.2.1 _ _ _ _ h0 h1 h2
   ·exact aKm
  ·rename_i k'' q e3
   have e3:=hmx.2 _ _ e3
   split at hm
   ·rename_i k3 m e2'
    obtain ⟨hm1,hm2⟩:=hm
    rw [e2'] at hp
    split at hp
    ·rename_i e1 e2
     cases e2
    ·rename_i e1 e2
     cases e2
    ·rename_i k m' e1 e2
     injection e2 with e2
     injection e2 with ea eb
     subst ea
     subst eb
     obtain ⟨⟨h0,h1⟩,hp⟩:=hp
     exact fin 0 m.toNat q.toNat aKK aKK aKK aKK hp λw'=>by rw [hlo.1 e1,hhi.2 _ _ e2',e3];exact (lS w').2.2.2.2.1 _ _ _ _ h0 hm1 hm2
    ·rename_i k l k' m' e1 e2
     injection e2 with e2
     injection e2 with ea eb
     subst ea
     subst eb
     obtain ⟨⟨h0,h1,h2⟩,hp⟩:=hp
     exact fin l.toNat m.toNat q.toNat aKK aKK aKK aKK hp λw'=>by rw [hlo.2 _ _ e1,hhi.2 _ _ e2',e3];exact (lS w').2.2.2.2.2 _ _ _ _ _ _ h0 h1 hm1 hm2
    ·exact aKm
   ·exact hm.elim
  ·exact hm.elim
 split at hp
 ·rename_i e sz bt z cr n f gH hex
  rw [hex] at hx
  replace hp:=bI hp
  obtain ⟨yL,hm,hp⟩:=hp
  obtain rfl:=Of yL
  obtain ⟨hu,_,inf,zv,lr,pH,_⟩:=hT.slice _ _ _ _ _ gH
  have e0:(λi=>f (0+i))=f:=by funext i;rw [aHJ]
  have Ro:=λl m (h1:l<=m) (h2:m<=n)=>Rn sz n f _ hx l m h1 h2
  obtain ⟨aa,c,ex,hc,_⟩:=Ro 0 0 (No _) (aIS _)
  have hc:n<=c:=by rcases hc with hc | hc<;>omega
  refine eh.choose ?_
  refine key (JL K) e inf sz n aa c (λl m=>.ig sz (m - l) (λi=>f (l+i))) hu lr pH ex hc (λl m q h1 h2 h3 h4=>?_) hm ?_
  ·obtain ⟨aa',c',ex',_,hR⟩:=Ro l m h1 h2
   rw [ex] at ex'
   injection ex' with e1 e2 e3
   subst e1
   subst e3
   exact hR q h3 (.inl h4)
  ·simp only [e0,Nat.sub_zero]
   exact hp
 ·rename_i e sz bt z id gen off len gH hex
  rw [hex] at hx
  obtain ⟨hu,_,inf,zv,lr,pH,_⟩:=hT.slice _ _ _ _ _ gH
  split at hp
  ·rename_i g cr n' e' f Fc
   obtain ⟨rfl,hp⟩:=hp
   replace hp:=bI hp
   obtain ⟨yL,hm,hp⟩:=hp
   obtain rfl:=Of yL
   have hh:=ez Fc
   have Ro:=λl m (h1:l<=m) (h2:m<=len)=>Rm hT hH id g off len sz n' e' f hh _ hx l m h1 h2
   obtain ⟨aa,c,ex,hc,_⟩:=Ro 0 0 (No _) (aIS _)
   refine eh.choose ?_
   refine key (JL K) e inf sz len aa c (λl m=>.own id g (off+l) (m - l)) hu lr pH ex hc (λl m q h1 h2 h3 h4=>?_) hm ?_
   ·obtain ⟨aa',c',ex',_,hR⟩:=Ro l m h1 h2
    rw [ex] at ex'
    injection ex' with e1 e2 e3
    subst e1
    subst e3
    exact hR q h3 h4
   ·exact hp
  ·exact aKm
 ·rename_i s gH hex
  rw [hex] at hx
  replace hp:=bI hp
  obtain ⟨hmn,hp⟩:=hp
  obtain rfl:mx=none:=by simpa using hmn
  refine eh.choose ?_
  generalize JL K=K at*
  have ex:=hx.nh
  have hu:=hT.str _ gH
  have gK:(ByteArray.mk ⟨s⟩).size=s.length:=rfl
  have fin:∀(l m:Nat) (s':List UInt8),s'=(s.take m).drop l->K (.str s')->(∀w',(Instr.sliceAt t (.string ⟨⟨s⟩⟩) (lo.map a.eval) (hi.map a.eval) none).run P w'=.ok (.string ((ByteArray.mk ⟨s⟩).extract l m)) w')->
    eh P ⟨dst,.slice t x lo hi none,ty,pos,after,guard⟩ a μ h S w K:=λl m s' hs hK hr=>.mk hK (aY.str _) λw' _=>dN rfl (by rw [ex,hs,<-zZ];exact hr w')
  simp only [Cy] at hp
  split at hp
  ·rename_i e1 e2
   exact fin 0 s.length s aKN hp λw'=>by rw [hlo.1 e1,hhi.1 e2,run_sliceAt_string w' _ _ _ _ _ hu,run_slice_string_all w' t ⟨⟨s⟩⟩ hu];rfl
  ·rename_i k l e1 e2
   obtain ⟨⟨h0,h1⟩,hp⟩:=hp
   exact fin l.toNat s.length _ aKN hp λw'=>by rw [hlo.2 _ _ e1,hhi.1 e2,run_sliceAt_string w' _ _ _ _ _ hu,run_slice_string_l w' t ⟨⟨s⟩⟩ hu k l h0 h1];rfl
  ·rename_i k m e1 e2
   obtain ⟨⟨h0,h1⟩,hp⟩:=hp
   exact fin 0 m.toNat _ aKN hp λw'=>by rw [hlo.1 e1,hhi.2 _ _ e2,run_sliceAt_string w' _ _ _ _ _ hu,run_slice_string_h w' t ⟨⟨s⟩⟩ hu k m h0 h1]
  ·rename_i k l k' m e1 e2
   obtain ⟨⟨h0,h1,h2⟩,hp⟩:=hp
   exact fin l.toNat m.toNat _ rfl hp λw'=>by rw [hlo.2 _ _ e1,hhi.2 _ _ e2,run_sliceAt_string w' _ _ _ _ _ hu,run_slice_string w' t ⟨⟨s⟩⟩ k k' l m hu h0 h1 h2]
  ·exact aKm
 ·exact aKm
theorem qD:∀(cs l:List PV) (off j:Nat),off+cs.length<=l.length->(gF l off cs)[j]? =if off<=j/\j<off+cs.length then cs[j - off]? else l[j]?
 | [],l,off,j,_=>by
  simp only [gF,At,aIP]
  rw [if_neg aKK]
 | c::r,l,off,j,hl=>by
  simp only [gF,an] at hl ⊢
  rw [qD r (l.set off c) (off+1) j aKT]
  by_cases h1:j=off
  ·subst h1
   rw [if_neg aKK,if_pos aKK,aIR,aIx aKK]
   rfl
  ·rw [aId aKK]
   by_cases h2:off+1<=j/\j<off+1+r.length
   ·rw [if_pos h2,if_pos aKK]
    have:j - off=(j - (off+1))+1:=by omega
    rw [this,aIm]
   ·rw [if_neg h2,if_neg aKK]
theorem nn:∀(cs l:List PV) (off:Nat),(gF l off cs).length=l.length
 | [],_,_=>rfl
 | c::r,l,off=>by simp only [gF];rw [nn r];simp
theorem aY.no {pv:PV} {v:Value} (h:aY S w pv v):dW pv=false:=by cases h<;>rfl
theorem Pv {c:PV} (h:mr c=true):dW c=false:=by cases c<;>first | rfl | cases h
theorem M9 {v:PV} (h:storable v=true) {j:Nat} {pv:PV} (hj:(cellsOf v)[j]? =some pv):dW pv=false:=by
 have hm:=aHU hj
 cases v with
 | agg cs=>exact Pv (aHH.1 h pv hm)
 | _=>exact Pv (by rw [aJy.1 hm];exact h)
theorem nq {pv:PV} {v:Value} (hs:storable pv=true) (hv:bS μ h S w pv v):
  v.cells.toList.length=(cellsOf pv).length/\∀(j:Nat) (p:PV),(cellsOf pv)[j]? =some p->∃u,v.cells.toList[j]? =some u/\cz μ h S w p u:=by
 have one:∀(hc:cz μ h S w pv v),cellsOf pv=[pv]->v.cells.toList.length=(cellsOf pv).length/\∀(j:Nat) (p:PV),(cellsOf pv)[j]? =some p->∃u,v.cells.toList[j]? =some u/\cz μ h S w p u:=by
  intro hc he
  have h1:=hc.one
  have h2:v.cells=#[v]:=by cases v<;>first | rfl | cases h1
  rw [h2,he]
  refine ⟨rfl,λj p hj=>?_⟩
  cases j with
  | zero=>
   simp at hj
   subst hj
   exact ⟨v,rfl,hc⟩
  | succ j=>simp at hj
 cases pv with
 | agg cs=>
  obtain ⟨vs,rfl,h2,h3⟩:=hv
  refine ⟨by simpa [Value.cells,cellsOf] using h2,λj p hj=>?_⟩
  obtain ⟨u,hu,hr⟩:=h3 j p hj
  exact ⟨u,by simpa [Value.cells] using hu,hr⟩
 | fv vs=>cases hs
 | dY sz n e f F=>cases hs
 | jf=>cases hs
 | oL id=>exact one hv rfl
 | qE f cH=>exact one hv rfl
 | int k n=>exact one hv rfl
 | bool b=>exact one hv rfl
 | str s=>exact one hv rfl
 | cd=>exact one hv rfl
 | iC=>exact one hv rfl
 | ig sz n f=>exact one hv rfl
 | gB cs=>exact one hv rfl
 | own id gen off len=>exact one hv rfl
 | aC id gen i off=>exact one hv rfl
 | fn f=>exact one hv rfl
theorem Fe:∀(l:List Value) (s off:Nat) (cs:Array Value),off+s+l.length<=cs.size->
  ((l.zipIdx s).foldl (λ(cs:Array Value) (p:Value×Nat)=>cs.setIfInBounds (off+p.2) p.1) cs).size=cs.size/\
  ∀q,((l.zipIdx s).foldl (λ(cs:Array Value) (p:Value×Nat)=>cs.setIfInBounds (off+p.2) p.1) cs)[q]? =if off+s<=q/\q<off+s+l.length then l[q - (off+s)]? else cs[q]?
 | [],s,off,cs,_=>by
  refine ⟨rfl,λq=>?_⟩
  simp only [List.zipIdx_nil,List.foldl_nil,At,aIP]
  rw [if_neg aKK]
 | v::r,s,off,cs,hl=>by
  simp only [an] at hl
  obtain ⟨h1,h2⟩:=Fe r (s+1) off (cs.setIfInBounds (off+s) v) aKT
  simp only [List.zipIdx_cons,List.foldl_cons,an]
  refine ⟨by rw [h1];simp,λq=>?_⟩
  rw [h2 q]
  by_cases hq:q=off+s
  ·subst hq
   rw [if_neg aKK,if_pos aKK,aIR]
   simp [Array.getElem?_setIfInBounds,show off+s<cs.size from by omega]
  ·by_cases hr:off+(s+1)<=q/\q<off+(s+1)+r.length
   ·rw [if_pos hr,if_pos aKK]
    have:q - (off+s)=(q - (off+(s+1)))+1:=by omega
    rw [this,aIm]
   ·rw [if_neg hr,if_neg aKK,aJv aKK]
theorem tM (v:Value) (off:Nat) (cs:Array Value) (hl:off+v.cells.size<=cs.size):
  (v.cells.zipIdx.foldl (λ(cs:Array Value) (p:Value×Nat)=>cs.setIfInBounds (off+p.2) p.1) cs).size=cs.size/\
  ∀q,(v.cells.zipIdx.foldl (λ(cs:Array Value) (p:Value×Nat)=>cs.setIfInBounds (off+p.2) p.1) cs)[q]? =if off<=q/\q<off+v.cells.size then v.cells[q - off]? else cs[q]? :=by
 have h:=Fe v.cells.toList 0 off cs (by simpa using hl)
 rw [<-Array.foldl_toList]
 simp only [Array.toList_zipIdx,aIP,aIA,aHZ] at h ⊢
 exact h
theorem Na {l:List PV} (hb:isByte l=true):∃v,l=[.int .u8 v]:=by
 unfold isByte at hb
 split at hb
 ·exact aKt
 ·cases hb
theorem Cz {g:Nat->List PV} {s:List UInt8} {n:Nat} (hl:s.length=n) (hf:∀i,i<n->g i=[.int .u8 (s.getD i 0).toNat]):(∀i,i<n->isByte (g i)=true)/\(List.range n).map (λi=>byteOf (g i))=s:=by
 refine ⟨λi hi=>by rw [hf i hi];rfl,?_⟩
 apply List.ext_getElem (by simp [hl])
 intro i h1 h2
 simp only [aJm,List.length_range] at h1
 rw [List.getElem_map,List.getElem_range,hf i h1]
 simp [byteOf,aHL,abF h2]
theorem Eg (hT:dJ P T) (hH:cZ μ h S w) (ht:∀t,bS μ h S w (env t) (a.tmps.getD t undef)) (s d:Nat) (x:Operand) (hp:de T (.convert s d x) env h K):
  eh P ⟨dst,.convert s d x,ty,pos,after,guard⟩ a μ h S w K:=by
 have hx:=cA ht x
 unfold de at hp
 simp only at hp
 split at hp
 ·rename_i k0 k k1 n hs hd hex
  rw [hex] at hx
  exact .mk hp (aY.int _ _) λw' _=>dN rfl (by
   rw [hx.ll]
   simp [convert,run_underlying (hT.int _ _ hs),run_underlying (hT.int _ _ hd),Conv.intToInt])
 ·rename_i e sz bt z hs hd
  split at hp
  ·rename_i hte
   have hu:=(hT.slice _ _ _ _ _ hs).1
   have hue:=hT.int _ _ hte
   have hud:=hT.str _ hd
   have key:∀(b off c n:Nat) (g:Nat->List PV),a.eval x=.slice (some ⟨b,off,none⟩) n c->(∀i,i<n->isByte (g i)=true)->K (.str ((List.range n).map λi=>byteOf (g i)))->
     (∀i v,i<n->g i=[.int .u8 v]->w.cell? ⟨b,off+i,none⟩=some (.int .u8 v))->eh P ⟨dst,.convert s d x,ty,pos,after,guard⟩ a μ h S w K:=by
    intro b off c n g ex hb hK bs
    have num:∀i,i<n->∃v,g i=[.int .u8 v]:=λi hi=>Na (hb i hi)
    let val:Nat->Int:=λi=>match g i with | [.int _ v]=>v | _=>0
    have yW:∀i,i<n->g i=[.int .u8 (val i)]:=λi hi=>by
     obtain ⟨v,hv⟩:=num i hi
     simp only [val,hv]
    refine .mk hK (aY.str _) λw' ha=>dN rfl ?_
    rw [ex,run_convert_bytes_arg w' s e hu hue b off n c ((List.range n).map val) aKN (λi hi=>?_) d hud]
    ·congr 2
     simp only [strOfNums]
     have:((List.range n).map val).map (λq=>UInt8.ofNat q.toNat)=(List.range n).map λi=>byteOf (g i):=by
      rw [List.map_map]
      apply List.map_congr_left
      intro i hi
      rw [yW i (aJi.1 hi)]
      rfl
     rw [this]
    ·rw [ha.cell (bs i _ hi (yW i hi))]
     simp [aHL,hi]
   unfold xe at hp
   split at hp
   ·rename_i hex
    rw [hex] at hx
    refine .mk hp (aY.str _) λw' _=>dN rfl ?_
    rw [hx.p9,run_convert_bytes_nil w' s e hu hue 0 0 d hud]
    rfl
   ·rename_i cr n f hex
    rw [hex] at hx
    replace hp:=bI hp
    obtain ⟨h1,s0,H8,hf0,hK⟩:=hp
    obtain ⟨hb,hs0⟩:=Cz H8 hf0
    replace hK:K (.str s0):=hK
    rw [<-hs0] at hK
    clear H8 hf0 hs0
    obtain rfl:=Of h1
    rcases hx.vG with ⟨aa,c,ex,rfl⟩ | ⟨b,off,c,vf,ex,hS,hl,hc,bs,pa⟩
    ·cases aa with
     | none=>
      refine .mk hK (aY.str _) λw' _=>dN rfl ?_
      rw [ex,run_convert_bytes_nil w' s e hu hue 0 c d hud]
      rfl
     | some ad=>
      refine .mk hK (aY.str _) λw' _=>dN rfl ?_
      rw [ex,run_convert_bytes_string w' s d e _ 0 c hu hue hud,run_bytesToString w' ad 0 c [] (by simp [loadCells,loadCellsFrom])]
      rfl
    ·refine key b off c n f ex hb hK λi v hi hv=>?_
     have q1:=bs i 0 (.int .u8 v) hi (by rw [hv];rfl)
     have q2:=pa i 0 (.int .u8 v) hi (by rw [hv];rfl)
     rw [Nat.mul_one,aIP] at q1
     rw [q1]
     generalize vf i 0=u at q2
     cases q2
     rfl
   ·rename_i id gen off n hex
    rw [hex] at hx
    split at hp
    ·rename_i g cr n' e' f Fc
     obtain ⟨rfl,hp⟩:=hp
     replace hp:=bI hp
     obtain ⟨h1,s0,H8,hf0,hK⟩:=hp
     obtain ⟨hb,hs0⟩:=Cz (g:=λi=>f (off+i)) H8 hf0
     replace hK:K (.str s0):=hK
     rw [<-hs0] at hK
     clear H8 hf0 hs0
     obtain rfl:=Of h1
     have hh:=ez Fc
     have hr:=hx.om
     unfold bC at hr
     rw [hh] at hr
     obtain ⟨⟨a0,l0,c0,e0⟩,_,hr⟩:=hr
     obtain ⟨hln,hr⟩:=hr rfl
     obtain ⟨hl,hc⟩:=hH id g 1 n' e' f hh
     cases hm:μ id with
     | none=>
      rw [hm] at hr hc
      have hn0:n=0:=by omega
      subst hn0
      refine .mk hK (aY.str _) λw' _=>dN rfl ?_
      rw [show a.eval x=.slice none 0 0 from hr,run_convert_bytes_nil w' s e hu hue 0 0 d hud]
      rfl
     | some p=>
      obtain ⟨b,base⟩:=p
      rw [hm] at hr hc
      obtain ⟨ad,cap,ex,fY,vH,M7⟩:=hr
      obtain ⟨cur,nA,um,bs⟩:=cZ.cells M7 hc
      rcases aIL n with h0 | h0
      ·subst h0
       refine .mk hK (aY.str _) λw' _=>dN rfl ?_
       rw [ex,run_convert_bytes_string w' s d e _ 0 cap hu hue hud,run_bytesToString w' ad 0 cap [] (by simp [loadCells,loadCellsFrom])]
       rfl
      ·rw [vH aKK,Nat.mul_one] at ex
       refine key b (base+off) cap n (λi=>f (off+i)) ex hb hK λi v hi hv=>?_
       obtain ⟨u,q1,q2⟩:=bs (off+i) 0 (.int .u8 v) aKK (by rw [hv];rfl)
       have q2:aY S w (.int .u8 v) u:=q2
       cases q2
       rw [cell_of_row w b (base+off+i) cur e' (0,0) nA,<-q1]
       congr 1
       omega
    ·exact aKm
   ·exact aKm
  ·exact aKm
 ·exact aKm
theorem CA (ht:∀t,bS μ h S w (env t) (a.tmps.getD t undef)) (x:Operand) (hp:de T (.nilCheck x) env h K):
  eh P ⟨dst,.nilCheck x,ty,pos,after,guard⟩ a μ h S w K:=by
 have hx:=cA ht x
 unfold de at hp
 simp only at hp
 split at hp
 ·rename_i cs hex
  rw [hex] at hx
  obtain ⟨b,off,vf,ex,_⟩:=hx.yb
  exact .mk hp hx λw' _=>by simp [execOp,ex]
 ·rename_i id gen i off hex
  rw [hex] at hx
  split at hp
  ·rename_i g sz n e f Fc
   obtain ⟨rfl,hp⟩:=hp
   have hh:=ez Fc
   have hr:=hx.uZ
   unfold cG at hr
   rw [hh] at hr
   obtain ⟨_,_,hr⟩:=hr
   obtain ⟨Sh,b,base,hC,M7,hv⟩:=hr rfl
   exact .mk hp hx λw' _=>by simp [execOp,hv]
  ·exact aKm
 ·exact aKm
theorem z6 (hT:dJ P T) {s sz k o size:Nat} {fl:List (Nat×Nat×Bool)} {z:List PV} {ag:Bool} (gH:T.get s=.struct sz fl z) (hk:fl[k]? =some (o,size,ag)) (b off:Nat) (w':World):
  (Instr.fieldAt s (.pointer (some ⟨b,off,none⟩)) k).run P w'=.ok (.pointer (some ⟨b,off+o,none⟩)) w':=by
 obtain ⟨fs,i,hu,hi,gK,M4,_,hf⟩:=hT.struct _ _ _ _ gH
 obtain ⟨f,j,d,h1,h2,h3,h4,h5,h6,h7⟩:=hf k o size ag hk
 have h0:¬j.size=0:=by omega
 simp [Instr.fieldAt,run_underlying hu,h1,Instr.sureAddr,fieldPlace,lW h3,h0,Addr.add_lit,h2]
theorem AK (hT:dJ P T) (ht:∀t,bS μ h S w (env t) (a.tmps.getD t undef)) (s:Nat) (x:Operand) (k:Nat) (hp:de T (.fieldAddr s x k) env h K):
  eh P ⟨dst,.fieldAddr s x k,ty,pos,after,guard⟩ a μ h S w K:=by
 have hx:=cA ht x
 unfold de at hp
 simp only at hp
 split at hp
 ·rename_i sz fl z gH
  split at hp
  ·rename_i o size ag hk
   split at hp
   ·rename_i cs hex
    rw [hex] at hx
    obtain ⟨b,off,vf,ex,hS,bs,pa⟩:=hx.yb
    refine .mk hp (aY.gB (cs.drop o) b (off+o) (λj=>vf (o+j)) hS (λj pv hj=>?_) (λj pv hj=>?_)) λw' _=>dN rfl (by rw [ex];exact z6 hT gH hk b off w')
    ·rw [aIQ] at hj
     rw [aJA]
     exact bs _ _ hj
    ·rw [aIQ] at hj
     exact pa _ _ hj
   ·rename_i id gen i off hex
    rw [hex] at hx
    split at hp
    ·rename_i g cr n e f Fc
     obtain ⟨rfl,hp⟩:=hp
     have hh:=ez Fc
     have hr:=hx.uZ
     unfold cG at hr
     rw [hh] at hr
     obtain ⟨_,_,hr⟩:=hr
     obtain ⟨Sh,b,base,hC,M7,hv⟩:=hr rfl
     refine .mk hp ?_ λw' _=>dN rfl (by rw [hv];exact z6 hT gH hk b _ w')
     show cG _ _ _ _ _ _ _ _
     unfold cG
     rw [hh]
     exact ⟨⟨_,rfl⟩,No _,λ_=>⟨Sh,b,base,hC,M7,by simp only [aJA]⟩⟩
    ·exact aKm
   ·exact aKm
  ·exact aKm
 ·exact aKm
theorem yi (ht:∀t,bS μ h S w (env t) (a.tmps.getD t undef)) (sz:Nat) (fl:List (Nat×Nat×Bool)) (place:Nat->Option (Nat×Nat)) (Hn:∀(k o size:Nat) (ag:Bool),fl[k]? =some (o,size,ag)->place k=some (o,size)) {K:List PV->Prop}:
  ∀(l:List (Nat×Operand)) (acc:List PV) (cells:Array Value),qb env sz fl K l acc->cells.size=sz->acc.length=sz->(∀(j:Nat) (pv:PV),acc[j]? =some pv->∃u,cells[j]? =some u/\cz μ h S w pv u)->
  ∃Rp jA,K Rp/\Instr.fill place cells (l.map λp=>(p.1,a.eval p.2))=some jA/\jA.size=sz/\Rp.length=sz/\∀(j:Nat) (pv:PV),Rp[j]? =some pv->∃u,jA[j]? =some u/\cz μ h S w pv u
 | [],acc,cells,hp,hs,hl,hr=>⟨acc,cells,hp,rfl,hs,hl,hr⟩
 | (k,x)::r,acc,cells,hp,hs,hl,hr=>by
  unfold qb at hp
  split at hp
  ·rename_i o size ag hk
   replace hp:=bI (cK hp)
   obtain ⟨qF,hp⟩:=hp
   simp only [As] at qF
   obtain ⟨⟨sy,hlen⟩,um⟩:=qF
   have hlen:=Of hlen
   have um:=aHV um
   obtain ⟨h3,h4⟩:=nq sy (cA ht x)
   simp only [aIA,aHZ] at h3 h4
   have hvs:(a.eval x).cells.size=size:=h3.trans hlen
   obtain ⟨g1,g2⟩:=tM (a.eval x) o cells aKK
   obtain ⟨Rp,jA,q1,q2,q3⟩:=yi ht sz fl place Hn r (gF acc o (cellsOf (ev env x))) ((a.eval x).cells.zipIdx.foldl (λ(cs:Array Value) (p:Value×Nat)=>cs.setIfInBounds (o+p.2) p.1) cells) hp (g1.trans hs) (by rw [nn];exact hl)
    (λj pv hj=>by
     rw [qD _ _ _ _ aKK] at hj
     rw [g2 j]
     by_cases hc:o<=j/\j<o+size
     ·rw [if_pos aKK] at hj
      rw [if_pos aKK]
      exact h4 _ _ hj
     ·rw [if_neg aKK] at hj
      rw [if_neg aKK]
      exact hr j pv hj)
   refine ⟨Rp,jA,q1,?_,q3⟩
   simp only [aHQ,Instr.fill,Hn k o size ag hk]
   rw [if_neg (by simp only [hvs,ne_eq,not_true_eq_false,false_or];simp only [aIJ,decide_eq_true_eq,not_or];simp;omega)]
   exact q2
  ·exact aKm
theorem Ff:∀(fs:List Field) (n:Nat) (fl:List (Nat×Nat×Bool)),fl.length=fs.length->
  (∀(k o size:Nat) (ag:Bool),fl[k]? =some (o,size,ag)->∃f j,fs[k]? =some f/\f.offset=o/\P.info? f.type=some j/\j.size=size)->
  fs.mapM (λf=>(P.info? f.type).map λi=>(f.offset,i.size))=some (fl.map λq=>(q.1,q.2.1))
 | [],n,[],_,_=>rfl
 | f::fs,n,(o,size,ag)::fl,hl,hf=>by
  obtain ⟨f',j,h1,h2,h3,h4⟩:=hf 0 o size ag rfl
  simp at h1
  subst h1
  have ih:=Ff fs n fl (by simpa using hl) (λk o size ag hk=>by
   obtain ⟨f,j,q⟩:=hf (k+1) o size ag (by simpa using hk)
   exact ⟨f,j,by simpa using q⟩)
  simp only [List.mapM_cons,aHQ,h3,Option.map_some,Option.bind_eq_bind,aJD,ih,h2,h4]
  rfl
theorem JN (hT:dJ P T) (ht:∀t,bS μ h S w (env t) (a.tmps.getD t undef)) (t:Nat) (parts:Array (Nat×Operand)) (hp:de T (.build t parts) env h K):
  eh P ⟨dst,.build t parts,ty,pos,after,guard⟩ a μ h S w K:=by
 unfold de at hp
 simp only at hp
 split at hp
 ·rename_i sz fl z gH
  obtain ⟨fs,i,hu,hi,gK,M4,⟨zv,hz,Si,Ze,Sj⟩,hf⟩:=hT.struct _ _ _ _ gH
  have Hn:=Ff (P:=P) fs.toList 0 fl (by simpa using M4) (λk o size ag hk=>by
   obtain ⟨f,j,d,h1,h2,h3,h4,_⟩:=hf k o size ag hk
   exact ⟨f,j,by simpa using h1,h2,h3,h4⟩)
  obtain ⟨Rp,jA,q1,q2,q3,q4,q5⟩:=yi (a:=a) (μ:=μ) (h:=h) (S:=S) (w:=w) ht sz fl ((fl.map λq=>(q.1,q.2.1)).toArray[·]?) (λk o size ag hk=>by simp [hk]) parts.toList z zv.cells hp Si Ze (λj pv hj=>by
   have Sk:j<zv.cells.size:=by
    have:=(An.1 hj).1
    omega
   obtain ⟨gw,h5,_,h6⟩:=Sj j zv.cells[j] (aIa Sk)
   rw [hj] at h5
   injection h5 with h5
   subst h5
   exact ⟨_,aIa Sk,cz.lp (h6 S w)⟩)
  refine .mk q1 ⟨jA,rfl,by omega,q5⟩ λw' _=>dN rfl (run_build w' t _ jA ?_)
  unfold Program.built
  simp only [hi,hu,hz,Hn]
  have:(parts.map λp=>(p.1,a.eval p.2)).toList=parts.toList.map λp=>(p.1,a.eval p.2):=by simp
  rw [this]
  exact q2
 ·exact aKm
theorem JO {P:Program} {t:TypeId} {d:TypeDesc} {j:TypeInfo} (hu:P.underlying t=some d) (hi:P.info? t=some j) (cs:Array Value) (off:Nat) (w:World):
  (part t cs off).run P w=if Cp d then .ok (.agg (cs.extract off (off+j.size))) w else match cs[off]? with | some v=>.ok v w | none=>(part t cs off).run P w:=by
 cases hd:Cp d with
 | true=>simp [part,yc hu,hd,lW hi]
 | false=>
  simp only [amb,if_false]
  cases hc:cs[off]? with
  | none=>rfl
  | some v=>simp [part,yc hu,hd,hc]
theorem JP (hT:dJ P T) (ht:∀t,bS μ h S w (env t) (a.tmps.getD t undef)) (s:Nat) (x:Operand) (k:Nat) (hp:de T (.field s x k) env h K):
  eh P ⟨dst,.field s x k,ty,pos,after,guard⟩ a μ h S w K:=by
 have hx:=cA ht x
 unfold de at hp
 simp only at hp
 split at hp
 ·rename_i sz fl z gH
  split at hp
  ·rename_i o size ag hk
   split at hp
   ·rename_i cs hex
    rw [hex] at hx
    obtain ⟨vs,ex,gK,hv⟩:=hx
    obtain ⟨fs,i,hu,hi,pH,M4,_,hf⟩:=hT.struct _ _ _ _ gH
    obtain ⟨f,j,d,h1,h2,h3,h4,h5,h6,h7⟩:=hf k o size ag hk
    have lS:∀w' v,(part f.type vs f.offset).run P w'=.ok v w'->(execOp a.eval ⟨dst,.field s x k,ty,pos,after,guard⟩).run P w'=.ok (.value v) w':=λw' v hr=>dN rfl (by
     rw [ex]
     simp [Instr.field,run_underlying hu,h1,hr,asAgg])
    split at hp
    ·obtain ⟨hle,hK⟩:=qa _ _ _ hp
     simp only [aJB,aIg,aIz] at hK hle
     refine .mk hK (val:=.agg (vs.extract o (o+size))) ⟨_,rfl,by simp;omega,λq pv hq=>?_⟩ λw' _=>lS w' _ (by rw [JO h6 h3,<-h7,if_pos rfl,h2,h4])
     rw [aJn] at hq
     split at hq
     ·rename_i bg
      rw [aIQ] at hq
      obtain ⟨u,Sg,Pt⟩:=hv _ _ hq
      refine ⟨u,?_,Pt⟩
      rw [Array.getElem?_extract]
      have:o+q<vs.size:=(abL.1 Sg).1
      rw [if_pos aKK]
      exact Sg
     ·cases hq
    ·split at hp
     ·rename_i c r hd
      have h0:cs[o]? =some c:=by
       have:=congrArg (·[0]?) hd
       simpa using this
      obtain ⟨u,Sg,Pt⟩:=hv _ _ h0
      exact .mk (cK hp) Pt.v λw' _=>lS w' _ (by rw [JO h6 h3,<-h7,h2];simp [Sg])
     ·exact aKm
   ·exact aKm
  ·exact aKm
 ·exact aKm
theorem qZ.Rq {pv:PV} {v:Value} (hs:ko pv=true) (hr:qZ pv v):bS μ h S w pv v:=by
 have one:∀(pv:PV) (v:Value),u5 pv=true->tL pv v->cz μ h S w pv v:=λpv v hs hr=>by
  cases pv<;>first | (cases hs;done) | (have hr:v=_:=hr;subst hr;first | exact aY.int _ _ | exact aY.bool _ | exact aY.str _) | exact hr
 cases pv with
 | agg cs=>
  obtain ⟨vs,h1,h2,h3⟩:=hr
  exact ⟨vs,h1,h2,λj pv hj=>let ⟨u,hu,hc⟩:=h3 j pv hj;⟨u,hu,one pv u (aHH.1 hs _ (aHU hj)) hc⟩⟩
 | jf=>trivial
 | int k n=>exact one (.int k n) v rfl hr
 | bool b=>exact one (.bool b) v rfl hr
 | str s=>exact one (.str s) v rfl hr
 | _=>cases hs
theorem qZ.aAn {pv:PV} {v:Value} (hs:ko pv=true) (hr:qZ pv v):jF μ h S w pv v:=by
 have:=qZ.Rq (μ:=μ) (h:=h) (S:=S) (w:=w) hs hr
 cases pv with
 | fv _=>cases hs
 | _=>exact this
theorem GQ (hT:dJ P T) (hH:cZ μ h S w) (ht:∀t,bS μ h S w (env t) (a.tmps.getD t undef)) (t:Nat) (x i:Operand) (ok:Bool) (hp:de T (.lookup t x i ok) env h K):
  eh P ⟨dst,.lookup t x i ok,ty,pos,after,guard⟩ a μ h S w K:=by
 have hx:=cA ht x
 have hi:=cA ht i
 simp only [de] at hp
 split at hp
 ·rename_i kt et zv id gH hex
  rw [hex] at hx
  split at hp
  ·rename_i g sz n e f Fc
   replace hp:=bI (cK hp)
   obtain ⟨hk,r,b,hm,hK⟩:=hp
   obtain ⟨hu,inf,z,lr,hz,gK,hsc,sy⟩:=hT.map _ _ _ _ gH
   obtain ⟨bl,base,es,c,hC,ex,hb,hn,Nb⟩:=Cs hH (ez Fc) hx.GP
   obtain ⟨q0,h0⟩:=Option.isSome_iff_exists.1 hk
   obtain ⟨d,s,hd,hck,Zf⟩:=Pu hT hi h0
   have yj:∀m,m<=n->JQ (T.get kt) f m (ev env i)->∀j,j<m->∀y:MapEntry,es.toList[j]? =some y->u0 P kt d s (a.eval i) y.key false:=λm hmn hM j hj y hy=>by
    obtain ⟨kp,vp,h1,h2⟩:=hM j hj
    obtain ⟨kp',vp',en,h3,_,_,h4,h5,_⟩:=Nb j aKK
    rw [h1] at h3
    injection h3 with e1 e2
    subst e1
    have:y=en:=by rw [aHZ] at hy;exact aIv (hy.symm.trans h4)
    subst this
    exact Zf kp y.key false h5 h2
   have run:∃val,qZ r val/\ko r=true/\∀w',cD w w'->(Instr.lookup t (.map (some bl)) (a.eval i) ok).run P w'=.ok (if ok then .tuple #[val,.bool b] else val) w':=by
    rcases hm with ⟨rfl,i0,hi0,hM,kp,hf,hq⟩ | ⟨rfl,rfl,hM⟩
    ·obtain ⟨kp',vp',en,h3,_,h6,h4,h5,h7⟩:=Nb i0 hi0
     rw [hf] at h3
     injection h3 with e1 e2
     injection e2 with e2 _
     subst e1 e2
     refine ⟨en.val,h7,h6,λw' ha=>?_⟩
     have nA:w'.heap[bl]? =some (.map es c):=(ha.blocks bl (abL.1 hb).1).trans hb
     have CB:=Cv (P:=P) (w':=w') hd es.toList i0 en (yj i0 aKK hM) (by rw [aHZ];exact h4) (Zf kp en.key true h5 hq)
     simp [Instr.lookup,run_underlying hu,run_getObj_map w' bl es c nA,hck,CB]
    ·refine ⟨z,gK,hsc,λw' ha=>?_⟩
     have nA:w'.heap[bl]? =some (.map es c):=(ha.blocks bl (abL.1 hb).1).trans hb
     have CB:=yg (P:=P) (w':=w') hd es.toList (λj y hy=>yj n (No _) hM j (by
      have:=(An.1 hy).1
      rw [<-hn];simpa using this) y hy)
     simp [Instr.lookup,run_underlying hu,run_getObj_map w' bl es c nA,hck,CB,zeroValue,typeInfo,lr,hz]
   obtain ⟨val,hrv,hrs,lS⟩:=run
   cases ok with
   | true=>
    refine .mk hK ?_ λw' ha=>dN rfl (by rw [ex];exact lS w' ha)
    exact ⟨_,rfl,rfl,λj pv hj=>by
     rcases j with _ | _ | j
     ·cases hj;exact ⟨_,rfl,hrv.aAn hrs⟩
     ·cases hj;exact ⟨_,rfl,aY.bool _⟩
     ·simp at hj⟩
   | false=>exact .mk (cK hK) (hrv.Rq hrs) λw' ha=>dN rfl (by rw [ex];exact lS w' ha)
  ·exact aKm
 ·exact aKm
theorem CC {env:Env} {K:List (Nat×Nat)->Prop}:∀(l:List Operand) (acc:List (Nat×Nat)),u6 env K l acc->∃cH,K (acc.reverse++cH)/\cH.length=l.length/\∀(j:Nat) (x:Operand) (p:Nat×Nat),l[j]? =some x->cH[j]? =some p->ev env x=.aC p.1 p.2 0 0
 | [],acc,h=>⟨[],by rw [aII];exact h,rfl,λj x p hx=>by simp at hx⟩
 | x::r,acc,h=>by
  unfold u6 at h
  split at h
  ·rename_i id gen he
   obtain ⟨cH,h1,h2,h3⟩:=CC r _ h
   refine ⟨(id,gen)::cH,by simpa using h1,by simp [h2],λj y p hy hp=>?_⟩
   cases j with
   | zero=>simp at hy hp;subst hy;subst hp;exact he
   | succ j=>exact h3 j y p aLp (by simpa using hp)
  ·exact h.elim
theorem CD (ht:∀t,bS μ h S w (env t) (a.tmps.getD t undef)) (fn:Fn) (first captured:Array Operand) (hp:de T (.makeFunc fn first captured) env h K):
  eh P ⟨dst,.makeFunc fn first captured,ty,pos,after,guard⟩ a μ h S w K:=by
 simp only [de] at hp
 split at hp
 ·rename_i f
  obtain ⟨hf,hp⟩:=bI hp
  obtain ⟨cH,hK,hl,hc⟩:=CC _ _ hp
  have hf0:first=#[]:=by simpa [Array.isEmpty] using hf
  subst hf0
  refine .mk (val:=.func (.func f) #[] (captured.map a.eval)) (by simpa using hK) ?_ λw' ha=>by first | rfl | simp [execOp,Instr.makeFunc]
  show pc μ h w f cH _
  refine ⟨_,rfl,by simpa using hl.symm,λj p hj=>?_⟩
  have bg:j<captured.toList.length:=by rw [<-hl];exact (An.1 hj).1
  have hx:=abF bg
  refine ⟨a.eval captured.toList[j],by rw [aJo,<-aHZ,hx];rfl,?_⟩
  have he:=hc j _ p hx hj
  have hv:=cA ht captured.toList[j]
  rw [he] at hv
  exact hv
 ·exact aKm
theorem nX (hT:dJ P T) (hH:cZ μ h S w) (ht:∀t,bS μ h S w (env t) (a.tmps.getD t undef)) {op:Op} (hp:de T op env h K):
  eh P ⟨dst,op,ty,pos,after,guard⟩ a μ h S w K:=by
 cases op with
 | lookup t x i ok=>exact GQ hT hH ht t x i ok hp
 | makeFunc fn first captured=>exact CD ht fn first captured hp
 | move x=>exact .mk (cK hp) (cA ht x) λ_ _=>rfl
 | assign x=>exact .mk (cK hp) (cA ht x) λ_ _=>rfl
 | pick c x y=>
  have hc:=cA ht c
  simp only [de] at hp
  split at hp
  ·rename_i b hex
   rw [hex] at hc
   have ec:=hc.ng
   obtain ⟨h1,h2⟩:=kQ hp
   cases b with
   | true=>exact .mk (cK (h1 rfl)) (cA ht x) λw' _=>by simp [execOp,ec,asBool]
   | false=>exact .mk (cK (h2 rfl)) (cA ht y) λw' _=>by simp [execOp,ec,asBool]
  ·exact aKm
 | binOp bo t x y t'=>exact Rj hT bo t t' x y _ _ (cA ht x) (cA ht y) hp
 | unOp u t x=>
  have hx:=cA ht x
  simp only [de] at hp
  split at hp
  ·rename_i b hex
   rw [hex] at hx
   exact .mk hp (aY.bool _) λw' _=>dN rfl (by rw [hx.ng,unary_not];rfl)
  ·rename_i k n hex
   rw [hex] at hx
   exact .mk hp (aY.int _ _) λw' _=>dN rfl (by rw [hx.ll,unary_neg];rfl)
  ·exact aKm
 | load t x=>exact Cw hT hH t x _ (cA ht x) hp
 | convert s d x=>exact Eg hT hH ht s d x hp
 | nilCheck x=>exact CA ht x hp
 | fieldAddr s x k=>exact AK hT ht s x k hp
 | build t parts=>exact JN hT ht t parts hp
 | field s x k=>exact JP hT ht s x k hp
 | indexAddr t x i=>exact JK hT hH ht t x i hp
 | index t x i=>exact Cx hT ht t x i hp
 | extract x i=>
  have hx:=cA ht x
  simp only [de] at hp
  split at hp
  ·rename_i vs hex
   rw [hex] at hx
   split at hp
   ·rename_i v hv
    obtain ⟨us,e1,e2,e3⟩:=hx
    obtain ⟨u,hu,hr⟩:=e3 i v hv
    have hr':bS μ h S w v u:=by
     cases v with
     | fv ps=>exact (show False from hr).elim
     | _=>exact hr
    exact .mk (cK hp) hr' λw' _=>dN rfl (by rw [e1];simp [Instr.extract,hu])
   ·exact aKm
  ·exact aKm
 | slice t x lo hi mx=>exact JM hT hH ht t x lo hi mx hp
 | call c=>
  obtain ⟨cal,args,ts⟩:=c
  cases cal with
  | builtin b=>cases b with
   | len=>exact Rl hT hH ht args ts hp
   | _=>exact (show False from hp).elim
  | _=>exact (show False from hp).elim
 | _=>exact (show False from hp).elim
end
section
variable {P:Program} {T:o9} {μ:Mu} {h:List ak} {S:Nat->Prop} {w w1:World}
def nF (μ:Mu) (id:Nat) (p:Option (Nat×Nat)):Mu:=λj=>if j=id then p else μ j
theorem bB (μ:Mu) (id:Nat) (p:Option (Nat×Nat)):nF μ id p id=p:=by simp [nF]
theorem dt (μ:Mu) {id j:Nat} (p:Option (Nat×Nat)) (hj:j≠id):nF μ id p j=μ j:=by simp [nF,hj]
structure Core (μ:Mu) (h:List ak) (S:Nat->Prop) (w:World):Prop where
 heap:cZ μ h S w
 ok:ta μ h S w
theorem yk (hc:Core μ h S w) (id g g1 sz n n1:Nat) (e:TypeId) (f f1:Nat->List PV) (hh:h[id]? =some (ak.row g sz n e f)) (b1 rY:Nat) (jR:Array Value)
  (hg:g<=g1) (hg1:g1=g->μ id=some (b1,rY)/\n1=n)
  (hb:w.heap.size<=b1\/∃base cur,μ id=some (b1,base)/\w.heap[b1]? =some (.cells cur e (0,0))/\cur.size=jR.size)
  (hw:w1.heap[b1]? =some (.cells jR e (0,0))) (um:rY+n1*sz<=jR.size)
  (gO:∀b,b<w.heap.size->b≠b1->w1.heap[b]? =w.heap[b]?) (tN:w.heap.size<=w1.heap.size) (hos:w1.os=w.os) (JR:w1.tape=w.tape) (Nc:w1.output=w.output)
  (hl:∀i,i<n1->(f1 i).length=sz) (JG:∀b base,μ id=some (b,base)->¬qc w b)
  (bs:∀(i j:Nat) (pv:PV),i<n1->(f1 i)[j]? =some pv->∃v:Value,jR[rY+i*sz+j]? =some v/\pd μ h S w pv v) (JT:Nat)
  (u7:∀(i j cr n':Nat) (e':TypeId) (f':Nat->List PV) (F':Nat->Prop),i<n1->(f1 i)[j]? =some (.dY cr n' e' f' F')->JT+i<n/\(f (JT+i))[j]? =some (.dY cr n' e' f' F')):
  Fr μ h S w (nF μ id (some (b1,rY))) (h.set id (.row g1 sz n1 e f1)) S w1/\Core (nF μ id (some (b1,rY))) (h.set id (.row g1 sz n1 e f1)) S w1:=by
 have hid:id<h.length:=(An.1 hh).1
 have gP:(h.set id (ak.row g1 sz n1 e f1))[id]? =some (ak.row g1 sz n1 e f1):=by simp [hid]
 have cM:∀j,j≠id->(h.set id (ak.row g1 sz n1 e f1))[j]? =h[j]? :=λj hj=>by rw [aId (aIT hj)]
 have Zg:b1<w1.heap.size:=(abL.1 hw).1
 have u9:b1<w.heap.size->di μ h b1:=λbg=>by
  rcases hb with hb | ⟨base,cur,hm,_,_⟩
  ·omega
  ·exact .inl ⟨id,g,sz,n,e,f,base,hh,hm⟩
 have eN:∀j x y b,dU (h.set id (ak.row g1 sz n1 e f1)) j x y b->dU h j (if j=id then JT+x else x) y b:=λj x y b ⟨gj,k9,nj,ej,fj,cr,n',e',f',F',q1,q2,q3,q4⟩=>by
  by_cases fF:j=id
  ·subst fF
   rw [gP] at q1
   injection q1 with q1
   injection q1 with e1 e2 e3 e4 e5
   subst e1 e2 e3 e4 e5
   obtain ⟨r1,r2⟩:=u7 x y _ _ _ _ _ q2 q3
   rw [if_pos rfl]
   exact ⟨_,_,_,_,_,_,_,_,_,_,hh,r1,r2,q4⟩
  ·rw [cM j fF] at q1
   rw [if_neg fF]
   exact aKG
 have rZ:∀j x y b,dU h j x y b->b<w.heap.size/\b≠b1:=λj x y b hx=>by
  have bg:=hc.ok.lt b (.inr ⟨j,x,y,hx⟩)
  refine ⟨bg,?_⟩
  rintro rfl
  rcases hb with hb | ⟨base,cur,hm,_,_⟩
  ·omega
  ·exact hc.ok.hv b ⟨id,g,sz,n,e,f,base,hh,hm⟩ j x y hx
 have jG:Fr μ h S w (nF μ id (some (b1,rY))) (h.set id (.row g1 sz n1 e f1)) S w1:=by
  refine ⟨by simp,λb bg xB=>?_,λ_ hb=>hb,λ_ hb=>.inl hb,λb nA=>?_,tN,hos,JR,Nc,λj gj k9 nj ej fj hj=>?_,λj hj=>?_,λb k yM fY=>?_,λj gj k9 nj ej fj b base hj hm mu=>?_,λb j x y hx mu=>?_⟩
  rotate_right
  ·obtain ⟨q1,q2⟩:=rZ j x y b hx
   obtain ⟨es,c,q⟩:=mu
   exact ⟨es,c,(gO b q1 q2).trans q⟩
  ·by_cases A7:b=b1
   ·subst A7;exact (xB (u9 bg)).elim
   ·exact gO b bg A7
  ·rcases nA with ⟨j,gj,k9,nj,ej,fj,nG,hj,hm⟩ | ⟨j,x,y,hx⟩
   rotate_left
   ·exact .inl (.inr ⟨_,_,_,eN j x y b hx⟩)
   by_cases fF:j=id
   ·subst fF
    rw [bB] at hm
    injection hm with hm
    injection hm with h1 h2
    subst h1
    rcases aIE b1 w.heap.size with bg | Pw
    ·exact .inl (u9 bg)
    ·exact .inr Pw
   ·rw [cM j fF] at hj
    rw [dt μ _ fF] at hm
    exact .inl (.inl ⟨j,gj,k9,nj,ej,fj,nG,hj,hm⟩)
  ·by_cases fF:j=id
   ·subst fF
    rw [hh] at hj
    injection hj with hj
    injection hj with e1 e2 e3 e4 e5
    subst e1 e2 e3 e4 e5
    rw [gP]
    refine ⟨hg,λhe=>?_⟩
    obtain ⟨h1,h2⟩:=hg1 he
    exact ⟨by rw [bB,h1],rfl,h2,rfl⟩
   ·rw [cM j fF,hj]
    exact ⟨No _,λ_=>⟨dt μ _ fF,rfl,rfl,rfl⟩⟩
  ·have fF:j≠id:=by rintro rfl;rw [hh] at hj;cases hj
   rw [cM j fF];exact hj
  ·by_cases A7:b=b1
   ·subst A7
    obtain ⟨cur,e',z,q1,q2⟩:=fY
    rcases hb with hb | ⟨base,zj,hm,lu,gK⟩
    ·have:=(abL.1 q1).1;omega
    ·rw [lu] at q1
     injection q1 with q1
     injection q1 with q1 _ _
     subst q1
     exact ⟨jR,e,_,hw,by omega⟩
   ·exact kq.of_same (gO b fY.lt A7) fY
  ·have fF:j≠id:=by rintro rfl;exact JG b base hm mu
   have A7:b≠b1:=by
    rintro rfl
    obtain ⟨es,c,q⟩:=mu
    rcases hb with hb | ⟨oM,zj,Ho,lu,_⟩
    ·have:=(abL.1 q).1;omega
    ·rw [lu] at q;cases q
   obtain ⟨es,c,q⟩:=mu
   exact ⟨⟨es,c,(gO b (abL.1 q).1 A7).trans q⟩,.inr ⟨⟨_,_,_,_,_,(cM j fF).trans hj⟩,by rw [dt μ _ fF];exact hm⟩⟩
 refine ⟨jG,⟨λj gj k9 nj ej fj hj=>?_,?_⟩⟩
 ·by_cases fF:j=id
  ·subst fF
   rw [gP] at hj
   injection hj with hj
   injection hj with e1 e2 e3 e4 e5
   subst e1 e2 e3 e4 e5
   rw [bB]
   refine ⟨hl,cZ.CE ⟨jR,hw,um,λi k pv hi hk=>?_⟩⟩
   obtain ⟨v,h1,h2⟩:=bs i k pv hi hk
   refine ⟨v,h1,h2.fr jG hc.ok (λcr n' e' f' F' he b nA=>?_)⟩
   rw [he] at hk
   obtain ⟨r1,r2⟩:=u7 i k _ _ _ _ _ hi hk
   obtain ⟨q1,q2⟩:=rZ j (JT+i) k b ⟨_,_,_,_,_,_,_,_,_,_,hh,r1,r2,nA⟩
   exact gO b q1 q2
  ·rw [cM j fF] at hj
   obtain ⟨h1,h2⟩:=hc.heap j gj k9 nj ej fj hj
   refine ⟨h1,?_⟩
   rw [dt μ _ fF]
   cases hm:μ j with
   | none=>rw [hm] at h2;exact h2
   | some p=>
    obtain ⟨b,base⟩:=p
    rw [hm] at h2
    obtain ⟨o,q1,q2⟩:=h2
    have bg:b<w.heap.size:=(abL.1 q1).1
    have A7:b≠b1:=by
     rintro rfl
     rcases hb with hb | ⟨oM,zj,Ho,_⟩
     ·omega
     ·exact fF (hc.ok.inj j id _ _ _ _ _ _ _ _ _ _ _ _ _ hj hh hm Ho)
    exact ⟨o,(gO b bg A7).trans q1,q2.mono (λi y pv v hi hy hr=>hr.fr jG hc.ok (λcr n' e' f' F' he b' nA=>by
     obtain ⟨q1,q2⟩:=rZ j i y b' ⟨_,_,_,_,_,_,_,_,_,_,hj,hi,by rw [hy,he],nA⟩
     exact gO b' q1 q2))⟩
 ·refine ⟨λb yM Px=>?_,λb yM=>?_,λb Px=>aHX (hc.ok.slt b Px) tN,?_,hc.ok.zk jG,λb hvb j x y hx=>?_,λb j x y j' x' y' hx uo=>?_⟩
  rotate_right 2
  ·obtain ⟨q1,q2⟩:=rZ _ _ _ b (eN j x y b hx)
   obtain ⟨k,gk,szk,nk,ek,fk,JU,hk,hm⟩:=hvb
   by_cases xf:k=id
   ·subst xf
    rw [bB] at hm
    injection hm with hm
    injection hm with h1 h2
    exact q2 h1.symm
   ·rw [cM k xf] at hk
    rw [dt μ _ xf] at hm
    exact hc.ok.hv b ⟨k,gk,szk,nk,ek,fk,JU,hk,hm⟩ _ _ _ (eN j x y b hx)
  ·obtain ⟨r1,r2,r3⟩:=hc.ok.hh b _ _ _ _ _ _ (eN j x y b hx) (eN j' x' y' b uo)
   subst r1
   refine ⟨rfl,?_,r3⟩
   split at r2<;>omega
  ·rcases jG.own b yM with h1 | h1
   ·exact hc.ok.apart b h1 Px
   ·have:=hc.ok.slt b Px;omega
  ·rcases yM with ⟨j,gj,k9,nj,ej,fj,nG,hj,hm⟩ | ⟨j,x,y,hx⟩
   rotate_left
   ·exact aHX (hc.ok.lt b (.inr ⟨_,_,_,eN j x y b hx⟩)) tN
   by_cases fF:j=id
   ·subst fF
    rw [bB] at hm
    injection hm with hm
    injection hm with h1 h2
    subst h1
    exact Zg
   ·rw [cM j fF] at hj
    rw [dt μ _ fF] at hm
    exact aHX (hc.ok.lt b (.inl ⟨j,gj,k9,nj,ej,fj,nG,hj,hm⟩)) tN
  ·intro i j gi Rr ni ei fi gj k9 nj ej fj b o o' hi hj nB mF
   by_cases Hp:i=id
   ·by_cases fF:j=id
    ·rw [Hp,fF]
    ·subst Hp
     rw [bB] at nB
     injection nB with nB
     injection nB with h1 h2
     subst h1
     rw [cM j fF] at hj
     rw [dt μ _ fF] at mF
     rcases hb with hb | ⟨oM,zj,Ho,_⟩
     ·have:=hc.ok.lt _ (.inl ⟨j,gj,k9,nj,ej,fj,o',hj,mF⟩);omega
     ·exact hc.ok.inj i j _ _ _ _ _ _ _ _ _ _ _ _ _ hh hj Ho mF
   ·rw [cM i Hp] at hi
    rw [dt μ _ Hp] at nB
    by_cases fF:j=id
    ·subst fF
     rw [bB] at mF
     injection mF with mF
     injection mF with h1 h2
     subst h1
     rcases hb with hb | ⟨oM,zj,Ho,_⟩
     ·have:=hc.ok.lt _ (.inl ⟨i,gi,Rr,ni,ei,fi,o,hi,nB⟩);omega
     ·exact hc.ok.inj i j _ _ _ _ _ _ _ _ _ _ _ _ _ hi hh nB Ho
    ·rw [cM j fF] at hj
     rw [dt μ _ fF] at mF
     exact aKA
theorem Fg (hc:Core μ h S w) (sz n:Nat) (e:TypeId) (f:Nat->List PV) (p:Option (Nat×Nat))
  (hp:match p with
   | none=>n=0
   | some (b,base)=>w.heap.size<=b/\∃o:Obj,w1.heap[b]? =some o/\xg (cz μ h S w) base sz n e f o)
  (ha:cD w w1) (hl:∀i,i<n->(f i).length=sz) (u7:∀(i j:Nat) (pv:PV),i<n->(f i)[j]? =some pv->dW pv=false):
  Fr μ h S w (nF μ h.length p) (h++[.row 0 sz n e f]) S w1/\Core (nF μ h.length p) (h++[.row 0 sz n e f]) S w1:=by
 have qG:∀j o,h[j]? =some o->(h++[ak.row 0 sz n e f])[j]? =some o:=λj o hj=>by
  rw [aIk (An.1 hj).1];exact hj
 have A8:(h++[ak.row 0 sz n e f])[h.length]? =some (ak.row 0 sz n e f):=by simp
 have qH:∀j o,(h++[ak.row 0 sz n e f])[j]? =some o->(h[j]? =some o/\j≠h.length)\/(j=h.length/\o=ak.row 0 sz n e f):=λj o hj=>by
  rcases Nat.lt_trichotomy j h.length with bg | heq | Fc
  ·rw [aIk bg] at hj;exact .inl ⟨hj,by omega⟩
  ·subst heq;rw [A8] at hj;injection hj with hj;exact .inr ⟨rfl,hj.symm⟩
  ·rw [aIw aKT] at hj;cases hj
 have pf:∀j o,h[j]? =some o->nF μ h.length p j=μ j:=λj o hj=>dt μ _ (by have:=(An.1 hj).1;omega)
 have eN:∀j x y b,dU (h++[ak.row 0 sz n e f]) j x y b->dU h j x y b:=λj x y b ⟨gj,k9,nj,ej,fj,cr,n',e',f',F',q1,q2,q3,q4⟩=>by
  rcases qH j _ q1 with ⟨h1,h2⟩ | ⟨h1,h2⟩
  ·exact ⟨_,_,_,_,_,_,_,_,_,_,h1,q2,q3,q4⟩
  ·injection h2 with e1 e2 e3 e4 e5
   subst e1 e2 e3 e4 e5
   have:=u7 x y _ q2 q3
   cases this
 have jG:Fr μ h S w (nF μ h.length p) (h++[.row 0 sz n e f]) S w1:=by
  refine ⟨by simp,λb bg _=>ha.blocks b bg,λ_ hb=>hb,λ_ hb=>.inl hb,λb nA=>?_,ha.size,ha.os,ha.tape,ha.output,λj gj k9 nj ej fj hj=>?_,λj hj=>qG j _ hj,λb k yM fY=>kq.of_same (ha.blocks b fY.lt) fY,λj gj k9 nj ej fj b base hj hm mu=>⟨let ⟨es,c,q⟩:=mu;⟨es,c,(ha.blocks b (abL.1 q).1).trans q⟩,.inr ⟨⟨_,_,_,_,_,qG j _ hj⟩,by rw [pf j _ hj];exact hm⟩⟩,λb j x y hx mu=>let ⟨es,c,q⟩:=mu;⟨es,c,(ha.blocks b (abL.1 q).1).trans q⟩⟩
  ·rcases nA with ⟨j,gj,k9,nj,ej,fj,nG,hj,hm⟩ | ⟨j,x,y,hx⟩
   rotate_left
   ·exact .inl (.inr ⟨_,_,_,eN j x y b hx⟩)
   rcases qH j _ hj with ⟨h1,h2⟩ | ⟨h1,h2⟩
   ·rw [dt μ _ h2] at hm
    exact .inl (.inl ⟨j,gj,k9,nj,ej,fj,nG,h1,hm⟩)
   ·subst h1
    rw [bB] at hm
    subst hm
    exact .inr hp.1
  ·rw [qG j _ hj]
   exact ⟨No _,λ_=>⟨pf j _ hj,rfl,rfl,rfl⟩⟩
 refine ⟨jG,⟨λj gj k9 nj ej fj hj=>?_,?_⟩⟩
 ·rcases qH j _ hj with ⟨h1,h2⟩ | ⟨h1,h2⟩
  ·obtain ⟨q1,q2⟩:=hc.heap j gj k9 nj ej fj h1
   refine ⟨q1,?_⟩
   rw [dt μ _ h2]
   cases hm:μ j with
   | none=>rw [hm] at q2;exact q2
   | some p'=>
    obtain ⟨b,base⟩:=p'
    rw [hm] at q2
    obtain ⟨o,r1,r2⟩:=q2
    have bg:b<w.heap.size:=(abL.1 r1).1
    exact ⟨o,(ha.blocks b bg).trans r1,r2.mono (λi y pv v hi hy hr=>hr.fr jG hc.ok (λcr n' e' f' F' he b' nA=>ha.blocks b' (hc.ok.lt b' (.inr ⟨j,i,y,_,_,_,_,_,_,_,_,_,_,h1,hi,he▸hy,nA⟩))))⟩
  ·subst h1
   injection h2 with e1 e2 e3 e4 e5
   subst e1 e2 e3 e4 e5
   rw [bB]
   refine ⟨hl,?_⟩
   cases p with
   | none=>exact hp
   | some p'=>
    obtain ⟨b,base⟩:=p'
    obtain ⟨_,o,r1,r2⟩:=hp
    exact ⟨o,r1,r2.mono (λi y pv v hi hy hr=>(hr.fr jG hc.ok).k (u7 i y pv hi hy))⟩
 ·refine ⟨λb yM Px=>?_,λb yM=>?_,λb Px=>aHX (hc.ok.slt b Px) ha.size,?_,hc.ok.zk jG,λb hvb j x y hx=>?_,λb j x y j' x' y' hx uo=>hc.ok.hh b _ _ _ _ _ _ (eN j x y b hx) (eN j' x' y' b uo)⟩
  rotate_right
  ·have hx:=eN j x y b hx
   obtain ⟨k,gk,szk,nk,ek,fk,JU,hk,hm⟩:=hvb
   rcases qH k _ hk with ⟨h1,h2⟩ | ⟨h1,h2⟩
   ·rw [dt μ _ h2] at hm
    exact hc.ok.hv b ⟨k,gk,szk,nk,ek,fk,JU,h1,hm⟩ _ _ _ hx
   ·subst h1
    rw [bB] at hm
    subst hm
    have:=hc.ok.lt b (.inr ⟨_,_,_,hx⟩)
    have:=hp.1
    omega
  ·rcases jG.own b yM with h1 | h1
   ·exact hc.ok.apart b h1 Px
   ·have:=hc.ok.slt b Px;omega
  ·rcases yM with ⟨j,gj,k9,nj,ej,fj,nG,hj,hm⟩ | ⟨j,x,y,hx⟩
   rotate_left
   ·exact aHX (hc.ok.lt b (.inr ⟨_,_,_,eN j x y b hx⟩)) ha.size
   rcases qH j _ hj with ⟨h1,h2⟩ | ⟨h1,h2⟩
   ·rw [dt μ _ h2] at hm
    exact aHX (hc.ok.lt b (.inl ⟨j,gj,k9,nj,ej,fj,nG,h1,hm⟩)) ha.size
   ·subst h1
    rw [bB] at hm
    subst hm
    obtain ⟨_,o,r1,_⟩:=hp
    exact (abL.1 r1).1
  ·intro i j gi Rr ni ei fi gj k9 nj ej fj b o o' hi hj nB mF
   rcases qH i _ hi with ⟨h1,h2⟩ | ⟨h1,h2⟩
   ·rw [dt μ _ h2] at nB
    rcases qH j _ hj with ⟨h3,h4⟩ | ⟨h3,h4⟩
    ·rw [dt μ _ h4] at mF
     exact hc.ok.inj i j _ _ _ _ _ _ _ _ _ _ _ _ _ h1 h3 nB mF
    ·subst h3
     rw [bB] at mF
     subst mF
     have:=hc.ok.lt _ (.inl ⟨i,gi,Rr,ni,ei,fi,o,h1,nB⟩)
     have:=hp.1
     omega
   ·subst h1
    rw [bB] at nB
    rcases qH j _ hj with ⟨h3,h4⟩ | ⟨h3,h4⟩
    ·rw [dt μ _ h4] at mF
     subst nB
     have:=hc.ok.lt _ (.inl ⟨j,gj,k9,nj,ej,fj,o',h3,mF⟩)
     have:=hp.1
     omega
    ·exact h3.symm
theorem oN (hc:Core μ h S w) (sz n:Nat) (e:TypeId) (f:Nat->List PV) (p:Option (Nat×Nat))
  (hp:match p with
   | none=>n=0
   | some (b,base)=>w.heap.size<=b/\∃cur:Array Value,w1.heap[b]? =some (.cells cur e (0,0))/\base+n*sz<=cur.size/\
    ∀(i j:Nat) (pv:PV),i<n->(f i)[j]? =some pv->∃v:Value,cur[base+i*sz+j]? =some v/\cz μ h S w pv v)
  (ha:cD w w1) (hl:∀i,i<n->(f i).length=sz) (u7:∀(i j:Nat) (pv:PV),i<n->(f i)[j]? =some pv->dW pv=false):
  Fr μ h S w (nF μ h.length p) (h++[.row 0 sz n e f]) S w1/\Core (nF μ h.length p) (h++[.row 0 sz n e f]) S w1:=by
 refine Fg hc sz n e f p ?_ ha hl u7
 cases p with
 | none=>exact hp
 | some q=>exact ⟨hp.1,cZ.CE hp.2⟩
theorem kq.CF {b k:Nat} (h:kq w b k):¬qc w b:=by
 rintro ⟨es,c,q⟩
 obtain ⟨cur,e,z,h1,_⟩:=h
 rw [h1] at q;cases q
end
theorem nY.refl:∀(l:List PV),nY l l
 | []=>trivial
 | a::l=>⟨.same a,nY.refl l⟩
theorem nY.len:∀{l r:List PV},nY l r->r.length=l.length
 | [],[],_=>rfl
 | a::l,b::r,h=>by simp [nY.len h.2]
 | [],_::_,h=>h.elim
 | _::_,[],h=>h.elim
theorem nY.get:∀{l r:List PV},nY l r->∀{j:Nat} {b:PV},r[j]? =some b->∃a,l[j]? =some a/\Sl a b
 | [],[],_,j,b,hj=>by simp at hj
 | a::l,c::r,h,0,b,hj=>by simp at hj;subst hj;exact ⟨a,rfl,h.1⟩
 | a::l,c::r,h,j+1,b,hj=>by
  obtain ⟨x,q1,q2⟩:=nY.get h.2 (j:=j) aKZ
  exact ⟨x,by simpa using q1,q2⟩
 | [],_::_,h,_,_,_=>h.elim
 | _::_,[],h,_,_,_=>h.elim
theorem nY.aAo:∀{l r:List PV},nY l r->∀{j:Nat} {a:PV},l[j]? =some a->∃b,r[j]? =some b/\Sl a b
 | [],[],_,j,b,hj=>by simp at hj
 | a::l,c::r,h,0,b,hj=>by simp at hj;subst hj;exact ⟨c,rfl,h.1⟩
 | a::l,c::r,h,j+1,b,hj=>by
  obtain ⟨x,q1,q2⟩:=nY.aAo h.2 (j:=j) aKZ
  exact ⟨x,by simpa using q1,q2⟩
 | [],_::_,h,_,_,_=>h.elim
 | _::_,[],h,_,_,_=>h.elim
theorem Sl.ak7 {a b:PV} (h:Sl a b) {μ:Mu} {l:List ak} {S:Nat->Prop} {w:World} {v:Value} (hr:cz μ l S w a v):cz μ l S w b v:=by
 cases h with
 | same=>exact hr
 | nil sz f=>
  have hr:aY S w .cd v:=hr
  cases hr
  exact aY.uk _ _ _ _
 | Rt sz e f=>exact cz.one hr
def OEq:ak->ak->Prop
 | .row g sz n e f,.row g' cr n' e' f'=>g=g'/\sz=cr/\n=n'/\e=e'/\∀i,i<n->nY (f i) (f' i)
 | .dead,.dead=>True
 | _,_=>False
def eO:List ak->List ak->Prop
 | [],[]=>True
 | o::l,o'::l'=>OEq o o'/\eO l l'
 | _,_=>False
theorem eO.len:∀{l l':List ak},eO l l'->l.length=l'.length
 | [],[],_=>rfl
 | o::l,o'::l',h=>by simp [eO.len h.2]
 | [],_::_,h=>h.elim
 | _::_,[],h=>h.elim
theorem eO.get:∀{l l':List ak},eO l l'->∀{j:Nat} {g sz n:Nat} {e:TypeId} {f:Nat->List PV},l[j]? =some (ak.row g sz n e f)->∃f',l'[j]? =some (ak.row g sz n e f')/\∀i,i<n->nY (f i) (f' i)
 | o::l,o'::l',h,0,g,sz,n,e,f,hj=>by
  simp at hj
  subst hj
  cases o' with
  | dead=>exact h.1.elim
  | row g' cr n' e' f'=>
   obtain ⟨rfl,rfl,rfl,rfl,hf⟩:=h.1
   exact ⟨f',rfl,hf⟩
 | o::l,o'::l',h,j+1,g,sz,n,e,f,hj=>by
  simp at hj
  obtain ⟨f',h1,h2⟩:=eO.get h.2 hj
  exact ⟨f',by simpa using h1,h2⟩
 | [],[],_,_,_,_,_,_,_,hj=>by simp at hj
 | [],_::_,h,_,_,_,_,_,_,_=>h.elim
 | _::_,[],h,_,_,_,_,_,_,_=>h.elim
theorem eO.Ru:∀{l l':List ak},eO l l'->∀{j:Nat} {g sz n:Nat} {e:TypeId} {f':Nat->List PV},l'[j]? =some (ak.row g sz n e f')->∃f,l[j]? =some (ak.row g sz n e f)/\∀i,i<n->nY (f i) (f' i)
 | o::l,o'::l',h,0,g,sz,n,e,f',hj=>by
  simp at hj
  subst hj
  cases o with
  | dead=>exact h.1.elim
  | row g' cr n' e' f=>
   obtain ⟨rfl,rfl,rfl,rfl,hf⟩:=h.1
   exact ⟨f,rfl,hf⟩
 | o::l,o'::l',h,j+1,g,sz,n,e,f',hj=>by
  simp at hj
  obtain ⟨f,h1,h2⟩:=eO.Ru h.2 hj
  exact ⟨f,by simpa using h1,h2⟩
 | [],[],_,_,_,_,_,_,_,hj=>by simp at hj
 | [],_::_,h,_,_,_,_,_,_,_=>h.elim
 | _::_,[],h,_,_,_,_,_,_,_=>h.elim
theorem eO.getD:∀{l l':List ak},eO l l'->∀{j:Nat},l[j]? =some ak.dead->l'[j]? =some ak.dead
 | o::l,o'::l',h,0,hj=>by
  simp at hj
  subst hj
  cases o' with
  | dead=>rfl
  | row g' cr n' e' f'=>exact h.1.elim
 | o::l,o'::l',h,j+1,hj=>by
  simp at hj
  simpa using eO.getD h.2 hj
 | [],[],_,_,hj=>by simp at hj
 | [],_::_,h,_,_=>h.elim
 | _::_,[],h,_,_=>h.elim
theorem eO.adr {l l':List ak} (h:eO l l') {id i j b:Nat} (ho:dU l' id i j b):dU l id i j b:=by
 obtain ⟨g,sz,n,e,f',cr,n',e',f2,F',q1,q2,q3,q4⟩:=ho
 obtain ⟨f,r1,r2⟩:=h.Ru q1
 obtain ⟨a,ha,hle⟩:=(r2 i q2).get q3
 cases hle with
 | same=>exact ⟨_,_,_,_,_,_,_,_,_,_,r1,q2,ha,q4⟩
 | Rt=>exact q4.elim
theorem eO.aAp {l l':List ak} (h:eO l l') {μ:Mu} {b:Nat} (ho:CG μ l' b):CG μ l b:=by
 obtain ⟨id,g,sz,n,e,f,base,h1,h2⟩:=ho
 obtain ⟨f',h3,_⟩:=h.Ru h1
 exact ⟨id,g,sz,n,e,f',base,h3,h2⟩
theorem eO.zl {l l':List ak} (h:eO l l') {μ:Mu} {b:Nat} (ho:di μ l' b):di μ l b:=by
 rcases ho with ho | ⟨id,i,j,ho⟩
 ·exact .inl (h.aAp ho)
 ·exact .inr ⟨id,i,j,h.adr ho⟩
theorem eO.hid {l l':List ak} (h:eO l l') {id i j b:Nat} (ho:dU l id i j b):dU l' id i j b:=by
 obtain ⟨g,sz,n,e,f,cr,n',e',f2,F',q1,q2,q3,q4⟩:=ho
 obtain ⟨f',r1,r2⟩:=h.get q1
 obtain ⟨c,hc,hle⟩:=(r2 i q2).aAo q3
 cases hle
 exact ⟨_,_,_,_,_,_,_,_,_,_,r1,q2,hc,q4⟩
theorem eO.owned {l l':List ak} (h:eO l l') {μ:Mu} {b:Nat} (ho:di μ l b):di μ l' b:=by
 rcases ho with ⟨id,g,sz,n,e,f,base,h1,h2⟩ | ⟨x,y,z,ho⟩
 ·obtain ⟨f',h3,_⟩:=h.get h1
  exact .inl ⟨id,g,sz,n,e,f',base,h3,h2⟩
 ·exact .inr ⟨_,_,_,h.hid ho⟩
theorem eO.own {l l':List ak} (h:eO l l') {μ:Mu} {w:World} {id gen off len:Nat} {v:Value} (hr:bC μ l w id gen off len v):bC μ l' w id gen off len v:=by
 unfold bC at*
 refine ⟨hr.1,?_⟩
 have hr:=hr.2
 cases ho:l[id]? with
 | none=>rw [ho] at hr;exact hr.elim
 | some o=>
  cases o with
  | dead=>rw [h.getD ho];trivial
  | row g sz n e f=>
   obtain ⟨f',h1,_⟩:=h.get ho
   rw [ho] at hr
   rw [h1]
   exact hr
theorem eO.aC {l l':List ak} (h:eO l l') {μ:Mu} {id gen i off:Nat} {v:Value} {w:World} (hr:cG μ l w id gen i off v):cG μ l' w id gen i off v:=by
 unfold cG at*
 refine ⟨hr.1,?_⟩
 have hr:=hr.2
 cases ho:l[id]? with
 | none=>rw [ho] at hr;exact hr.elim
 | some o=>
  cases o with
  | dead=>rw [h.getD ho];trivial
  | row g sz n e f=>
   obtain ⟨f',h1,_⟩:=h.get ho
   rw [ho] at hr
   rw [h1]
   exact hr
theorem Sl.ads {a b:PV} (h:Sl a b) (ha:ko a=true):b=a:=by
 cases h with
 | same=>rfl
 | _=>cases ha
theorem nY.ads {kp vp:PV} {l:List PV} (h:nY [kp,vp] l) (h1:ko kp=true) (h2:ko vp=true):l=[kp,vp]:=by
 rcases l with _ | ⟨a,_ | ⟨b,_ | ⟨c,l⟩⟩⟩
 ·exact h.elim
 ·exact h.2.elim
 ·rw [h.1.ads h1,h.2.1.ads h2]
 ·exact h.2.2.elim
theorem eO.oL {l l':List ak} (h:eO l l') {μ:Mu} {w:World} {id:Nat} {v:Value} (hr:gI μ l w id v):gI μ l' w id v:=by
 unfold gI at*
 refine ⟨hr.1,?_⟩
 have hr:=hr.2
 cases ho:l[id]? with
 | none=>rw [ho] at hr;exact hr.elim
 | some o=>
  cases o with
  | dead=>rw [h.getD ho];trivial
  | row g sz n e f=>
   obtain ⟨f',h1,_⟩:=h.get ho
   rw [ho] at hr
   rw [h1]
   exact hr
theorem eO.qE {l l':List ak} (h:eO l l') {μ:Mu} {w:World} {f:Nat} {cH:List (Nat×Nat)} {v:Value} (hr:pc μ l w f cH v):pc μ l' w f cH v:=uq.mono hr (λid g u hu=>h.aC hu)
theorem eO.ak7 {l l':List ak} (h:eO l l') {μ:Mu} {S:Nat->Prop} {w:World} {pv:PV} {v:Value} (hr:cz μ l S w pv v):cz μ l' S w pv v:=by
 cases pv with
 | own id gen off len=>exact h.own hr
 | aC id gen i off=>exact h.aC hr
 | oL id=>exact h.oL hr
 | qE f cH=>exact h.qE hr
 | _=>exact hr
theorem eO.ak8 {l l':List ak} (h:eO l l') {μ:Mu} {S:Nat->Prop} {w:World} {pv:PV} {v:Value} (hr:pd μ l S w pv v):pd μ l' S w pv v:=by
 cases pv with
 | dY sz n e f F=>exact hr
 | _=>exact cz.k (h.ak7 (pd.c hr)) rfl
theorem Sl.ak8 {a b:PV} (h:Sl a b) {μ:Mu} {l:List ak} {S:Nat->Prop} {w:World} {v:Value} (hr:pd μ l S w a v):pd μ l S w b v:=by
 cases h with
 | same=>exact hr
 | nil sz f=>
  have hr:aY S w .cd v:=hr
  cases hr
  exact aY.uk _ _ _ _
 | Rt sz e f=>
  have hr:aY S w .cd v:=hr
  cases hr
  exact mg.nil _ _ _ _ (λ_ h=>h)
theorem eO.Rq {l l':List ak} (h:eO l l') {μ:Mu} {S:Nat->Prop} {w:World} {pv:PV} {v:Value} (hr:jF μ l S w pv v):jF μ l' S w pv v:=by
 cases pv with
 | own id gen off len=>exact h.own hr
 | aC id gen i off=>exact h.aC hr
 | oL id=>exact h.oL hr
 | qE f cH=>exact h.qE hr
 | agg cs=>
  obtain ⟨vs,h1,h2,h3⟩:=hr
  exact ⟨vs,h1,h2,λj pv hj=>by obtain ⟨u,hu,hc⟩:=h3 j pv hj;exact ⟨u,hu,h.ak7 hc⟩⟩
 | _=>exact hr
theorem eO.refl:∀(l:List ak),eO l l
 | []=>trivial
 | .row g sz n e f::l=>⟨⟨rfl,rfl,rfl,rfl,λ_ _=>nY.refl _⟩,eO.refl l⟩
 | .dead::l=>⟨trivial,eO.refl l⟩
theorem eO.set:∀(l:List ak) (id g sz n:Nat) (e:TypeId) (f f':Nat->List PV),(∀i,i<n->nY (f i) (f' i))->eO (l.set id (.row g sz n e f)) (l.set id (.row g sz n e f'))
 | [],_,_,_,_,_,_,_,_=>trivial
 | o::l,0,g,sz,n,e,f,f',hf=>⟨⟨rfl,rfl,rfl,rfl,hf⟩,eO.refl l⟩
 | o::l,id+1,g,sz,n,e,f,f',hf=>⟨by cases o;exact ⟨rfl,rfl,rfl,rfl,λ_ _=>nY.refl _⟩;exact trivial,eO.set l id g sz n e f f' hf⟩
theorem eO.snoc:∀(l:List ak) (g sz n:Nat) (e:TypeId) (f f':Nat->List PV),(∀i,i<n->nY (f i) (f' i))->eO (l++[.row g sz n e f]) (l++[.row g sz n e f'])
 | [],g,sz,n,e,f,f',hf=>⟨⟨rfl,rfl,rfl,rfl,hf⟩,trivial⟩
 | o::l,g,sz,n,e,f,f',hf=>⟨by cases o;exact ⟨rfl,rfl,rfl,rfl,λ_ _=>nY.refl _⟩;exact trivial,eO.snoc l g sz n e f f' hf⟩
theorem eO.aE3 {l l':List ak} (h:eO l l') {μ:Mu} {S:Nat->Prop} {w:World} {pv:PV} {v:Value} (hr:bS μ l S w pv v):bS μ l' S w pv v:=by
 cases pv with
 | fv ps=>
  obtain ⟨vs,h1,h2,h3⟩:=hr
  exact ⟨vs,h1,h2,λj pv hj=>by obtain ⟨u,hu,hc⟩:=h3 j pv hj;exact ⟨u,hu,h.Rq hc⟩⟩
 | own id gen off len=>exact h.own hr
 | aC id gen i off=>exact h.aC hr
 | oL id=>exact h.oL hr
 | qE f cH=>exact h.qE hr
 | agg cs=>exact h.Rq (pv:=.agg cs) hr
 | _=>exact hr
theorem eO.core {l l':List ak} (he:eO l l') {μ:Mu} {S:Nat->Prop} {w:World} (hc:Core μ l S w):Core μ l' S w:=by
 refine ⟨λid g sz n e f hid=>?_,⟨λb hb=>hc.ok.apart b (he.zl hb),λb hb=>hc.ok.lt b (he.zl hb),hc.ok.slt,λi j g sz n e f g' cr n' e' f' b o o' hi hj h1 h3=>?_,hc.ok.known,λb hb id i j hx=>hc.ok.hv b (he.aAp hb) id i j (he.adr hx),λb _ _ _ _ _ _ hx hy=>hc.ok.hh b _ _ _ _ _ _ (he.adr hx) (he.adr hy)⟩⟩
 ·obtain ⟨f',h1,h3⟩:=he.Ru hid
  obtain ⟨q1,q2⟩:=hc.heap id g sz n e f' h1
  refine ⟨λi hi=>by rw [(h3 i hi).len];exact q1 i hi,?_⟩
  cases hm:μ id with
  | none=>rw [hm] at q2;exact q2
  | some p=>
   obtain ⟨b,base⟩:=p
   rw [hm] at q2
   obtain ⟨o,r1,r2⟩:=q2
   refine ⟨o,r1,?_⟩
   cases o with
   | cells cur e' z=>
    obtain ⟨r2,r3,r4,r5⟩:=r2
    refine ⟨r2,r3,r4,λi j pv hi hj=>?_⟩
    obtain ⟨a,ha,hle⟩:=(h3 i hi).get hj
    obtain ⟨v,hv,hcc⟩:=r5 i j a hi ha
    exact ⟨v,hv,he.ak8 (hle.ak8 hcc)⟩
   | map es c=>
    obtain ⟨r2,r3⟩:=r2
    refine ⟨r2,λi hi=>?_⟩
    obtain ⟨kp,vp,en,s1,s2,s3,s4⟩:=r3 i hi
    have hle:=h3 i hi
    rw [s1] at hle
    exact ⟨kp,vp,en,hle.ads s2 s3,s2,s3,s4⟩
   | _=>exact r2.elim
 ·obtain ⟨fi,q1,_⟩:=he.Ru hi
  obtain ⟨fj,q2,_⟩:=he.Ru hj
  exact hc.ok.inj i j g sz n e fi g' cr n' e' fj b o o' q1 q2 h1 h3
theorem eO.fr {l l':List ak} (he:eO l l') {μ0 μ:Mu} {h0:List ak} {S0 S:Nat->Prop} {w0 w:World} (hF:Fr μ0 h0 S0 w0 μ l S w):Fr μ0 h0 S0 w0 μ l' S w:=by
 refine ⟨by rw [<-he.len];exact hF.len,hF.blocks,hF.sub,hF.new,λb hb=>hF.own b (he.zl hb),hF.size,hF.os,hF.tape,hF.output,λid g sz n e f hid=>?_,λid hid=>he.getD (hF.dead id hid),hF.cH,λid g sz n e f b base hj hm mu=>?_,hF.wv⟩
 rotate_left
 ·obtain ⟨r1,r2⟩:=hF.maps id g sz n e f b base hj hm mu
  refine ⟨r1,?_⟩
  rcases r2 with r2 | ⟨⟨g',cr,n',e',f',r2⟩,r3⟩
  ·exact .inl (he.getD r2)
  ·obtain ⟨f2,h1,_⟩:=he.get r2
   exact .inr ⟨⟨_,_,_,_,_,h1⟩,r3⟩
 have hg:=hF.CH id g sz n e f hid
 cases ho:l[id]? with
 | none=>rw [ho] at hg;exact hg.elim
 | some o=>
  cases o with
  | dead=>rw [he.getD ho];trivial
  | row g' cr n' e' f'=>
   obtain ⟨f2,h1,_⟩:=he.get ho
   rw [ho] at hg
   rw [h1]
   exact hg
section
variable {P:Program} {T:o9} {μ:Mu} {h:List ak} {S:Nat->Prop} {w:World}
def fG (P:Program) (o:Oper) (a:Act) (μ:Mu) (h:List ak) (S:Nat->Prop) (w:World) (K:PV->List ak->Prop):Prop:=
 ∀(next:Act->World->Prop) (Q:Exit->Act->World->Prop),
  (∀v val h' μ' S' w',K v h'->bS μ' h' S' w' v val->Core μ' h' S' w'->Fr μ h S w μ' h' S' w'->next (a.put o.dst val) w')->o.wp P a w next Q
theorem fG.rows {o:Oper} {a:Act} {K:PV->List ak->Prop} (hA:fG P o a μ h S w (λv h1=>∃h2,eO h1 h2/\K v h2)):fG P o a μ h S w K:=by
 intro next Q hn
 refine hA next Q λv val h' μ' S' w' ⟨h2,he,hK⟩ hv hc hf=>?_
 exact hn v val h2 μ' S' w' hK (he.aE3 hv) (he.core hc) (he.fr hf)
theorem fG.r7 {o:Oper} {a:Act} {K:PV->List ak->Prop} (hc:Core μ h S w) (hs:eh P o a μ h S w (λv=>K v h)):fG P o a μ h S w K:=by
 obtain ⟨v,val,hK,hv,hr⟩:=hs
 intro next Q hn
 unfold Oper.wp
 rw [hr w (cD.refl w)]
 exact hn v val h μ S w hK hv hc Fr.refl
theorem fG.gQ {o:Oper} {a:Act} {K:PV->List ak->Prop} {v:PV} {val:Value} {h':List ak} {μ':Mu} {S':Nat->Prop} {w':World} (hr:(execOp a.eval o).run P w=.ok (.value val) w') (hK:K v h') (hv:bS μ' h' S' w' v val)
  (hc:Core μ' h' S' w') (hf:Fr μ h S w μ' h' S' w'):fG P o a μ h S w K:=by
 intro next Q hn
 unfold Oper.wp
 rw [hr]
 exact hn v val h' μ' S' w' hK hv hc hf
theorem fG.Py {o:Oper} {a:Act} {K:PV->List ak->Prop} {h':List ak} {μ':Mu} {S':Nat->Prop} {w':World} (hr:(execOp a.eval o).run P w=.ok .skip w') (hK:K .jf h')
  (hc:Core μ' h' S' w') (hf:Fr μ h S w μ' h' S' w'):fG P o a μ h S w K:=by
 intro next Q hn
 unfold Oper.wp
 rw [hr]
 exact hn .jf undef h' μ' S' w' hK trivial hc hf
theorem adt (hT:dJ P T) {t:Nat} {n:Nat} (hn:lD (T.get t)=n) (Rv:0<n):∃i,P.info? t=some i/\i.size=n:=by
 cases gH:T.get t with
 | struct sz fl z=>
  obtain ⟨fs,i,_,hi,gK,_⟩:=hT.struct _ _ _ _ gH
  rw [gH] at hn
  exact ⟨i,hi,gK.trans hn⟩
 | other=>rw [gH] at hn;simp [lD] at hn;omega
 | _=>
  rw [gH] at hn
  have h1:n=1:=hn.symm
  subst h1
  refine hT.one t ?_ ?_
  ·rw [gH];rfl
  ·intro sz fl z hh;rw [gH] at hh;cases hh
variable {a:Act} {env:Env} {K:PV->List ak->Prop} {dst:Option Tmp} {ty:TypeId} {pos:String} {after:Array Edge} {guard:Option (Nat×Bool)}
theorem tb (cur vs:List Value) (o q:Nat) (hl:o+vs.length<=cur.length):
  (cur.take o++vs++cur.drop (o+vs.length))[q]? =if o<=q/\q<o+vs.length then vs[q - o]? else cur[q]? :=by
 have h1:(cur.take o).length=o:=by simp;omega
 by_cases ha:q<o
 ·rw [if_neg aKK,aIe,aIk aKK,aJn,if_pos ha]
 ·by_cases hb:q<o+vs.length
  ·rw [if_pos ⟨by omega,hb⟩,aIk aKT,aIc aKK,h1]
  ·rw [if_neg aKK,aIc aKT,aIQ]
   congr 1
   simp
   omega
theorem JV (hT:dJ P T) (hc:Core μ h S w) (ht:∀t,bS μ h S w (env t) (a.tmps.getD t undef)) (t:Nat) (ad x:Operand) (hp:pop P T (.store t ad x) env h K):
  fG P ⟨dst,.store t ad x,ty,pos,after,guard⟩ a μ h S w K:=by
 have hx:=cA ht x
 have vH:=cA ht ad
 simp only [pop] at hp
 split at hp
 ·rename_i id gen i off hea
  rw [hea] at vH
  split at hp
  ·rename_i g sz n e f hg
   obtain ⟨rfl,hp⟩:=hp
   replace hp:=bI (cK hp)
   obtain ⟨qF,hK⟩:=hp
   simp only [As] at qF
   obtain ⟨⟨⟨sy,Rv⟩,hty⟩,hle⟩:=qF
   have Rv:=aHV Rv
   have hty:=Of hty
   have hle:=aHV hle
   have hh:=ez hg
   have hr:=vH.uZ
   unfold cG at hr
   rw [hh] at hr
   obtain ⟨_,_,hr⟩:=hr
   obtain ⟨Sh,b,base,hC,M7,hav⟩:=hr rfl
   obtain ⟨hl,jS⟩:=hc.heap id g sz n e f hh
   rw [hC] at jS
   obtain ⟨cur,lu,um,bs⟩:=cZ.cells M7.1 jS
   obtain ⟨hvl,hvc⟩:=nq sy hx
   have hso:∀(j:Nat) (pv:PV),(cellsOf (ev env x))[j]? =some pv->dW pv=false:=λj pv hj=>M9 sy hj
   generalize hcs:cellsOf (ev env x)=cs at*
   generalize hvs:(a.eval x).cells.toList=vs at*
   have Rv:0<cs.length:=by omega
   obtain ⟨inf,lr,pH⟩:=adt hT hty Rv
   have hmul:(i+1)*sz<=n*sz:=aHO _ Sh
   rw [aHR] at hmul
   have lS:(storeCells ⟨b,base+i*sz+off,none⟩ vs 0).run P w=.ok () (w.setRow b (cur.toList.take (base+i*sz+off+0)++vs++cur.toList.drop (base+i*sz+off+0+vs.length)).toArray):=
    run_storeCells_at P b (base+i*sz+off) e vs 0 cur w lu aKK (λv hv=>by
     obtain ⟨j,hj,rfl⟩:=aJc.1 hv
     have Rw:j<cs.length:=by omega
     obtain ⟨u,hu,hr⟩:=hvc j cs[j] (abF Rw)
     rw [abF hj] at hu
     injection hu with hu
     rw [hu]
     exact hr.one)
   rw [aIP] at lS
   have Pz:∀k,(dV f i (gF (f i) off cs) k)=if k=i then gF (f i) off cs else f k:=λk=>by
    unfold dV
    by_cases hk:k=i
    ·subst hk;simp
    ·have:Nat.beq k i=false:=by
      cases hb:Nat.beq k i with
      | true=>exact (hk (Of hb)).elim
      | false=>rfl
     simp [this,hk]
   have nr:=yk (w1:=w.setRow b (cur.toList.take (base+i*sz+off)++vs++cur.toList.drop (base+i*sz+off+vs.length)).toArray) hc id g g sz n n e f (dV f i (gF (f i) off cs)) hh b base
    (cur.toList.take (base+i*sz+off)++vs++cur.toList.drop (base+i*sz+off+vs.length)).toArray (No _) (λ_=>⟨hC,rfl⟩)
    (.inr ⟨base,cur,hC,lu,by simp;omega⟩) (setRow_heap w b cur _ e _ lu) aKT
    (λb' _ mJ=>setRow_other w b b' _ mJ) aKN rfl rfl rfl
    (λk hk=>by
     rw [Pz]
     split
     ·rename_i xf;subst xf;rw [nn];exact hl _ hk
     ·exact hl k hk)
    (λb' oM Ho=>by rw [hC] at Ho;injection Ho with Ho;injection Ho with h1 _;subst h1;exact M7.1.CF)
    (λk j pv hk hj=>by
     have K0:j<sz:=by
      have h1:=(An.1 hj).1
      rw [Pz] at h1
      split at h1
      ·rw [nn,hl i Sh] at h1;exact h1
      ·rw [hl k hk] at h1;exact h1
     have Eh:(cur.toList.take (base+i*sz+off)++vs++cur.toList.drop (base+i*sz+off+vs.length)).toArray[base+k*sz+j]? =if base+i*sz+off<=base+k*sz+j/\base+k*sz+j<base+i*sz+off+vs.length then vs[base+k*sz+j - (base+i*sz+off)]? else cur[base+k*sz+j]? :=by
      have hsp:=tb cur.toList vs (base+i*sz+off) (base+k*sz+j) aKT
      rw [aJj,hsp]
      simp only [aHZ]
     rw [Eh]
     rw [Pz] at hj
     by_cases xf:k=i
     ·subst xf
      rw [if_pos rfl,qD cs (f k) off j (by rw [hl k hk];exact hle)] at hj
      by_cases hr:off<=j/\j<off+cs.length
      ·rw [if_pos hr] at hj
       rw [if_pos aKK]
       obtain ⟨u,hu,pa⟩:=hvc _ _ hj
       exact ⟨u,by rw [<-hu];congr 1;omega,pa.k (hso _ _ hj)⟩
      ·rw [if_neg hr] at hj
       rw [if_neg aKK]
       exact bs k j pv hk hj
     ·rw [if_neg xf] at hj
      have Nc:¬(base+i*sz+off<=base+k*sz+j/\base+k*sz+j<base+i*sz+off+vs.length):=by
       rcases Nat.lt_or_gt_of_ne xf with bg | Fc
       ·have:(k+1)*sz<=i*sz:=aHO _ bg
        rw [aHR] at this
        omega
       ·have:(i+1)*sz<=k*sz:=aHO _ Fc
        rw [aHR] at this
        omega
      rw [if_neg Nc]
      exact bs k j pv hk hj) 0 (λk j cr n' e' f' F' hk hj=>by
    rw [aHJ]
    refine ⟨hk,?_⟩
    rw [Pz] at hj
    by_cases xf:k=i
    ·subst xf
     rw [if_pos rfl,qD cs (f k) off j (by rw [hl k hk];exact hle)] at hj
     by_cases hr:off<=j/\j<off+cs.length
     ·rw [if_pos hr] at hj
      have:=hso _ _ hj
      cases this
     ·rw [if_neg hr] at hj;exact hj
    ·rw [if_neg xf] at hj;exact hj)
   obtain ⟨jG,qI⟩:=nr
   obtain ⟨_,f',rfl,A9,hK⟩:=hK
   refine fG.rows (fG.Py ?_ ⟨_,eO.set _ _ _ _ _ _ _ _ A9,hK⟩ qI jG)
   have e1:(execOp a.eval ⟨dst,.store t ad x,ty,pos,after,guard⟩)=(do Instr.storeAt t (a.eval ad) (a.eval x);pure .skip:Sem Next):=rfl
   rw [e1,hav]
   have gK:¬(a.eval x).cells.size≠inf.size:=by
    rw [pH]
    simp only [ne_eq,Decidable.not_not]
    rw [<-hvl,<-hvs]
    simp
   simp only [Instr.storeAt,Instr.sureAddr,storeVar,Sem.run_bind,Sem.run_pure,Result.andThen,lW lr,if_neg gK,hvs,lS]
  ·exact aKm
 ·exact aKm
theorem Ei (z:Array Value) (n q:Nat) (hq:q<n) (hz:0<z.size):(madeCells z n)[q]? =z[q % z.size]? :=by
 have h1:q % z.size<z.size:=Nat.mod_lt _ hz
 simp [madeCells,hq,h1]
theorem adu (i j sz:Nat) (hj:j<sz):(i*sz+j) % sz=j:=by
 rw [Nat.mul_comm,Nat.mul_add_mod];exact Nat.mod_eq_of_lt hj
theorem mv (w:World) (o:Obj):cD w (w.alloc o):=
 ⟨λb hb=>Below.heap_alloc w o b hb,by simp,rfl,rfl,rfl⟩
theorem Nd (hT:dJ P T) (hc:Core μ h S w) (ht:∀t,bS μ h S w (env t) (a.tmps.getD t undef)) (t:Nat) (l c:Operand) (hp:pop P T (.makeSlice t l c) env h K):
  fG P ⟨dst,.makeSlice t l c,ty,pos,after,guard⟩ a μ h S w K:=by
 have hl:=cA ht l
 have fY:=cA ht c
 simp only [pop] at hp
 split at hp
 ·rename_i e sz bytes zero k n k' m gH hel hec
  rw [hel] at hl
  rw [hec] at fY
  obtain ⟨⟨h0,h1,h2,h3⟩,_,f',rfl,A9,hK⟩:=hp
  obtain ⟨hu,gK,inf,zv,lr,pH,hib,hz,Si,Ze,Sj⟩:=hT.slice _ _ _ _ _ gH
  subst pH hib
  have hm:(inf.bytes:Int)*m<=281474976710656:=by
   have e1:(m.toNat:Int)=m:=Int.toNat_of_nonneg aKK
   have e2:((m.toNat*inf.bytes:Nat):Int)<=140737488355328:=by omega
   rw [Int.natCast_mul,e1,Int.mul_comm] at e2
   omega
  have lS:=run_make (P:=P) w t e inf zv hu lr hz k k' n m h0 h1 hm aKK
  have nr:=oN (w1:=w.alloc (.cells (madeCells zv.cells (m.toNat*inf.size)) e)) hc inf.size n.toNat e (λ_=>zero) (some (w.heap.size,0))
   ⟨No _,_,heap_alloc_new w _,by
    rw [size_madeCells,aHJ]
    exact aHO _ aKK,λi j pv hi hj=>by
    have K0:j<inf.size:=by rw [<-Ze];exact (An.1 hj).1
    have bg:0+i*inf.size+j<m.toNat*inf.size:=by
     have:(i+1)*inf.size<=m.toNat*inf.size:=aHO _ aKK
     rw [aHR] at this
     omega
    rw [Ei _ _ _ bg aKK,aHJ,Si,adu i j _ K0]
    have Sk:j<zv.cells.size:=by omega
    obtain ⟨gw,h5,_,h6⟩:=Sj j zv.cells[j] (aIa Sk)
    rw [hj] at h5
    injection h5 with h5
    subst h5
    exact ⟨_,aIa Sk,cz.lp (h6 S w)⟩⟩ (mv w _) (λi hi=>Ze) (λi j pv _ hj=>by
  have Sk:j<zv.cells.size:=by have:=(An.1 hj).1;omega
  obtain ⟨gw,h5,_,h6⟩:=Sj j zv.cells[j] (aIa Sk)
  rw [hj] at h5;injection h5 with h5;rw [h5];exact aY.no (h6 S w))
  obtain ⟨jG,qI⟩:=nr
  refine fG.rows (fG.gQ (dN rfl (by rw [hl.ll,fY.ll];exact lS)) ⟨_,eO.snoc _ _ _ _ _ _ _ A9,hK⟩ ?_ qI jG)
  show bC _ _ _ _ _ _ _ _
  unfold bC
  rw [aIc (No _),aIR]
  refine ⟨⟨_,_,_,rfl⟩,No _,λ_=>⟨by omega,?_⟩⟩
  rw [bB]
  refine ⟨_,m.toNat,rfl,by omega,λ_=>by simp,_,e,_,heap_alloc_new w _,?_⟩
  rw [size_madeCells]
  simp
 ·exact aKm
theorem JW (sz len:Nat) (place:Nat->Option (Nat×Nat)) (Zh:∀i,place i=some (i*sz,sz)):∀(l:List (Nat×Operand)) (ρ:Operand->Value) (k:Nat) (cells:Array Value),z7 len k l=true->cells.size=len*sz->
  (∀p∈l,(ρ p.2).cells.size=sz)->
  ∃jA,Instr.fill place cells (l.map λp=>(p.1,ρ p.2))=some jA/\jA.size=len*sz/\(∀q,q<k*sz->jA[q]? =cells[q]?)/\
   ∀(i j:Nat) (p:Nat×Operand),l[i]? =some p->j<sz->jA[(k+i)*sz+j]? =(ρ p.2).cells[j]?
 | [],ρ,k,cells,hi,hs,_=>⟨cells,rfl,hs,λ_ _=>rfl,λi j p hp=>by simp at hp⟩
 | (i0,x)::r,ρ,k,cells,hi,hs,hv=>by
  simp only [z7,As] at hi
  have hik:=Of hi.1
  subst hik
  have hlen:∀(l:List (Nat×Operand)) (k:Nat),z7 len k l=true->k<=len:=by
   intro l
   induction l with
   | nil=>intro k h;exact Nat.le_of_eq (Of h)
   | cons p l ih=>
    intro k h
    obtain ⟨a,b⟩:=p
    simp only [z7,As] at h
    have:=ih (k+1) h.2
    omega
  have hk:=hlen r (i0+1) hi.2
  have hvx:=hv (i0,x) aKN
  have qJ:(i0+1)*sz<=len*sz:=aHO _ hk
  have ak9:=qJ
  rw [aHR] at ak9
  obtain ⟨g1,g2⟩:=tM (ρ x) (i0*sz) cells (by rw [hvx];omega)
  obtain ⟨jA,h1,h2,h3,h4⟩:=JW sz len place Zh r ρ (i0+1) _ hi.2 (g1.trans hs) (λp hp=>hv p (by simp [hp]))
  refine ⟨jA,?_,h2,λq hq=>?_,λi j p hp hj=>?_⟩
  ·simp only [aHQ,Instr.fill,Zh]
   rw [if_neg (by simp only [hvx,ne_eq,not_true_eq_false,false_or];simp only [aIJ,decide_eq_true_eq,not_or];simp;omega)]
   exact h1
  ·rw [h3 q (by rw [aHR];omega),g2 q,if_neg aKK]
  ·cases i with
   | zero=>
    simp at hp
    subst hp
    rw [aIP,h3 _ (by rw [aHR];omega),g2,hvx,if_pos aKK]
    congr 1
    omega
   | succ i=>
    simp at hp
    have:=h4 i j p hp hj
    rw [show i0+1+i=i0+(i+1) from by omega] at this
    exact this
theorem zm (hT:dJ P T) (hc:Core μ h S w) (ht:∀t,bS μ h S w (env t) (a.tmps.getD t undef)) (t len:Nat) (parts:Array (Nat×Operand)) (hp:pop P T (.buildSlice t len parts) env h K):
  fG P ⟨dst,.buildSlice t len parts,ty,pos,after,guard⟩ a μ h S w K:=by
 simp only [pop] at hp
 split at hp
 ·rename_i e sz bytes zero gH
  replace hp:=bI hp
  obtain ⟨qF,hK⟩:=hp
  obtain ⟨hu,gK,inf,zv,lr,pH,hib,hz,Si,Ze,Sj⟩:=hT.slice _ _ _ _ _ gH
  subst pH
  simp only [As] at qF
  obtain ⟨Eh,hle⟩:=qF
  have hle:=aHV hle
  obtain ⟨mG,hK⟩:=z8 _ _ hK
  simp only [aJB,aIg] at hK
  have jS:∀p∈parts.toList,(a.eval p.2).cells.size=inf.size/\(cellsOf (ev env p.2)).length=inf.size/\
    ∀(j:Nat) (q:PV),(cellsOf (ev env p.2))[j]? =some q->∃u,(a.eval p.2).cells[j]? =some u/\cz μ h S w q u:=λp hp=>by
   obtain ⟨h1,h2⟩:=mG p hp
   have h2:=Of h2
   obtain ⟨h3,h4⟩:=nq h1 (cA ht p.2)
   simp only [aIA,aHZ] at h3 h4
   exact ⟨h3.trans h2,h2,h4⟩
  obtain ⟨jA,f1,f2,_,f4⟩:=JW inf.size len (λi=>some (i*inf.size,inf.size)) (λ_=>rfl) parts.toList a.eval 0
   ((Array.range (len*inf.size)).map (λq=>(if len*inf.size=0 then #[] else zv.cells)[q % (if len*inf.size=0 then #[] else zv.cells).size]!)) Eh aKN (λp hp=>(jS p hp).1)
  have hlen:parts.toList.length=len:=by
   have key:∀(l:List (Nat×Operand)) (k:Nat),z7 len k l=true->k+l.length=len:=by
    intro l
    induction l with
    | nil=>intro k hh;exact Of hh
    | cons p l ih=>
     intro k hh
     obtain ⟨x,y⟩:=p
     simp only [z7,As] at hh
     have:=ih (k+1) hh.2
     simp only [an]
     omega
   have:=key parts.toList 0 Eh
   omega
  have dz:∀i,i<len->∃p,parts.toList[i]? =some p/\p∈parts.toList/\(parts.toList.map λp=>cellsOf (ev env p.2)).getD i []=cellsOf (ev env p.2):=λi hi=>by
   have rf:i<parts.toList.length:=by omega
   refine ⟨parts.toList[i],abF rf,aIh rf,?_⟩
   rw [aHL,aIb,abF rf]
   rfl
  have nr:=oN (w1:=w.alloc (.cells jA e)) hc inf.size len e (λk=>(parts.toList.map λp=>cellsOf (ev env p.2)).getD k []) (some (w.heap.size,0))
   ⟨No _,jA,heap_alloc_new w _,by omega,λi j pv hi hj=>by
    obtain ⟨p,Dx,Hy,hp3⟩:=dz i hi
    rw [hp3] at hj
    obtain ⟨_,q2,q3⟩:=jS p Hy
    have K0:j<inf.size:=by rw [<-q2];exact (An.1 hj).1
    have:=f4 i j p Dx K0
    rw [aHJ] at this
    obtain ⟨u,Sg,Pt⟩:=q3 j pv hj
    exact ⟨u,by rw [<-Sg,<-this,aHJ],Pt⟩⟩ (mv w _)
   (λi hi=>by
    obtain ⟨p,Dx,Hy,hp3⟩:=dz i hi
    rw [hp3]
    exact (jS p Hy).2.1) (λi j pv hi hj=>by
    obtain ⟨p,Dx,Hy,hp3⟩:=dz i hi
    rw [hp3] at hj
    exact M9 (mG p Hy).1 hj)
  obtain ⟨jG,qI⟩:=nr
  obtain ⟨f',A9,hK⟩:=hK
  refine fG.rows (fG.gQ (val:=.slice (some ⟨w.heap.size,0,none⟩) len len) (dN rfl ?_) ⟨_,eO.snoc _ _ _ _ _ _ _ A9,hK⟩ ?_ qI jG)
  ·have ala:(parts.map λp=>(p.1,a.eval p.2)).toList=parts.toList.map λp=>(p.1,a.eval p.2):=by simp
   have hn:¬(16777216<len*inf.size):=by omega
   have PA:Instr.fill (λi=>some (i*inf.size,inf.size)) (Array.map (λx=>(if len*inf.size=0 then #[] else zv.cells)[x % (if len*inf.size=0 then #[] else zv.cells).size]!) (Array.range (len*inf.size))) (parts.map λp=>(p.1,a.eval p.2)).toList=some jA:=by
    rw [ala];exact f1
   by_cases h0:len*inf.size=0
   ·simp [h0] at PA
    simp only [Instr.buildSlice,Sem.run_bind,run_underlying hu,Result.andThen,lW lr]
    simp [h0,newRow]
    rw [PA]
    rfl
   ·simp [h0] at PA
    simp only [Instr.buildSlice,Sem.run_bind,run_underlying hu,Result.andThen,lW lr]
    simp [h0,hn,newRow,zeroValue,typeInfo,lr,hz]
    rw [PA]
    rfl
  ·show bC _ _ _ _ _ _ _ _
   unfold bC
   rw [aIc (No _),aIR]
   refine ⟨⟨_,_,_,rfl⟩,No _,λ_=>⟨by omega,?_⟩⟩
   rw [bB]
   exact ⟨_,len,rfl,No _,λ_=>by simp,jA,e,_,heap_alloc_new w _,by rw [aHJ,aHJ];omega⟩
 ·exact aKm
theorem Rx (hc:Core μ h S w) (ht:∀t,bS μ h S w (env t) (a.tmps.getD t undef)) (t:Nat) (x:Operand) (hp:pop P T (.box t x) env h K):
  fG P ⟨dst,.box t x,ty,pos,after,guard⟩ a μ h S w K:=by
 simp only [pop] at hp
 replace hp:=bI (cK hp)
 obtain ⟨qF,hK⟩:=hp
 simp only [As] at qF
 obtain ⟨sy,hlen⟩:=qF
 have hlen:=Of hlen
 obtain ⟨h3,h4⟩:=nq sy (cA ht x)
 simp only [aIA,aHZ] at h3 h4
 have nr:=oN (w1:=w.alloc (.cells (a.eval x).cells t)) hc (lD (T.get t)) 1 t (λ_=>cellsOf (ev env x)) (some (w.heap.size,0))
  ⟨No _,_,heap_alloc_new w _,by omega,λi j pv hi hj=>by
   obtain ⟨u,hu,hr⟩:=h4 j pv hj
   have:i=0:=by omega
   subst this
   exact ⟨u,by rw [<-hu];congr 1;omega,hr⟩⟩ (mv w _) (λi hi=>hlen) (λi j pv _ hj=>M9 sy hj)
 obtain ⟨jG,qI⟩:=nr
 refine fG.gQ (val:=.pointer (some ⟨w.heap.size,0,none⟩)) (dN rfl ?_) hK ?_ qI jG
 ·simp [Instr.box,newVar,newRow]
 ·show cG _ _ _ _ _ _ _ _
  unfold cG
  rw [aIc (No _),aIR]
  refine ⟨⟨_,rfl⟩,No _,λ_=>⟨by omega,w.heap.size,0,bB _ _ _,⟨⟨_,_,_,heap_alloc_new w _,aIS _⟩,λ_=>rfl⟩,?_⟩⟩
  simp
theorem JX (hT:dJ P T) (hc:Core μ h S w) (t:Nat) (hp:pop P T (.alloc t) env h K):
  fG P ⟨dst,.alloc t,ty,pos,after,guard⟩ a μ h S w K:=by
 simp only [pop] at hp
 split at hp
 ·rename_i z gH
  obtain ⟨i,zv,hi,hz,Si,Ze,Sj⟩:=hT.zero t z gH
  generalize gK:lD (T.get t)=sz at*
  have nr:=oN (w1:=w.alloc (.cells zv.cells t)) hc sz 1 t (λ_=>z) (some (w.heap.size,0))
   ⟨No _,_,heap_alloc_new w _,by omega,λi j pv hi hj=>by
    have Sk:j<zv.cells.size:=by
     have:=(An.1 hj).1
     omega
    obtain ⟨gw,h5,_,h6⟩:=Sj j zv.cells[j] (aIa Sk)
    rw [hj] at h5
    injection h5 with h5
    subst h5
    have:i=0:=by omega
    subst this
    exact ⟨_,by rw [<-aIa Sk];congr 1;omega,cz.lp (h6 S w)⟩⟩ (mv w _) (λi hi=>Ze) (λi j pv _ hj=>by
  have Sk:j<zv.cells.size:=by have:=(An.1 hj).1;omega
  obtain ⟨gw,h5,_,h6⟩:=Sj j zv.cells[j] (aIa Sk)
  rw [hj] at h5;injection h5 with h5;rw [h5];exact aY.no (h6 S w))
  obtain ⟨jG,qI⟩:=nr
  refine fG.gQ (val:=.pointer (some ⟨w.heap.size,0,none⟩)) (dN rfl ?_) hp ?_ qI jG
  ·simp [Instr.alloc,zeroValue,typeInfo,hi,hz,newVar,newRow]
  ·show cG _ _ _ _ _ _ _ _
   unfold cG
   rw [aIc (No _),aIR]
   refine ⟨⟨_,rfl⟩,No _,λ_=>⟨by omega,w.heap.size,0,bB _ _ _,⟨⟨_,_,_,heap_alloc_new w _,aIS _⟩,λ_=>rfl⟩,?_⟩⟩
   simp
 ·exact aKm
end
end Go.Am
