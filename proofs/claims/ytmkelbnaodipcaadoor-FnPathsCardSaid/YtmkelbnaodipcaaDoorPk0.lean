/- Texts of the proof, joined and shortened. -/
import Derived.WalkKit
import Derived.Deep.Draws
import Derived.Deep.Quiet
namespace Go.Am
open Go Go.RowKit
set_option linter.unusedVariables false
abbrev an:=@List.getElem?_eq_some_iff
abbrev so:=@Bool.and_eq_true
abbrev An:=@if_pos
abbrev As:=@List.getElem?_eq_getElem
abbrev Is:=@if_neg
abbrev No:=@Nat.eq_of_beq_eq_true
abbrev Su:=@Array.getElem?_eq_some_iff
abbrev Sv:=@Nat.le_refl
abbrev Sw:=@List.mem_append
abbrev Sx:=@Nat.zero_add
abbrev Sy:=@List.all_eq_true
abbrev Sz:=@List.getD_eq_getElem?_getD
abbrev SA:=@List.length_cons
abbrev SB:=@List.mem_cons
abbrev SC:=@Nat.mul_le_mul_right
abbrev SD:=@Nat.add_mul
abbrev SE:=@List.map_cons
abbrev SF:=@List.mem_map
abbrev SG:=@List.mem_cons_of_mem
abbrev SH:=@Nat.lt_of_lt_of_le
abbrev SI:=@Nat.le_of_ble_eq_true
abbrev SJ:=@List.mem_of_getElem?
abbrev SK:=@List.length_nil
abbrev SL:=@List.getElem?_map
abbrev SM:=@List.getElem_mem
abbrev SN:=@List.getElem?_set_ne
abbrev SO:=@Array.getElem?_eq_getElem
abbrev SP:=@List.getElem?_append_right
abbrev SQ:=@Array.getElem?_toList
abbrev SR:=@List.getElem?_append_left
abbrev SS:=@List.map_nil
abbrev SU:=@List.map_append
abbrev SV:=@List.getElem?_set_self
abbrev SW:=@Option.some.inj
abbrev SX:=@Bool.not_eq_true'
abbrev SY:=@List.append_assoc
abbrev SZ:=@List.getElem?_eq_none
abbrev S4:=@Nat.le_trans
abbrev S5:=@Nat.lt_or_ge
abbrev S6:=@Nat.not_lt_zero
abbrev S7:=@Array.eq_empty_of_size_eq_zero
abbrev S8:=@Array.length_toList
abbrev S9:=@Array.getElem?_append_left
abbrev Ta:=@Nat.eq_zero_or_pos
abbrev Tb:=@List.mem_iff_getElem
abbrev Tc:=@decide_eq_true_eq
abbrev Td:=@Nat.add_zero
abbrev Te:=@List.length_set
abbrev Tf:=@decide_eq_false
abbrev Tg:=@decide_eq_true
abbrev Th:=@Bool.or_eq_true
abbrev Ti:=@List.drop_eq_getElem_cons
abbrev Tj:=@List.getElem_set_self
abbrev Tk:=@List.set_set
abbrev Tl:=@Ne.symm
abbrev Tm:=@Nat.sub_self
abbrev Tn:=@Nat.beq_refl
abbrev To:=@Bool.false_eq_true
abbrev Tp:=@List.getElem?_drop
abbrev Tq:=@List.nil_append
abbrev Tr:=@List.mem_append_left
abbrev Ts:=@beq_iff_eq
abbrev Tt:=@Array.size_append
abbrev Tu:=@if_false
abbrev Tv:=@List.getElem_append_left
abbrev Tw:=@List.take_append_getElem
abbrev Tx:=@List.all_cons
abbrev Ty:=@if_true
abbrev Tz:=@List.mem_singleton
abbrev TA:=@List.drop_of_length_le
abbrev TB:=@List.mem_range
abbrev TC:=@List.getElem?_toArray
abbrev TD:=@List.getElem_map
abbrev TE:=@List.cons_append
abbrev TF:=@List.length_take
abbrev TG:=@List.length_map
abbrev TH:=@List.append_nil
abbrev TJ:=@List.getElem_append_right
abbrev TK:=@List.getElem?_take
abbrev TL:=@Array.empty_append
abbrev TM:=@List.length_append
abbrev TN:=@Nat.lt_of_lt_of_eq
abbrev TO:=@List.getElem_take
abbrev TP:=@Int.toNat_natCast
abbrev TQ:=@Nat.zero_le
abbrev TR:=@List.findIdx?_eq_some_iff_getElem
abbrev TS:=@Bool.true_and
abbrev TT:=@Nat.lt_succ_self
abbrev TU:=@Array.getElem?_setIfInBounds_ne
abbrev TV:=@List.eraseIdx_eq_take_drop_succ
abbrev TW:=@bne_iff_ne
abbrev TX:=@cond_false
abbrev TY:=@beq_eq_false_iff_ne
abbrev TZ:=@Array.getElem?_map
abbrev T0:=@List.append_of_mem
abbrev T1:=@List.reverse_nil
abbrev T2:=@Option.getD_some
abbrev T3:=@List.map_toArray
abbrev T4:=@Option.bind_some
abbrev T5:=@List.length_drop
abbrev T6:=@Nat.le_of_eq
abbrev T7:=@List.not_mem_nil
theorem T8 {p:Prop} (h:p:=by
  obtain rfl:=si h;replace h:=eh;exact eB h):p:=h
theorem T9 {p:Prop} (h:p:=by
  obtain rfl:=si h;replace h:=tt;exact eB h):p:=h
theorem Ua {p:Prop} (h:p:=by
  obtain⟨dst,op,ty,pos,after,guard⟩:=o;subst hg;exact hp):p:=h
theorem Ub {p:Prop} (h:p:=by
  obtain rfl:=si h;exact⟨rfl,_,rfl,(en [0] ⟨rfl,rfl⟩ (.aM ⟨.i,.i,.s,.i,.r,⟨⟩⟩) ⟨(ob rfl ⟨.l,.i,.i,⟨⟩⟩),⟨⟩⟩)⟩):p:=h
theorem Uc {p:Prop} (h:p:=by
  obtain rfl:=si h;exact en [] ⟨rfl,rfl⟩ (.dm ⟨.i,.b,⟨⟩⟩) ⟨⟩):p:=h
theorem Ud {p:Prop} (h:p:=by
  obtain rfl:=si h;exact⟨rfl,_,rfl,(en [] ⟨rfl,rfl⟩ (.dm ⟨.aM ⟨.i,.i,.s,.i,.l,⟨⟩⟩,.i,⟨⟩⟩) ⟨⟩)⟩):p:=h
theorem Ue {p:Prop} (h:p:=by
  obtain rfl:=si h;exact⟨rfl,_,rfl,(en [0] ⟨rfl,rfl⟩ (.aM ⟨.i,.i,.s,.i,.z,⟨⟩⟩) ⟨(ob rfl ⟨.l,.i,.i,⟨⟩⟩),⟨⟩⟩)⟩):p:=h
theorem Uf {p:Prop} (h:p:=by
  obtain rfl:=si h;exact⟨rfl,_,rfl,(en [0] ⟨rfl,rfl⟩ (.aM ⟨.i,.i,.s,.i,.l,⟨⟩⟩) ⟨(ob rfl ⟨.l,.i,.i,⟨⟩⟩),⟨⟩⟩)⟩):p:=h
theorem Ug {p:Prop} (h:p:=by
  obtain rfl:=si h;exact en [0] ⟨rfl,rfl⟩ .i ⟨(ob rfl ⟨.l,.i,.i,⟨⟩⟩),⟨⟩⟩):p:=h
theorem Uh {p:Prop} (h:p:=by
  obtain rfl:=si h;exact⟨rfl,_,rfl,(en [0,3] ⟨rfl,rfl⟩ (.aM ⟨.i,.i,.s,.i,.g,⟨⟩⟩) ⟨(ob rfl ⟨.l,.i,.i,⟨⟩⟩),gh,⟨⟩⟩)⟩):p:=h
theorem Ui {p:Prop} (h:p:=by
  obtain rfl:=si h;exact⟨rfl,_,rfl,(en [0,2] ⟨rfl,rfl⟩ (.aM ⟨.i,.i,.s,.i,.o,⟨⟩⟩) ⟨(ob rfl ⟨.l,.i,.i,⟨⟩⟩),nw,⟨⟩⟩)⟩):p:=h
theorem Uj {p:Prop} (h:p:=by
  obtain rfl:=si h;exact⟨rfl,_,rfl,(en [] ⟨rfl,rfl⟩ (.dm ⟨.aM ⟨.i,.i,.s,.i,(.rd d35),⟨⟩⟩,.i,⟨⟩⟩) ⟨⟩)⟩):p:=h
theorem Uk {p:Prop} (h:p:=by
  obtain rfl:=si h;exact⟨rfl,_,rfl,(en [] ⟨rfl,rfl⟩ (.aM ⟨.i,.i,.s,.i,.r,⟨⟩⟩) ⟨⟩)⟩):p:=h
theorem Ul {p:Prop} (h:p:=by
  obtain⟨e,he,hb,rfl⟩:=(gQ mU).1 lP;exact(FQ _ (er i iv _ lP).1).1 (vW e he hb)):p:=h
theorem Um {p:Prop} (h:p:=by
  obtain⟨h1,h2⟩:=Ku he;exact⟨by rw[aJ,h1],rfl,h2,rfl⟩):p:=h
theorem Un {p:Prop} (h:p:=by
  obtain⟨es,c,q⟩:=fe;exact⟨es,c,(cj b q1 q2).trans q⟩):p:=h
theorem Uo {p:Prop} (h:p:=by
  replace h:=wO;exact T8):p:=h
theorem Up {p:Prop} (h:p:=by
  obtain⟨_,_,_,_,_,cr⟩:=jX;exact cr.qC):p:=h
theorem Uq {p:Prop} (h:p:=by exact hp.elim):p:=h
theorem Ur {p:Prop} (h:p:=by exact lg (wX _ _ _ _ _ _ _ _ h rfl rfl) (tk [0,1,2,3] ⟨.p,.i,.p,.p,.i,⟨⟩⟩ ⟨(oA rfl),(nb rfl ⟨.i,.i,.s,.i,.aD,⟨⟩⟩),(nb rfl ⟨.i,.i,.s,.i,.o,⟨⟩⟩),nw,⟨⟩⟩)):p:=h
theorem Us {p:Prop} (h:p:=by exact ct ⟨_,si h,rfl,rfl⟩ (tk [0,1] ⟨.p,.p,.i,.b,⟨⟩⟩ ⟨(oA rfl),(nb rfl ⟨.i,.i,.s,.i,.aD,⟨⟩⟩),⟨⟩⟩)):p:=h
theorem Ut {p:Prop} (h:p:=by exact ct ⟨_,si h,rfl,rfl⟩ (tk [0] ⟨.p,.i,.b,⟨⟩⟩ ⟨(ed rfl),⟨⟩⟩)):p:=h
theorem Uu {p:Prop} (h:p:=by exact .f (.f (.f (.f (.f (.f (.f (.f (ct ⟨si h,rfl,rfl⟩ (tk [0] ⟨.p,⟨⟩⟩ ⟨(ed rfl),⟨⟩⟩)))))))))):p:=h
theorem Uv {p:Prop} (h:p:=by exact⟨_,hu,rfl,h1,No h2,h4,λu=>by rw[show 9999=9998+1 from rfl,Instr.checkKey];simp [run_underlying hu]⟩):p:=h
theorem Uw {p:Prop} (h:p:=by exact ct ⟨si h,rfl,rfl⟩ (tk [] ⟨⟩ ⟨⟩)):p:=h
theorem Ux {p:Prop} (h:p:=by exact hc.ok.inj i j _ _ _ _ _ _ _ _ _ _ _ _ _ hi hj eY eN):p:=h
theorem Uy {p:Prop} (h:p:=by exact ct ⟨si h,rfl,rfl⟩ (tk [0] ⟨.p,⟨⟩⟩ ⟨(ed rfl),⟨⟩⟩)):p:=h
theorem Uz {p:Prop} (h:p:=by exact SH (hc.ok.lt b (.inl ⟨j,gj,dQ,nj,ej,fj,ff,hj,hm⟩)) gY):p:=h
theorem UA {p:Prop} (h:p:=by exact .inr (.inl h)):p:=h
theorem UB {p:Prop} (h:p:=by exact bO (hc.ok.inj j id _ _ _ _ _ _ _ _ _ _ _ _ _ hj hh hm pQ)):p:=h
theorem UC {p:Prop} (h:p:=by exact hc.ok.hv b ⟨id,g,sz,n,e,f,base,hh,hm⟩ j x y hx):p:=h
theorem UD {p:Prop} (h:p:=by exact⟨Sv _,λ_=>⟨rfl,rfl,rfl,rfl⟩⟩):p:=h
theorem UE {p:Prop} (h:p:=by exact hc.ok.inj i j _ _ _ _ _ _ _ _ _ _ _ _ _ hh hj pQ eN):p:=h
theorem UF {p:Prop} (h:p:=by exact hc.ok.inj i j _ _ _ _ _ _ _ _ _ _ _ _ _ hi hh eY pQ):p:=h
theorem UG {p:Prop} (h:p:=by exact .inl (.inl ⟨j,gj,dQ,nj,ej,fj,ff,hj,hm⟩)):p:=h
theorem UH {p:Prop} (h:p:=by exact⟨_,_,_,_,_,_,_,_,_,_,q1,q2,q3,q4⟩):p:=h
theorem UI {p:Prop} (h:p:=by exact⟨Sv _,λ_=>⟨aZ μ _ bO,rfl,rfl,rfl⟩⟩):p:=h
theorem UJ {p:Prop} (h:p:=by exact⟨_,_,rfl,hc⟩):p:=h
theorem UK {p:Prop} (h:p:=by exact ct ⟨_,si h,rfl,rfl⟩ (tk [] ⟨.i,⟨⟩⟩ ⟨⟩)):p:=h
theorem UL {p:Prop} (h:p:=by exact .inl ⟨id,g,sz,n,e,f,base,hh,hm⟩):p:=h
theorem UM {p:Prop} (h:p:=by exact .inr ⟨_,_,_,q⟩):p:=h
theorem UN {p:Prop} (h:p:=by omega):p:=h
theorem UO {p:Prop} (h:p:=by decide):p:=h
theorem UP {p:Prop} (h:p:=by simp [Op.operands]):p:=h
theorem UQ {p:Prop} (h:p:=by simp):p:=h
theorem UR {p:Prop} (h:p:=by kernel_rfl):p:=h
theorem US {p:Prop} (h:p:=by simp;omega):p:=h
theorem UT {p:Prop} (h:p:=by first | rfl | exact ba.len | exact ba.len.symm):p:=h
theorem UU {p:Prop} (h:p:=by simp [Region.wanted,hg,hy]):p:=h
theorem UW {p:Prop} (h:p:=by simpa using hj):p:=h
theorem UX {p:Prop} (h:p:=by simp only[SA,SK];omega):p:=h
theorem UY {p:Prop} (h:p:=by simp only[Nat.reduceAdd,Nat.reducePow];omega):p:=h
theorem UZ {p:Prop} (h:p:=by simpa using q1):p:=h
theorem U0 {p:Prop} (h:p:=by simpa using h):p:=h
theorem U1 {p:Prop} (h:p:=by simp [kJ]):p:=h
theorem U2 {p:Prop} (h:p:=by rw[<-hf i hi];exact hj):p:=h
theorem U3 {p:Prop} (h:p:=by simpa using hp):p:=h
theorem U4 {p:Prop} (h:p:=by simpa using h2):p:=h
theorem U5 {p:Prop} (h:p:=by simpa using h1):p:=h
theorem U6 {p:Prop} (h:p:=by simp [Region.wanted,hg,kx hs hj he]):p:=h
theorem U7 {p:Prop} (h:p:=by rw[he];exact hu):p:=h
theorem U8 {p:Prop} (h:p:=by rw[he];show(arr l[i].ah).ae.length<=2000000;have:=ha.len;omega):p:=h
theorem U9 {p:Prop} (h:p:=by simp only[Tt,o1,q1,SD];omega):p:=h
theorem Va {p:Prop} (h:p:=by simpa using hy):p:=h
theorem Vb {p:Prop} (h:p:=by simpa using hh):p:=h
theorem Vc {p:Prop} (h:p:=by simpa using dp):p:=h
theorem Vd {p:Prop} (h:p:=by subst hy;simp [Op.operands]):p:=h
theorem Ve {p:Prop} (h:p:=by rw[he];exact hk):p:=h
theorem Vf {p:Prop} (h:p:=by obtain⟨h1,h2⟩:=an.1 pV;rw[<-h2];exact SM h1):p:=h
theorem Vg {p:Prop} (h:p:=by simp only[SU,Sw];exact .inl (SF.2 ⟨q,hq,rfl⟩)):p:=h
theorem Vh {p:Prop} (h:p:=by simp [Op.operands];exact⟨p.1,by simpa using hp⟩):p:=h
end Go.Am
set_option linter.unusedVariables false
set_option linter.unusedSimpArgs false
namespace Go.Am
open Go
def uO:List Int:=[1,10,100,1000,10000,100000,1000000,10000000,100000000,1000000000,10000000000,100000000000,1000000000000,10000000000000,100000000000000,1000000000000000,10000000000000000,100000000000000000,1000000000000000000,10000000000000000000]
def tw:List (Nat×Array Value):=[(2,(uO.map λz=>Value.int .u64 z).toArray)]
def mY:List Nat:=[0,1]
def yj:List Nat:=[]
def C6:Nat:=4294967295
end Go.Am
namespace Go.Am
open Go Go.RowKit
inductive PV where
 | int (k:IntKind) (n:Int)
 | bool (b:Bool)
 | str (s:List UInt8)
 | aD
 | dx
 | cP (sz n:Nat) (f:Nat->List PV)
 | cN (cells:List PV)
 | own (id gen off len:Nat)
 | aH (id gen i off:Nat)
 | gS (id:Nat)
 | jK (f:Nat) (bC:List (Nat×Nat))
 | fn (f:Nat)
 | agg (cs:List PV)
 | db (vs:List PV)
 | dA
 | aG (sz n:Nat) (e:TypeId) (f:Nat->List PV) (F:Nat->Prop)
 deriving Inhabited
abbrev Env:=Nat->PV
inductive au where
 | row (gen sz n:Nat) (e:TypeId) (f:Nat->List PV)
 | dead
 deriving Inhabited
inductive TI where
 | int (k:IntKind)
 | bool
 | str
 | slice (e sz bytes:Nat) (zero:List PV)
 | struct (sz:Nat) (fields:List (Nat×Nat×Bool)) (zero:List PV)
 | ptr (e:Nat)
 | map (k e:Nat) (zero:PV)
 | other
 deriving Inhabited
structure ij where
 get:Nat->TI
def jh (env:Env) (t:Nat) (v:PV):Env:=λj=>bif Nat.beq j t then v else env j
def bV (env:Env) (d:Option Nat) (v:PV):Env:=match d with | some t=>jh env t v | none=>env
def pU (env:Env):List (Nat×PV)->Env
 | []=>env
 | (t,v)::r=>jh (pU env r) t v
inductive cw (b:Bool) (T F:Prop):Prop
 | mk (ht:b=true->T) (hf:b=false->F):cw b T F
theorem eM {b:Bool} {T F:Prop} (h:cw b T F):(b=true->T)/\(b=false->F):=by cases h with | mk a b=>exact⟨a,b⟩
def bX (b:Bool) (K:Prop):Prop:=match b with | true=>K | false=>False
theorem aT {b:Bool} {K:Prop} (h:bX b K):b=true/\K:=by cases b;exact h.elim;exact⟨rfl,h⟩
def jx:IntKind->IntKind->Bool
 | .i8,.i8=>true
 | .i16,.i16=>true
 | .i32,.i32=>true
 | .i64,.i64=>true
 | .u8,.u8=>true
 | .u16,.u16=>true
 | .u32,.u32=>true
 | .u64,.u64=>true
 | _,_=>false
theorem cz {k a:IntKind} (h:jx k a=true):k=a:=by cases k<;>cases a<;>first | rfl | cases h
def HH:Value->Option PV
 | .int k n=>some (.int k n)
 | .bool b=>some (.bool b)
 | .string s=>some (.str s.data.toList)
 | .slice none 0 0=>some .aD
 | .pointer none=>some .dx
 | _=>none
def zy:List Value->Option (List PV)
 | []=>some []
 | v::r=>match HH v,zy r with
  | some p,some l=>some (p::l)
  | _,_=>none
def Ly:Option (List PV)->PV
 | some l=>.agg l
 | none=>.dA
def ofValue:Value->PV
 | .int k n=>.int k n
 | .bool b=>.bool b
 | .string s=>.str s.data.toList
 | .slice none 0 0=>.aD
 | .pointer none=>.dx
 | .agg vs=>Ly (zy vs.toList)
 | _=>.dA
inductive Aw:PV->PV->Prop
 | same (a:PV):Aw a a
 | nil (sz:Nat) (f:Nat->List PV):Aw .aD (.cP sz 0 f)
 | pK (sz:Nat) (e:TypeId) (f:Nat->List PV):Aw .aD (.aG sz 0 e f (λ_=>False))
def gE:List PV->List PV->Prop
 | [],[]=>True
 | a::l,b::r=>Aw a b/\gE l r
 | _,_=>False
def ev (env:Env):Operand->PV
 | .tmp t=>env t
 | .const v=>ofValue v
 | .func f=>.fn f
 | .global _=>.dA
abbrev Mu:=Nat->Option (Nat×Nat)
inductive aI (S:Nat->Prop) (w:World):PV->Value->Prop
 | int (k:IntKind) (n:Int):aI S w (.int k n) (.int k n)
 | bool (b:Bool):aI S w (.bool b) (.bool b)
 | str (s:List UInt8):aI S w (.str s) (.string ⟨⟨s⟩⟩)
 | aD:aI S w .aD (.slice none 0 0)
 | dx:aI S w .dx (.pointer none)
 | fn (f:Nat):aI S w (.fn f) (.func (.func f) #[] #[])
 | iq (sz:Nat) (f:Nat->List PV) (a:Option Addr) (c:Nat):aI S w (.cP sz 0 f) (.slice a 0 c)
 | cP (sz n:Nat) (f:Nat->List PV) (b off c:Nat) (vf:Nat->Nat->Value) (hS:S b) (hlen:∀i,i<n->(f i).length=sz) (hc:n<=c)
   (aK:∀(i j:Nat) (pv:PV),i<n->(f i)[j]? =some pv->w.cell? ⟨b,off+i*sz+j,none⟩=some (vf i j))
   (gK:∀(i j:Nat) (pv:PV),i<n->(f i)[j]? =some pv->aI S w pv (vf i j)):aI S w (.cP sz n f) (.slice (some ⟨b,off,none⟩) n c)
 | cN (cs:List PV) (b off:Nat) (vf:Nat->Value) (hS:S b)
   (aK:∀(j:Nat) (pv:PV),cs[j]? =some pv->w.cell? ⟨b,off+j,none⟩=some (vf j))
   (gK:∀(j:Nat) (pv:PV),cs[j]? =some pv->aI S w pv (vf j)):aI S w (.cN cs) (.pointer (some ⟨b,off,none⟩))
inductive fK (S:Nat->Prop) (w:World):PV->Value->Prop
 | nil (sz:Nat) (e:TypeId) (f:Nat->List PV) (F:Nat->Prop) (hF:∀b,¬F b):fK S w (.aG sz 0 e f F) (.slice none 0 0)
 | vS (sz n:Nat) (e:TypeId) (f:Nat->List PV) (F:Nat->Prop) (b off c:Nat) (a:Addr) (cur:Array Value) (vf:Nat->Nat->Value) (hF:F b) (hb:w.heap[b]? =some (.cells cur e (0,0))) (hlen:∀i,i<n->(f i).length=sz) (hc:n<=c)
   (ha:0<c->a=⟨b,off,none⟩) (cr:off+c*sz<=cur.size)
   (aK:∀(i j:Nat) (pv:PV),i<n->(f i)[j]? =some pv->cur[off+i*sz+j]? =some (vf i j))
   (gK:∀(i j:Nat) (pv:PV),i<n->(f i)[j]? =some pv->aI S w pv (vf i j)\/∃a8 n' e' f' F',pv=.aG a8 n' e' f' F')
   (jT:∀(i j a8 n':Nat) (e':TypeId) (f':Nat->List PV) (F':Nat->Prop),i<n->(f i)[j]? =some (.aG a8 n' e' f' F')->fK S w (.aG a8 n' e' f' F') (vf i j))
   (rW:∀(i j a8 n':Nat) (e':TypeId) (f':Nat->List PV) (F':Nat->Prop),i<n->(f i)[j]? =some (.aG a8 n' e' f' F')->∀b',F' b'->F b'/\b'≠b)
   (vT:∀(i j a8 n':Nat) (e':TypeId) (f':Nat->List PV) (F':Nat->Prop) (i2 j2 hU n2:Nat) (e2:TypeId) (f2:Nat->List PV) (F2:Nat->Prop),i<n->(f i)[j]? =some (.aG a8 n' e' f' F')->i2<n->(f i2)[j2]? =some (.aG hU n2 e2 f2 F2)->
    ∀b',F' b'->F2 b'->i=i2/\j=j2):fK S w (.aG sz n e f F) (.slice (some a) n c)
def dZ (w:World) (b k:Nat):Prop:=∃cur e z,w.heap[b]? =some (.cells cur e z)/\k<=cur.size
def aN (μ:Mu) (h:List au) (w:World) (id gen off len:Nat) (v:Value):Prop:=
 (∃a l c,v=.slice a l c)/\match h[id]? with
 | some (au.row g sz n _ _)=>gen<=g/\(gen=g->off+len<=n/\match μ id with
  | none=>v=.slice none 0 0
  | some (b,base)=>∃a cap,v=.slice (some a) len cap/\len<=cap/\(0<cap->a=⟨b,base+off*sz,none⟩)/\dZ w b (base+(off+cap)*sz))
 | some au.dead=>True
 | none=>False
def bh (μ:Mu) (h:List au) (w:World) (id gen i off:Nat) (v:Value):Prop:=
 (∃a,v=.pointer a)/\match h[id]? with
 | some (au.row g sz n e _)=>gen<=g/\(gen=g->i<n/\∃b base,μ id=some (b,base)/\(dZ w b 0/\(Nat.beq e C6=true->base=0))/\v=.pointer (some ⟨b,base+i*sz+off,none⟩))
 | some au.dead=>True
 | none=>False
def ib (w:World) (b:Nat):Prop:=∃es clock,w.heap[b]? =some (.map es clock)
def cQ (μ:Mu) (h:List au) (w:World) (id:Nat) (v:Value):Prop:=
 (∃a,v=.map a)/\match h[id]? with
 | some (au.row _ _ _ _ _)=>∃b base,μ id=some (b,base)/\ib w b/\v=.map (some b)
 | some au.dead=>True
 | none=>False
def kN (O:Nat->Nat->Value->Prop) (f:Nat) (bC:List (Nat×Nat)) (v:Value):Prop:=
 ∃vs:Array Value,v=.func (.func f) #[] vs/\vs.size=bC.length/\∀(j:Nat) (p:Nat×Nat),bC[j]? =some p->∃u:Value,vs[j]? =some u/\O p.1 p.2 u
theorem kN.mono {O a:Nat->Nat->Value->Prop} {f:Nat} {bC:List (Nat×Nat)} {v:Value} (h:kN O f bC v) (b:∀id g u,O id g u->a id g u):kN a f bC v:=by
 obtain⟨vs,h1,h2,c⟩:=h;exact⟨vs,h1,h2,λj p hj=>let⟨u,q1,q2⟩:=c j p hj;⟨u,q1,b _ _ _ q2⟩⟩
def ko (σ:Nat->Nat) (bC:List (Nat×Nat)):List (Nat×Nat):=bC.map λp=>(σ p.1,p.2)
theorem kN.map {O:Nat->Nat->Value->Prop} {σ:Nat->Nat} {f:Nat} {bC:List (Nat×Nat)} {v:Value} (h:kN (λid g u=>O (σ id) g u) f bC v):kN O f (ko σ bC) v:=by
 obtain⟨vs,h1,h2,a⟩:=h;refine⟨vs,h1,by unfold ko;rw[TG];exact h2,λj p hj=>?_⟩;unfold ko at hj;rw[SL]at hj;cases hx:bC[j]? with
 | none=>rw[hx]at hj;cases hj
 | some q=>
  rw[hx]at hj;injection hj with hj;subst hj;exact a j q hx
theorem kN.KR {O:Nat->Nat->Value->Prop} {σ:Nat->Nat} {f:Nat} {bC:List (Nat×Nat)} {v:Value} (h:kN O f (ko σ bC) v):kN (λid g u=>O (σ id) g u) f bC v:=by
 obtain⟨vs,h1,h2,a⟩:=h;refine⟨vs,h1,by unfold ko at h2;rw[TG]at h2;exact h2,λj p hj=>?_⟩;obtain⟨u,q1,q2⟩:=a j (σ p.1,p.2) (by unfold ko;rw[SL,hj];rfl);exact⟨u,q1,q2⟩
def iQ (μ:Mu) (h:List au) (w:World) (f:Nat) (bC:List (Nat×Nat)) (v:Value):Prop:=kN (λid g u=>bh μ h w id g 0 0 u) f bC v
def lf:PV->Bool
 | .int _ _=>true
 | .bool _=>true
 | .str _=>true
 | .dA=>true
 | _=>false
def eA:PV->Bool
 | .agg cs=>cs.all lf
 | v=>lf v
def kG:PV->Value->Prop
 | .int k n,v=>v=.int k n
 | .bool b,v=>v=.bool b
 | .str s,v=>v=.string ⟨⟨s⟩⟩
 | _,v=>v.oneCell'=true
def jy:PV->Value->Prop
 | .agg cs,v=>∃vs:Array Value,v=.agg vs/\vs.size=cs.length/\∀(j:Nat) (pv:PV),cs[j]? =some pv->∃u:Value,vs[j]? =some u/\kG pv u
 | .dA,_=>True
 | pv,v=>kG pv v
def mz (C:PV->Value->Prop) (base sz n:Nat) (e:TypeId) (f:Nat->List PV):Obj->Prop
 | .cells cur c z=>c=e/\z=(0,0)/\base+n*sz<=cur.size/\∀(i j:Nat) (pv:PV),i<n->(f i)[j]? =some pv->∃v:Value,cur[base+i*sz+j]? =some v/\C pv v
 | .map es _=>es.size=n/\∀i,i<n->∃(a b:PV) (en:MapEntry),f i=[a,b]/\eA a=true/\eA b=true/\es[i]? =some en/\jy a en.key/\jy b en.val
 | _=>False
theorem mz.mono {C a:PV->Value->Prop} {base sz n:Nat} {e:TypeId} {f:Nat->List PV} {o:Obj} (h:mz C base sz n e f o) (hc:∀(i j:Nat) (pv:PV) (v:Value),i<n->(f i)[j]? =some pv->C pv v->a pv v):mz a base sz n e f o:=by
 cases o with
 | cells cur d z=>
  obtain⟨h1,h2,b,h4⟩:=h;exact⟨h1,h2,b,λi j pv hi hj=>let⟨v,q1,q2⟩:=h4 i j pv hi hj;⟨v,q1,hc i j pv v hi hj q2⟩⟩
 | map es c=>exact h
 | _=>exact h.elim
def bf (μ:Mu) (h:List au) (S:Nat->Prop) (w:World):PV->Value->Prop
 | .own id gen off len,v=>aN μ h w id gen off len v
 | .aH id gen i off,v=>bh μ h w id gen i off v
 | .gS id,v=>cQ μ h w id v
 | .jK f bC,v=>iQ μ h w f bC v
 | .dA,v=>v.oneCell'=true
 | .aG _ _ _ _ _,v=>v.oneCell'=true
 | .agg _,_=>False
 | .db _,_=>False
 | pv,v=>aI S w pv v
def gZ (μ:Mu) (h:List au) (S:Nat->Prop) (w:World):PV->Value->Prop
 | .aG sz n e f F,v=>fK S w (.aG sz n e f F) v
 | pv,v=>bf μ h S w pv v
def dP (μ:Mu) (h:List au) (S:Nat->Prop) (w:World):PV->Value->Prop
 | .agg cs,v=>∃vs:Array Value,v=.agg vs/\vs.size=cs.length/\∀(j:Nat) (pv:PV),cs[j]? =some pv->∃u:Value,vs[j]? =some u/\bf μ h S w pv u
 | .dA,_=>True
 | pv,v=>bf μ h S w pv v
def aX (μ:Mu) (h:List au) (S:Nat->Prop) (w:World):PV->Value->Prop
 | .db a,v=>∃vs:Array Value,v=.tuple vs/\vs.size=a.length/\∀(j:Nat) (pv:PV),a[j]? =some pv->∃u:Value,vs[j]? =some u/\dP μ h S w pv u
 | pv,v=>dP μ h S w pv v
def bu (μ:Mu) (h:List au) (S:Nat->Prop) (w:World):Prop:=
 ∀(id g sz n:Nat) (e:TypeId) (f:Nat->List PV),h[id]? =some (au.row g sz n e f)->(∀i,i<n->(f i).length=sz)/\match μ id with
  | none=>n=0
  | some (b,base)=>∃o:Obj,w.heap[b]? =some o/\mz (gZ μ h S w) base sz n e f o
theorem bu.cells {μ:Mu} {h:List au} {S:Nat->Prop} {w:World} {b base k sz n:Nat} {e:TypeId} {f:Nat->List PV} (hc:dZ w b k) (a:∃o:Obj,w.heap[b]? =some o/\mz (gZ μ h S w) base sz n e f o):
  ∃cur:Array Value,w.heap[b]? =some (.cells cur e (0,0))/\base+n*sz<=cur.size/\
    ∀(i j:Nat) (pv:PV),i<n->(f i)[j]? =some pv->∃v:Value,cur[base+i*sz+j]? =some v/\gZ μ h S w pv v:=by
 obtain⟨cur,d,z,h1,_⟩:=hc;obtain⟨o,h2,c⟩:=a;obtain rfl:=SW (h1.symm.trans h2);obtain⟨rfl,rfl,q1,q2⟩:=c;exact⟨cur,h1,q1,q2⟩
theorem bu.nJ {C:PV->Value->Prop} {w:World} {b base sz n:Nat} {e:TypeId} {f:Nat->List PV} (a:∃cur:Array Value,w.heap[b]? =some (.cells cur e (0,0))/\base+n*sz<=cur.size/\
    ∀(i j:Nat) (pv:PV),i<n->(f i)[j]? =some pv->∃v:Value,cur[base+i*sz+j]? =some v/\C pv v):∃o:Obj,w.heap[b]? =some o/\mz C base sz n e f o:=by
 obtain⟨cur,h1,h2,c⟩:=a;exact⟨_,h1,rfl,rfl,h2,c⟩
def qD (μ:Mu) (h:List au) (b:Nat):Prop:=∃(id g sz n:Nat) (e:TypeId) (f:Nat->List PV) (base:Nat),h[id]? =some (au.row g sz n e f)/\μ id=some (b,base)
def bN (h:List au) (id i j b:Nat):Prop:=∃(g sz n:Nat) (e:TypeId) (f:Nat->List PV) (a c:Nat) (d:TypeId) (k:Nat->List PV) (F:Nat->Prop),h[id]? =some (au.row g sz n e f)/\i<n/\(f i)[j]? =some (.aG a c d k F)/\F b
def bA (μ:Mu) (h:List au) (b:Nat):Prop:=qD μ h b\/∃id i j,bN h id i j b
def zk (S:Nat->Prop) (w:World):Prop:=(∀p,p∈tw->S p.1/\∃t z,w.heap[p.1]? =some (.cells p.2 t z))/\(∀g,g∈mY->S g/\∃a p t z,w.heap[g]? =some (.cells #[.iface a p] t z))/\
 ∀g,g∈yj->S g/\∃m t z,w.heap[g]? =some (.cells #[.int .i64 m] t z)
theorem zk.fG {S S':Nat->Prop} {w w':World} (h:zk S w) (hb:∀b,S b->w'.heap[b]? =w.heap[b]?) (hs:∀b,S b->S' b):zk S' w':=
 ⟨λp hp=>⟨hs _ (h.1 p hp).1,by rw[hb _ (h.1 p hp).1];exact(h.1 p hp).2⟩,λg hg=>⟨hs _ (h.2.1 g hg).1,by rw[hb _ (h.2.1 g hg).1];exact(h.2.1 g hg).2⟩,
  λg hg=>⟨hs _ (h.2.2 g hg).1,by rw[hb _ (h.2.2 g hg).1];exact(h.2.2 g hg).2⟩⟩
structure kl (μ:Mu) (h:List au) (S:Nat->Prop) (w:World):Prop where
 apart:∀b,bA μ h b->¬S b
 lt:∀b,bA μ h b->b<w.heap.size
 slt:∀b,S b->b<w.heap.size
 inj:∀(i j g sz n:Nat) (e:TypeId) (f:Nat->List PV) (g' a8 n':Nat) (e':TypeId) (f':Nat->List PV) (b o o':Nat),h[i]? =some (au.row g sz n e f)->h[j]? =some (au.row g' a8 n' e' f')->μ i=some (b,o)->μ j=some (b,o')->i=j
 known:zk S w
 hv:∀b,qD μ h b->∀id i j,¬bN h id i j b
 hh:∀b id i j id' i' j',bN h id i j b->bN h id' i' j' b->id=id'/\i=i'/\j=j'
structure Fr (μ:Mu) (h:List au) (S:Nat->Prop) (w:World) (μ':Mu) (h':List au) (S':Nat->Prop) (w':World):Prop where
 len:h.length<=h'.length
 blocks:∀b,b<w.heap.size->¬bA μ h b->w'.heap[b]? =w.heap[b]?
 sub:∀b,S b->S' b
 new:∀b,S' b->S b\/bA μ h b\/w.heap.size<=b
 own:∀b,bA μ' h' b->bA μ h b\/w.heap.size<=b
 size:w.heap.size<=w'.heap.size
 os:w'.os=w.os
 tape:w'.tape=w.tape
 output:w'.output=w.output
 qE:∀(id g sz n:Nat) (e:TypeId) (f:Nat->List PV),h[id]? =some (au.row g sz n e f)->match h'[id]? with
  | some (au.row g' a8 n' e' _)=>g<=g'/\(g'=g->μ' id=μ id/\a8=sz/\n'=n/\e'=e)
  | some au.dead=>True
  | none=>False
 dead:∀id:Nat,h[id]? =some au.dead->h'[id]? =some au.dead
 bC:∀b k,bA μ h b->dZ w b k->dZ w' b k
 maps:∀(id g sz n:Nat) (e:TypeId) (f:Nat->List PV) (b base:Nat),h[id]? =some (au.row g sz n e f)->μ id=some (b,base)->ib w b->
  ib w' b/\(h'[id]? =some au.dead\/((∃g' a8 n' e' f',h'[id]? =some (au.row g' a8 n' e' f'))/\μ' id=some (b,base)))
 me:∀b id i j,bN h id i j b->ib w b->ib w' b
def Jn (P:Program) (f:FuncId):Prop:=∃fn c,P.funcs[f]? =some fn/\fn.body=some c/\(fn.name== "runtime.NumGoroutine")=false
def ACall (P:Program) (f:FuncId) (args:List PV) (h:List au) (R:PV->List au->Prop):Prop:=
 Jn P f/\∀(w:World) (vs:Array Value) (μ:Mu) (S:Nat->Prop),bu μ h S w->kl μ h S w->vs.size=args.length->
  (∀(j:Nat) (pv:PV),args[j]? =some pv->∃v:Value,vs[j]? =some v/\dP μ h S w pv v)->
  Calls P f vs w (λe w'=>∃(v:Value) (res:PV) (h':List au) (μ':Mu) (S':Nat->Prop),e=.returned v/\R res h'/\aX μ' h' S' w' res v/\bu μ' h' S' w'/\kl μ' h' S' w'/\Fr μ h S w μ' h' S' w')
def bn:PV->Bool
 | .int _ _=>true
 | .bool _=>true
 | .str _=>true
 | .aD=>true
 | .dx=>true
 | .cP _ _ _=>true
 | .cN _=>true
 | .fn _=>true
 | _=>false
def cg:PV->Bool
 | .aG _ _ _ _ _=>true
 | _=>false
inductive qR:PV->PV->Prop
 | mk (sz n:Nat) (e:TypeId) (f f':Nat->List PV) (F:Nat->Prop) (hl:∀i,i<n->(f' i).length=(f i).length) (hf:∀(i j:Nat) (pv cG:PV),i<n->(f i)[j]? =some pv->(f' i)[j]? =some cG->cg pv=false->cG=pv) (ho:∀(i j:Nat) (pv cG:PV),i<n->(f i)[j]? =some pv->(f' i)[j]? =some cG->cg pv=true->qR pv cG)
   (hp:∀(i j:Nat) (cG:PV),i<n->(f' i)[j]? =some cG->bn cG=true):qR (.aG sz n e f F) (.cP sz n f')
inductive Fz (h η:List au) (k:List Nat):PV->PV->Prop
 | int (k':IntKind) (n:Int):Fz h η k (.int k' n) (.int k' n)
 | bool (b:Bool):Fz h η k (.bool b) (.bool b)
 | str (s:List UInt8):Fz h η k (.str s) (.str s)
 | aD:Fz h η k .aD .aD
 | dx:Fz h η k .dx .dx
 | FI (sz:Nat) (f:Nat->List PV):Fz h η k .aD (.cP sz 0 f)
 | K4 (id id' g' a8:Nat) (e':TypeId) (f':Nat->List PV) (hk:k[id']? =some id) (ho:h[id]? =none) (hη:η[id']? =some (au.row g' a8 0 e' f')):Fz h η k .aD (.own id' g' 0 0)
 | fn (f:Nat):Fz h η k (.fn f) (.fn f)
 | cP (sz n:Nat) (f f':Nat->List PV) (hf:∀i,i<n->f' i=f i):Fz h η k (.cP sz n f) (.cP sz n f')
 | cN (cs:List PV):Fz h η k (.cN cs) (.cN cs)
 | dA (pv:PV):Fz h η k pv .dA
 | aG (sz n:Nat) (e:TypeId) (f:Nat->List PV) (F:Nat->Prop):Fz h η k (.aG sz n e f F) (.aG sz n e f F)
 | pK (sz:Nat) (e:TypeId) (f:Nat->List PV):Fz h η k .aD (.aG sz 0 e f (λ_=>False))
 | own (id id' g g' sz a8 n n' off len:Nat) (e e':TypeId) (f f':Nat->List PV) (hk:k[id']? =some id) (ho:h[id]? =some (au.row g sz n e f)) (hη:η[id']? =some (au.row g' a8 n' e' f')) (hn:off+len<=n'):Fz h η k (.own id g off len) (.own id' g' off len)
 | aH (id id' g g' sz a8 n n' i off:Nat) (e e':TypeId) (f f':Nat->List PV) (hk:k[id']? =some id) (ho:h[id]? =some (au.row g sz n e f)) (hη:η[id']? =some (au.row g' a8 n' e' f')) (hn:i<n'):Fz h η k (.aH id g i off) (.aH id' g' i off)
 | gS (id id' g g' sz a8 n n':Nat) (e e':TypeId) (f f':Nat->List PV) (hk:k[id']? =some id) (ho:h[id]? =some (au.row g sz n e f)) (hη:η[id']? =some (au.row g' a8 n' e' f')):Fz h η k (.gS id) (.gS id')
 | jK (f:Nat) (bC vU:List (Nat×Nat)) (hl:vU.length=bC.length) (hc:∀(j:Nat) (p p':Nat×Nat),bC[j]? =some p->vU[j]? =some p'->k[p'.1]? =some p.1/\(∃sz n e f,h[p.1]? =some (au.row p.2 sz n e f))/\∃sz n e f,η[p'.1]? =some (au.row p'.2 sz n e f)/\0<n):Fz h η k (.jK f bC) (.jK f vU)
 | KW (id g sz n off len:Nat) (e:TypeId) (f f':Nat->List PV) (hk:id∉k) (ho:h[id]? =some (au.row g sz n e f)) (hl:∀i,i<len->(f' i).length=(f (off+i)).length)
   (hp:∀(i j:Nat) (cG:PV),i<len->(f' i)[j]? =some cG->bn cG=true)
   (hf:∀(i j:Nat) (pv cG:PV),i<len->(f (off+i))[j]? =some pv->(f' i)[j]? =some cG->¬qR pv cG->Fz h η k pv cG):Fz h η k (.own id g off len) (.cP sz len f')
 | agg (cs rT:List PV) (hl:rT.length=cs.length) (hc:∀(j:Nat) (pv cG:PV),cs[j]? =some pv->rT[j]? =some cG->Fz h η k pv cG):Fz h η k (.agg cs) (.agg rT)
 | db (cs rT:List PV) (hl:rT.length=cs.length) (hc:∀(j:Nat) (pv cG:PV),cs[j]? =some pv->rT[j]? =some cG->Fz h η k pv cG):Fz h η k (.db cs) (.db rT)
def mo (h η:List au) (k:List Nat):List PV->List PV->Prop
 | [],[]=>True
 | a::l,b::r=>Fz h η k a b/\mo h η k l r
 | _,_=>False
def z8:List Nat->Nat->Bool
 | [],_=>false
 | a::r,x=>match Nat.beq a x with
  | true=>true
  | false=>z8 r x
def ig:List Nat->Bool
 | []=>true
 | a::r=>match z8 r a with
  | true=>false
  | false=>ig r
def hI:List au->List Nat->List Nat
 | .row _ _ _ _ _::r,i::is=>i::hI r is
 | .dead::r,_::is=>hI r is
 | _,_=>[]
def mT (h η:List au) (k:List Nat) (m:Nat) (o:au) (a id:Nat):Prop:=
 match o,h[id]? with
 | .row c d b j l,some (au.row g sz n e f)=>(a<m->a=id/\c=g)/\d=sz/\(b=n\/m<=a/\sz≠2/\b<=n)/\j=e/\
   ∀i,i<b->mo h η k (f i) (l i)
 | .dead,_=>True
 | .row _ _ b _ _,none=>m<=a/\b=0
 | _,_=>False
def bY (l:List PV) (off:Nat):List PV->List PV
 | []=>l
 | c::r=>bY (l.set off c) (off+1) r
def cellsOf:PV->List PV
 | .agg cs=>cs
 | v=>[v]
def bG (h:List au) (id:Nat):au:=h.getD id .dead
def force (v:PV) (K:PV->Prop):Prop:=
 match v with
 | .int k n=>K (.int k n)
 | .bool b=>K (.bool b)
 | .str s=>K (.str s)
 | .aD=>K .aD
 | .dx=>K .dx
 | .cP sz n f=>K (.cP sz n f)
 | .cN cs=>K (.cN cs)
 | .own id gen off len=>K (.own id gen off len)
 | .aH id gen i off=>K (.aH id gen i off)
 | .gS id=>K (.gS id)
 | .jK f bC=>K (.jK f bC)
 | .fn f=>K (.fn f)
 | .agg cs=>K (.agg cs)
 | .db vs=>K (.db vs)
 | .dA=>K .dA
 | .aG sz n e f F=>K (.aG sz n e f F)
theorem bm {v:PV} {K:PV->Prop} (h:force v K):K v:=by cases v<;>exact h
def tb (K:List PV->Prop):Nat->List PV->List PV->Prop
 | 0,_,acc=>K acc.reverse
 | _+1,[],_=>False
 | n+1,c::r,acc=>force c λv=>tb K n r (v::acc)
theorem iM {K:List PV->Prop}:∀(n:Nat) (l acc:List PV),tb K n l acc->n<=l.length/\K (acc.reverse++l.take n)
 | 0,l,acc,h=>⟨TQ _,by simp only[List.take_zero,TH];exact h⟩
 | _+1,[],_,h=>h.elim
 | n+1,c::r,acc,h=>by
  obtain⟨h1,h2⟩:=iM n r (c::acc) (bm h);exact⟨by simp;omega,by simpa using h2⟩
def oM (T:ij) (t:Nat) (cells:List PV) (K:PV->Prop):Prop:=
 match T.get t with
 | .struct sz _ _=>tb (λl=>K (.agg l)) sz cells []
 | .other=>False
 | _=>match cells with
  | c::_=>force c K
  | []=>False
def nG (T:ij) (t:Nat) (a:PV) (h:List au) (K:PV->Prop):Prop:=
 match a with
 | .cN cells=>oM T t cells K
 | .aH id gen i off=>match bG h id with
  | .row g _ _ _ f=>g=gen/\∃c,f i=c/\oM T t (c.drop off) K
  | .dead=>False
 | _=>False
def ax (f:Nat->List PV) (i:Nat) (l:List PV):Nat->List PV:=λk=>bif Nat.beq k i then l else f k
def pj:List PV->Bool
 | []=>true
 | .int _ _::r=>pj r
 | .bool _::r=>pj r
 | .str _::r=>pj r
 | _=>false
def u9 (g:Bool) (q:Bool):Option Bool->Option Bool
 | some c=>match g with
  | true=>some (q&&c)
  | false=>none
 | none=>none
def sj:List PV->List PV->List PV->Option Bool
 | [],[],[]=>some true
 | .int k _::z,.int d a::r,.int e b::c=>u9 (jx k d&&jx k e) (a==b) (sj z r c)
 | .bool _::z,.bool a::r,.bool b::c=>u9 true (a==b) (sj z r c)
 | .str _::z,.str a::r,.str b::c=>u9 true (a==b) (sj z r c)
 | _,_,_=>none
def fu (ti:TI) (a b:PV):Option Bool:=
 match ti,a,b with
 | .int k,.int c x,.int d y=>u9 (jx k c&&jx k d) (x==y) (some true)
 | .str,.str x,.str y=>some (x==y)
 | .struct _ _ z,.agg xs,.agg e=>match pj z with
  | true=>sj z xs e
  | false=>none
 | _,_,_=>none
def su (ti:TI) (f:Nat->List PV) (n:Nat) (b:PV):Prop:=∀j,j<n->∃a c,f j=[a,c]/\fu ti b a=some false
def QI (ti:TI) (f:Nat->List PV) (n:Nat) (a:PV) (i:Nat) (r:PV):Prop:=i<n/\su ti f i a/\∃b,f i=[b,r]/\fu ti a b=some true
def CG (ti:TI) (f:Nat->List PV) (n:Nat) (a c r:PV) (b:Bool):Prop:=(b=true/\∃i,QI ti f n a i r)\/(b=false/\r=c/\su ti f n a)
def K3 (ti:TI) (f:Nat->List PV) (n:Nat) (a c:PV) (d:Nat) (b:Nat->List PV):Prop:=
 (∃i r,QI ti f n a i r/\d=n/\b i=[a,c]/\∀j,j<n->j≠i->b j=f j)\/(su ti f n a/\d=n+1/\b n=[a,c]/\∀j,j<n->b j=f j)
def zB (ti:TI) (d:BinOp) (x y:PV) (K:PV->Prop):Prop:=
 match x,y with
 | .int k a,.int e b=>
  match d with
  | .shl=>0<=b/\K (.int k (k.wrap (a*2 ^ min b.toNat k.bits)))
  | .shr=>0<=b/\K (.int k (a.fdiv (2 ^ min b.toNat k.bits)))
  | _=>bX (jx k e)<|match d with
  | .and=>K (.int k (bits .and k a b))
  | .or=>K (.int k (bits .or k a b))
  | .xor=>K (.int k (bits .xor k a b))
  | .andNot=>K (.int k (bits .andNot k a b))
  | .add=>K (.int k (k.wrap (a+b)))
  | .sub=>K (.int k (k.wrap (a - b)))
  | .mul=>K (.int k (k.wrap (a*b)))
  | .quo=>b≠0/\K (.int k (k.wrap (a.tdiv b)))
  | .rem=>b≠0/\K (.int k (a.tmod b))
  | .eql=>K (.bool (a==b))
  | .neq=>K (.bool (a != b))
  | .lss=>K (.bool (decide (a<b)))
  | .leq=>K (.bool (decide (a<=b)))
  | .gtr=>K (.bool (decide (a>b)))
  | .geq=>K (.bool (decide (a>=b)))
  | _=>False
 | .bool a,.bool b=>match ti,d with
  | .bool,.eql=>K (.bool (a==b))
  | .bool,.neq=>K (.bool (!(a==b)))
  | _,_=>False
 | .str a,.str b=>match d with
  | .add=>a.length+b.length<=4611686018427387904/\∃s,a++b=s/\K (.str s)
  | .eql=>K (.bool (a==b))
  | .neq=>K (.bool (!(a==b)))
  | .lss=>K (.bool (Op.bytesLess a b))
  | .leq=>K (.bool (Op.bytesLess a b||a==b))
  | .gtr=>K (.bool !(Op.bytesLess a b||a==b))
  | .geq=>K (.bool !(Op.bytesLess a b))
  | _=>False
 | .agg xs,.agg f=>match ti with
  | .struct _ _ z=>bX (pj z) (match sj z xs f with
   | some b=>match d with
    | .eql=>∃c,b=c/\K (.bool c)
    | .neq=>∃c,b=c/\K (.bool !c)
    | _=>False
   | none=>False)
  | _=>False
 | _,_=>False
def qv (x:PV) (lo hi:Option PV) (K:PV->Prop):Prop:=
 match x with
 | .cP sz n f=>match lo,hi with
  | none,none=>K (.cP sz n f)
  | some (.int _ l),none=>(0<=l/\l<=n)/\K (.cP sz (n - l.toNat) (λi=>f (l.toNat+i)))
  | none,some (.int _ m)=>(0<=m/\m<=n)/\K (.cP sz m.toNat f)
  | some (.int _ l),some (.int _ m)=>(0<=l/\l<=m/\m<=n)/\K (.cP sz (m.toNat - l.toNat) (λi=>f (l.toNat+i)))
  | _,_=>False
 | .own id gen off len=>match lo,hi with
  | none,none=>K (.own id gen off len)
  | some (.int _ l),none=>(0<=l/\l<=len)/\K (.own id gen (off+l.toNat) (len - l.toNat))
  | none,some (.int _ m)=>(0<=m/\m<=len)/\K (.own id gen off m.toNat)
  | some (.int _ l),some (.int _ m)=>(0<=l/\l<=m/\m<=len)/\K (.own id gen (off+l.toNat) (m.toNat - l.toNat))
  | _,_=>False
 | .str s=>match lo,hi with
  | none,none=>K (.str s)
  | some (.int _ l),none=>(0<=l/\l<=s.length)/\K (.str (s.drop l.toNat))
  | none,some (.int _ m)=>(0<=m/\m<=s.length)/\K (.str (s.take m.toNat))
  | some (.int _ l),some (.int _ m)=>(0<=l/\l<=m/\m<=s.length)/\K (.str ((s.take m.toNat).drop l.toNat))
  | _,_=>False
 | _=>False
def vd (K:PV->Prop) (v:PV):Prop:=
 match v with
 | .cP sz n f=>∃a b,a=n/\(∀i,i<a->b i=f i)/\K (.cP sz a b)
 | .str s=>∃c,s=c/\K (.str c)
 | .own id g off n=>∃d a,d=off/\a=n/\K (.own id g d a)
 | v=>K v
def D4 (n:Nat) (hi a:Option PV):Prop:=
 match a with
 | none=>True
 | some (.int _ q)=>match hi with
  | some (.int _ m)=>m<=q/\q<=n
  | _=>False
 | _=>False
def isByte:List PV->Bool
 | [.int .u8 _]=>true
 | _=>false
def byteOf:List PV->UInt8
 | [.int _ v]=>UInt8.ofNat v.toNat
 | _=>0
def mw (v:PV) (h:List au) (K:List UInt8->Prop):Prop:=
 match v with
 | .aD=>K []
 | .cP sz n f=>bX (Nat.beq sz 1) (∃s:List UInt8,s.length=n/\(∀i,i<n->f i=[.int .u8 (s.getD i 0).toNat])/\K s)
 | .own id gen off n=>match bG h id with
  | .row g sz _ _ f=>g=gen/\bX (Nat.beq sz 1) (∃s:List UInt8,s.length=n/\(∀i,i<n->f (off+i)=[.int .u8 (s.getD i 0).toNat])/\K s)
  | .dead=>False
 | _=>False
def fR:PV->Bool
 | .agg _=>false
 | .db _=>false
 | .dA=>false
 | .aG _ _ _ _ _=>false
 | _=>true
def storable:PV->Bool
 | .agg cs=>cs.all fR
 | v=>fR v
def iN (env:Env) (sz:Nat) (fl:List (Nat×Nat×Bool)) (K:List PV->Prop):List (Nat×Operand)->List PV->Prop
 | [],acc=>K acc
 | (k,x)::r,acc=>match fl[k]? with
  | some (o,size,_)=>force (ev env x) λv=>bX (storable v&&Nat.beq (cellsOf v).length size&&Nat.ble (o+size) sz) (iN env sz fl K r (bY acc o (cellsOf v)))
  | none=>False
def bB (T:ij) (op:Op) (env:Env) (h:List au) (K:PV->Prop):Prop:=
 match op with
 | .move x=>force (ev env x) K
 | .assign x=>force (ev env x) K
 | .pick c a b=>match ev env c with
  | .bool t=>cw t (force (ev env a) K) (force (ev env b) K)
  | _=>False
 | .binOp w t x y _=>zB (T.get t) w (ev env x) (ev env y) K
 | .unOp u _ x=>match u,ev env x with
  | .not,.bool b=>K (.bool !b)
  | .neg,.int k n=>K (.int k (k.wrap (0 - n)))
  | _,_=>False
 | .load t a=>nG T t (ev env a) h K
 | .convert s d x=>match T.get s,T.get d,ev env x with
  | .int _,.int k,.int _ n=>K (.int k (k.wrap n))
  | .slice e _ _ _,.str,v=>match T.get e with
   | .int .u8=>mw v h (λs=>K (.str s))
   | _=>False
  | _,_,_=>False
 | .nilCheck x=>match ev env x with
  | .cN cs=>K (.cN cs)
  | .aH id gen i off=>match bG h id with
   | .row g _ _ _ _=>g=gen/\K (.aH id gen i off)
   | .dead=>False
  | _=>False
 | .fieldAddr s x k=>match T.get s with
  | .struct _ fl _=>match fl[k]? with
   | some (o,_,_)=>match ev env x with
    | .cN cs=>K (.cN (cs.drop o))
    | .aH id gen i off=>match bG h id with
     | .row g _ _ _ _=>g=gen/\K (.aH id gen i (off+o))
     | .dead=>False
    | _=>False
   | none=>False
  | _=>False
 | .field s x k=>match T.get s with
  | .struct _ fl _=>match fl[k]? with
   | some (o,size,A)=>match ev env x with
    | .agg cs=>match A with
     | true=>tb (λl=>K (.agg l)) size (cs.drop o) []
     | false=>match cs.drop o with
      | c::_=>force c K
      | []=>False
    | _=>False
   | none=>False
  | _=>False
 | .build t parts=>match T.get t with
  | .struct sz fl z=>iN env sz fl (λcs=>K (.agg cs)) parts.toList z
  | _=>False
 | .indexAddr t x i=>match T.get t,ev env x,ev env i with
  | .slice _ sz _ _,.cP m n f,.int _ i=>bX (Nat.beq sz m) ((0<=i/\i<n)/\∃c,f i.toNat=c/\K (.cN c))
  | .slice _ sz _ _,.own id gen off len,.int _ i=>match bG h id with
   | .row g m _ B _=>g=gen/\bX (Nat.beq sz m&&!Nat.beq B C6) ((0<=i/\i<len)/\∃j,off+i.toNat=j/\K (.aH id gen j 0))
   | .dead=>False
  | _,_,_=>False
 | .index t x i=>match T.get t,ev env x,ev env i with
  | .str,.str s,.int _ i=>(0<=i/\i<s.length)/\∃c,s.getD i.toNat 0=c/\K (.int .u8 (c:UInt8).toNat)
  | _,_,_=>False
 | .lookup t x i ok=>match T.get t,ev env x with
  | .map kt _ C,.gS id=>match bG h id with
   | .row _ _ n _ f=>force (ev env i) λp=>bX (fu (T.get kt) p p).isSome (∃r b,CG (T.get kt) f n p C r b/\match ok with
    | true=>K (.db [r,.bool b])
    | false=>force r K)
   | .dead=>False
  | _,_=>False
 | .extract x i=>match ev env x with
  | .db vs=>match vs[i]? with
   | some v=>force v K
   | none=>False
  | _=>False
 | .slice t x lo hi q=>match T.get t,ev env x with
  | .slice _ sz _ _,.cP m n f=>bX (Nat.beq sz m) (D4 n (hi.map (ev env)) (q.map (ev env))/\qv (.cP m n f) (lo.map (ev env)) (hi.map (ev env)) (vd K))
  | .slice _ sz _ _,.own id gen off len=>match bG h id with
   | .row g m _ _ _=>g=gen/\bX (Nat.beq sz m) (D4 len (hi.map (ev env)) (q.map (ev env))/\qv (.own id gen off len) (lo.map (ev env)) (hi.map (ev env)) (vd K))
   | .dead=>False
  | .str,.str s=>bX q.isNone (qv (.str s) (lo.map (ev env)) (hi.map (ev env)) (vd K))
  | _,_=>False
 | .call ⟨.builtin .len,args,D⟩=>match args.toList,D.toList with
  | [x],[t]=>match T.get t,ev env x with
   | .slice _ _ _ _,.cP _ n _=>K (.int .i64 n)
   | .slice _ _ _ _,.aD=>K (.int .i64 0)
   | .slice _ _ _ _,.own id gen _ n=>match bG h id with
    | .row g _ _ _ _=>g=gen/\K (.int .i64 n)
    | .dead=>False
   | .str,.str s=>K (.int .i64 s.length)
   | .map _ _ _,.gS id=>match bG h id with
    | .row _ _ n _ _=>K (.int .i64 n)
    | .dead=>False
   | _,_=>False
  | _,_=>False
 | _=>False
def fh:TI->Nat
 | .struct sz _ _=>sz
 | .other=>0
 | _=>1
def qm:TI->Option (List PV)
 | .int k=>some [.int k 0]
 | .bool=>some [.bool false]
 | .str=>some [.str []]
 | .slice _ _ _ _=>some [.aD]
 | .struct _ _ z=>some z
 | _=>none
def pt (len:Nat):Nat->List (Nat×Operand)->Bool
 | k,[]=>Nat.beq k len
 | k,(i,_)::r=>Nat.beq i k&&pt len (k+1) r
def jF (env:Env) (sz:Nat) (K:List (List PV)->Prop):List (Nat×Operand)->List (List PV)->Prop
 | [],acc=>K acc.reverse
 | (_,x)::r,acc=>force (ev env x) λv=>bX (storable v&&Nat.beq (cellsOf v).length sz) (jF env sz K r (cellsOf v::acc))
theorem pz {env:Env} {sz:Nat} {K:List (List PV)->Prop}:∀(l:List (Nat×Operand)) (acc:List (List PV)),jF env sz K l acc->
  (∀p∈l,storable (ev env p.2)=true/\Nat.beq (cellsOf (ev env p.2)).length sz=true)/\K (acc.reverse++l.map λp=>cellsOf (ev env p.2))
 | [],acc,h=>⟨λp hp=>by simp at hp,by simp only[SS,TH];exact h⟩
 | (i,x)::r,acc,h=>by
  obtain⟨h1,h2⟩:=aT (bm h);simp only[so]at h1;obtain⟨a,h4⟩:=pz r _ h2;refine⟨λp hp=>?_,by simpa using h4⟩;simp only[SB]at hp;rcases hp with rfl | hp
  ·exact h1
  ·exact a p hp
def La:List PV->Bool
 | []=>true
 | .aG _ _ _ _ _::_=>false
 | _::r=>La r
def xG (x:PV) (h:List au) (sz:Nat) (K:Nat->(Nat->List PV)->Prop):Prop:=
 match x with
 | .aD=>K 0 (λ_=>[])
 | .cP a m g=>bX (Nat.beq sz a) (K m g)
 | .own id gen off m=>match bG h id with
  | .row g a _ _ f=>g=gen/\(∀i,i<m->La (f (off+i))=true)/\bX (Nat.beq sz a) (K m (λi=>f (off+i)))
  | .dead=>False
 | .str s=>bX (Nat.beq sz 1)<|K s.length (λi=>[.int .u8 (s.getD i 0).toNat])
 | _=>False
def lL (e sz bytes:Nat) (s x:PV) (h:List au) (K:PV->List au->Prop):Prop:=
 match s with
 | .aD=>xG x h sz λm g=>m*bytes<=140737488355328/\∃a b,a=m/\(∀i,i<a->gE (g i) (b i))/\K (.own h.length 0 0 a) (h++[.row 0 sz a e b])
 | .own id gen off len=>match bG h id with
  | .row g c _ d f=>g=gen/\bX (Nat.beq sz c&&Nat.beq e d) (xG x h sz λm q=>(len+m)*bytes<=140737488355328/\∃a b,a=len+m/\
    (∀i,i<a->gE (bif Nat.blt i len then f (off+i)else q (i - len)) (b i))/\
    K (.own id (gen+1) 0 a) (h.set id (.row (gen+1) sz a e b)))
  | .dead=>False
 | _=>False
def He (f:Nat->List PV) (n:Nat) (q:Nat->List PV):Nat->List PV:=λi=>bif Nat.blt i n then f i else q (i - n)
def vP (e sz bytes:Nat) (s x:PV) (h:List au) (K:PV->List au->Prop):Prop:=
 match s,x with
 | .aD,.own a b 0 m=>match bG h a with
  | .row c d _ _ q=>c=b/\bX (Nat.beq sz d) (m*bytes<=140737488355328/\K (.own h.length 1 0 m) (((h++[au.row 0 sz 0 e (λ_=>[])]).set h.length (au.row 1 sz m e q)).set a au.dead))
  | .dead=>False
 | .own id gen 0 len,.own a b 0 m=>match bG h id with
  | .row g i _ j f=>match bG h a with
   | .row c d _ _ q=>g=gen/\c=b/\bX (Nat.beq sz i&&(Nat.beq e j&&(Nat.beq sz d&&!Nat.beq a id))) ((len+m)*bytes<=140737488355328/\K (.own id (gen+1) 0 (len+m)) ((h.set id (au.row (gen+1) sz (len+m) e (He f len q))).set a au.dead))
   | .dead=>False
  | .dead=>False
 | _,_=>False
def qV (e sz bytes:Nat) (s x:PV) (h:List au) (K:PV->List au->Prop):Prop:=
 match s,x with
 | .own id gen 0 len,.own b c a m=>match bG h id with
  | .row g d _ j f=>g=gen/\g=c/\bX (Nat.beq id b&&(Nat.beq sz d&&Nat.beq e j)) (len<=a/\(len+m)*bytes<=140737488355328/\K (.own id (gen+1) 0 (len+m)) (h.set id (au.row (gen+1) sz (len+m) e (He f len (λi=>f (a+i))))))
  | .dead=>False
 | _,_=>False
inductive xJ (e sz bytes:Nat) (s x:PV) (h:List au) (K:PV->List au->Prop):Prop
 | fG (hp:lL e sz bytes s x h K)
 | move (hp:vP e sz bytes s x h K)
 | shift (hp:qV e sz bytes s x h K)
def fp:PV->Bool
 | .db _=>false
 | _=>true
inductive kY (P:Program) (f:FuncId) (args:List PV) (h:List au) (K:PV->List au->Prop):Prop
 | mk (R:PV->List au->Prop) (hA:ACall P f args h R) (hk:∀res h',R res h'->K res h')
def pop (P:Program) (T:ij) (op:Op) (env:Env) (h:List au) (K:PV->List au->Prop):Prop:=
 match op with
 | .store t a x=>match ev env a with
  | .aH id gen i off=>match bG h id with
   | .row g sz n e f=>g=gen/\force (ev env x) λv=>bX (storable v&&Nat.ble 1 (fh (T.get t))&&Nat.beq (fh (T.get t)) (cellsOf v).length&&Nat.ble (off+(cellsOf v).length) sz)
     (∃c o,f i=c/\(∀j,j<n->gE (ax f i (bY c off (cellsOf v)) j) (o j))/\K .dA (h.set id (.row g sz n e o)))
   | .dead=>False
  | _=>False
 | .box t x=>force (ev env x) λv=>bX (storable v&&Nat.beq (cellsOf v).length (fh (T.get t))) (K (.aH h.length 0 0 0) (h++[.row 0 (fh (T.get t)) 1 t (λ_=>cellsOf v)]))
 | .alloc t=>match qm (T.get t)with
  | some z=>K (.aH h.length 0 0 0) (h++[.row 0 (fh (T.get t)) 1 t (λ_=>z)])
  | none=>False
 | .makeSlice t l c=>match T.get t,ev env l,ev env c with
  | .slice e sz bytes zero,.int _ n,.int _ m=>(0<=n/\n<=m/\m<=4611686018427387904/\m.toNat*bytes<=140737488355328)/\∃q o,q=n.toNat/\(∀i,i<q->gE zero (o i))/\K (.own h.length 0 0 q) (h++[.row 0 sz q e o])
  | _,_,_=>False
 | .buildSlice t len parts=>match T.get t with
  | .slice e sz _ _=>bX (pt len 0 parts.toList&&Nat.ble (len*sz) 65536) (jF env sz (λcs=>∃o,(∀i,i<len->gE (cs.getD i []) (o i))/\K (.own h.length 0 0 len) (h++[.row 0 sz len e o])) parts.toList [])
  | _=>False
 | .convert s d x=>match T.get s,T.get d,ev env x with
  | .str,.slice e _ _ _,.str b=>match T.get e with
   | .int .u8=>∃o,(∀i,i<b.length->o i=[.int .u8 (b.getD i 0).toNat])/\K (.cP 1 b.length o) h
   | _=>False
  | _,_,_=>bB T (.convert s d x) env h (λv=>K v h)
 | .binOp w t x y ty=>match w,T.get t,ev env x,ev env y with
  | .eql,.slice _ _ _ _,.cP _ n _,.aD=>(n=0->K (.bool true) h)/\K (.bool false) h
  | _,_,_,_=>bB T (.binOp w t x y ty) env h (λv=>K v h)
 | .makeMap t none=>match T.get t with
  | .map _ _ _=>∃o,K (.gS h.length) (h++[.row 0 2 0 t o])
  | _=>False
 | .mapUpdate t m k x=>match T.get t,ev env m with
  | .map kt _ _,.gS id=>match bG h id with
   | .row g sz n e f=>force (ev env k) λr=>force (ev env x) λu=>bX ((fu (T.get kt) r r).isSome&&eA u&&storable u&&Nat.beq sz 2)
     (∃q o,K3 (T.get kt) f n r u q o/\K .dA (h.set id (.row (g+1) 2 q e o)))
   | .dead=>False
  | _,_=>False
 | .call ⟨.builtin .append,args,A⟩=>match args.toList,A.toList with
  | [s,x],[t,B]=>match T.get t,T.get B with
   | .slice e sz bytes _,.slice _ _ _ _=>xJ e sz bytes (ev env s) (ev env x) h K
   | .slice e sz bytes _,.str=>xJ e sz bytes (ev env s) (ev env x) h K
   | _,_=>False
  | _,_=>False
 | .call ⟨.value C,args,_⟩=>match ev env C with
  | .fn f=>bX (args.toList.all (λx=>fp (ev env x))) (kY P f (args.toList.map (ev env)) h K)
  | .jK f bC=>bX (args.toList.all (λx=>fp (ev env x))) (kY P f (args.toList.map (ev env)++bC.map λp=>.aH p.1 p.2 0 0) h K)
  | _=>False
 | op=>bB T op env h (λv=>K v h)
def jY (P:Program) (T:ij) (all:List Oper) (K:Env->List au->Prop) (l:List Oper):Env->List au->Prop:=
 List.rec (motive:=λ_=>Env->List au->Prop) K (λo _ a env h=>match o.guard with
  | none=>pop P T o.op env h (λv h'=>a (bV env o.dst v) h')
  | some (j,want)=>match(all[j]?).bind (·.dst)with
   | some t=>match env t with
    | .bool b=>cw b
      (match want with
       | true=>pop P T o.op (jh env t (.bool true)) h (λv h'=>a (bV (jh env t (.bool true)) o.dst v) h')
       | false=>a (bV (jh env t (.bool true)) o.dst (.db [])) h)
      (match want with
       | true=>a (bV (jh env t (.bool false)) o.dst (.db [])) h
       | false=>pop P T o.op (jh env t (.bool false)) h (λv h'=>a (bV (jh env t (.bool false)) o.dst v) h'))
    | .db []=>a (bV env o.dst (.db [])) h
    | _=>False
   | none=>False) l
abbrev XQ:=Exit->Env->List au->Prop
def XQ.then (next:Env->List au->Prop) (Q:XQ):XQ
 | .normal,env,h=>next env h
 | e,env,h=>Q e env h
def XQ.inBlock (id:Nat) (Q:XQ):XQ
 | .exit a,env,h=>match Nat.beq a id with
  | true=>Q .normal env h
  | false=>Q (.exit a) env h
 | e,env,h=>Q e env h
def yQ (h η:List au) (k:List Nat) (env:Env):List (Nat×PV)->Prop
 | []=>True
 | (t,v)::r=>Fz h η k (env t) v/\yQ h η k env r
def iW (h η:List au) (k:List Nat) (m:Nat):Nat->List au->List Nat->Prop
 | _,[],[]=>True
 | i,o::r,id::a=>mT h η k m o i id/\iW h η k m (i+1) r a
 | _,_,_=>False
def nO (m:Nat) (env:Env) (h:List au) (σ:List (Nat×PV)) (η:List au):Prop:=
 ∃k:List Nat,ig (hI η k)=true/\m<=k.length/\yQ h η k env σ/\iW h η k m 0 η k
def iw:Env:=λ_=>.dA
def vH (h h1:List au):Prop:=∃(id g sz n:Nat) (e:TypeId) (f:Nat->List PV) (i j c a:Nat) (d:TypeId) (l:Nat->List PV) (F:Nat->Prop) (b:Nat->List PV),h[id]? =some (au.row g sz n e f)/\i<n/\
 (f i)[j]? =some (.aG c a d l F)/\b i=(f i).set j (.own h.length 0 0 a)/\(∀k,k<n->k≠i->b k=f k)/\h1=h.set id (.row g sz n e b)++[.row 0 c a d l]
def tD (h:List au) (id i j sub:Nat) (F:Nat->Prop) (h1:List au):Prop:=∃(g sz n:Nat) (e:TypeId) (f:Nat->List PV) (l m a:Nat) (o:TypeId) (b d:Nat->List PV),h[id]? =some (au.row g sz n e f)/\h[sub]? =some (au.row l m a o b)/\
 id≠sub/\i<n/\(f i)[j]? =some (.own sub l 0 a)/\(∀k,k<a->∀c,c∈b k->bn c=true\/cg c=true)/\d i=(f i).set j (.aG m a o b F)/\(∀k,k<n->k≠i->d k=f k)/\
 h1=(h.set id (.row g sz n e d)).set sub .dead
inductive js (m:Nat) (body:(Env->List au->Prop)->Env->List au->Prop):Env->List au->Prop
 | take {env:Env} {h:List au} (σ:List (Nat×PV)) (η:List au) (ht:nO m env h σ η) (hk:js m body (pU iw σ) η):js m body env h
 | step {env:Env} {h:List au} (N:Env->List au->Prop) (hN:∀e h',N e h'->js m body e h') (hb:body N env h):js m body env h
 | ex {env:Env} {h:List au} (h1:List au) (hx:vH h h1) (hk:js m body env h1):js m body env h
 | ab {env:Env} {h:List au} (id i j sub:Nat) (h1:(Nat->Prop)->List au) (ha:∀F,tD h id i j sub F (h1 F)) (hk:∀F,js m body env (h1 F)):js m body env h
def a7 (m:Nat) (body:(Env->List au->Prop)->Env->List au->Prop) (σ:List (Nat×PV)) (η:List au):Prop:=js m body (pU iw σ) η
inductive loopGo (m:Nat) (body:(Env->List au->Prop)->Env->List au->Prop) (env:Env):List au->Prop
 | mk {h:List au} (σ:List (Nat×PV)) (η:List au) (ht:nO m env h σ η) (hk:a7 m body σ η):loopGo m body env h
 | ex {h:List au} (h1:List au) (hx:vH h h1) (hk:loopGo m body env h1):loopGo m body env h
 | ab {h:List au} (id i j sub:Nat) (h1:(Nat->Prop)->List au) (ha:∀F,tD h id i j sub F (h1 F)) (hk:∀F,loopGo m body env (h1 F)):loopGo m body env h
theorem loopGo.to {m:Nat} {body:(Env->List au->Prop)->Env->List au->Prop} {env:Env} {h:List au} (hg:loopGo m body env h):js m body env h:=by
 induction hg with
 | mk σ η b hk=>exact .take σ η b hk
 | ex h1 hx hk a=>exact .ex h1 hx a
 | ab id i j sub h1 ha hk a=>exact .ab id i j sub h1 ha a
theorem a7.enter {m:Nat} {body:(Env->List au->Prop)->Env->List au->Prop} {env:Env} {h:List au} (σ:List (Nat×PV)) (η:List au) (a:nO m env h σ η) (hk:a7 m body σ η):js m body env h:=.take σ η a hk
theorem a7.round {m:Nat} {body:(Env->List au->Prop)->Env->List au->Prop} {σ:List (Nat×PV)} {η:List au} (hb:body (loopGo m body) (pU iw σ) η):a7 m body σ η:=
 .step (loopGo m body) (λ_ _ hg=>hg.to) hb
inductive nP (m:Nat) (J:List (Nat×PV)->List au->Prop) (env:Env):List au->Prop
 | mk {h:List au} (σ:List (Nat×PV)) (η:List au) (ht:nO m env h σ η) (hj:J σ η):nP m J env h
 | ex {h:List au} (h1:List au) (hx:vH h h1) (hk:nP m J env h1):nP m J env h
 | ab {h:List au} (id i j sub:Nat) (h1:(Nat->Prop)->List au) (ha:∀F,tD h id i j sub F (h1 F)) (hk:∀F,nP m J env (h1 F)):nP m J env h
inductive lu (m:Nat) (A B:XQ->Env->List au->Prop) (Q:XQ) (env:Env):List au->Prop
 | direct {h:List au} (hd:A (XQ.then (B Q) Q) env h):lu m A B Q env h
 | cut {h:List au} (J:List (Nat×PV)->List au->Prop) (ha:A (XQ.then (nP m J) Q) env h) (hb:∀σ η,J σ η->B Q (pU iw σ) η):lu m A B Q env h
 | ex {h:List au} (h1:List au) (hx:vH h h1) (hk:lu m A B Q env h1):lu m A B Q env h
 | ab {h:List au} (id i j sub:Nat) (h1:(Nat->Prop)->List au) (ha:∀F,tD h id i j sub F (h1 F)) (hk:∀F,lu m A B Q env (h1 F)):lu m A B Q env h
def s9:Op->Bool
 | .call ⟨.value _,_,_⟩=>false
 | .call ⟨.builtin .append,_,_⟩=>false
 | .call ⟨.builtin .copy,_,_⟩=>false
 | .store _ _ _=>false
 | .box _ _=>false
 | .alloc _=>false
 | .makeSlice _ _ _=>false
 | .buildSlice _ _ _=>false
 | .makeMap _ _=>false
 | .mapUpdate _ _ _ _=>false
 | _=>true
def mW:PV->Bool
 | .int _ _=>true
 | .bool _=>true
 | .str _=>true
 | .aD=>true
 | _=>false
def CW (P:Program) (b:PV) (args:List PV) (h:List au) (K:PV->Prop):Prop:=
 match b with
 | .fn f=>bX (args.all fp) (∃(a:List PV) (v:PV),mo h [] [] args a/\a.all fp=true/\ACall P f a [] (λres _=>res=v)/\bX (mW v) (K v))
 | _=>False
def Iq (P:Program) (T:ij) (op:Op) (env:Env) (h:List au) (K:PV->Prop):Prop:=
 match op with
 | .call ⟨.value a,args,_⟩=>CW P (ev env a) (args.toList.map (ev env)) h K
 | op=>bB T op env h K
def mK (P:Program) (T:ij) (all:List Oper) (h:List au) (K:Env->Prop) (l:List Oper):Env->Prop:=
 List.rec (motive:=λ_=>Env->Prop) K (λo _ a env=>match o.guard with
  | none=>Iq P T o.op env h (λv=>a (bV env o.dst v))
  | some (j,want)=>match(all[j]?).bind (·.dst)with
   | some t=>match env t with
    | .bool b=>cw b
      (match want with
       | true=>Iq P T o.op (jh env t (.bool true)) h (λv=>a (bV (jh env t (.bool true)) o.dst v))
       | false=>a (bV (jh env t (.bool true)) o.dst (.db [])))
      (match want with
       | true=>a (bV (jh env t (.bool false)) o.dst (.db []))
       | false=>Iq P T o.op (jh env t (.bool false)) h (λv=>a (bV (jh env t (.bool false)) o.dst v)))
    | .db []=>a (bV env o.dst (.db []))
    | _=>False
   | none=>False) l
def eH:List Nat->Nat->Bool
 | [],_=>false
 | a::r,x=>match Nat.beq a x with
  | true=>true
  | false=>eH r x
def kJ:PV->List Nat
 | .own id _ _ _=>[id]
 | .aH id _ _ _=>[id]
 | .gS id=>[id]
 | .jK _ bC=>bC.map (·.1)
 | _=>[]
def eE (env:Env) (op:Op):List Nat:=match op with | .move _=>[] | _=>op.operands.toList.flatMap λx=>kJ (ev env x)
def CY (o:Oper):List Nat:=o.after.toList.filterMap λe=>match Region.binds .any e with | true=>some e.on | false=>none
def a6 (all:List Oper) (i:Nat):List Nat:=match all[i]? with | some o=>CY o | none=>[]
def bK:List (Nat×List Nat)->Nat->List Nat
 | [],_=>[]
 | (j,A)::r,i=>match Nat.beq j i with | true=>A | false=>bK r i
def Lp:List Nat->List Nat->List Nat
 | [],acc=>acc
 | a::r,acc=>match eH acc a with | true=>Lp r acc | false=>Lp r (a::acc)
def j3 (all:List Oper):List (Nat×Bool)->List (Nat×List Nat)->List (Nat×List Nat)
 | [],t=>t
 | (i,_)::r,t=>j3 all r ((i,Lp (a6 all i++(a6 all i).flatMap (bK t)) [])::t)
def jt (ops:Array Oper) (i j:Nat):Bool:=match ops[i]?,ops[j]? with | some x,some y=>Oper.apart ops x y | _,_=>false
def cx (ops:Array Oper) (t:List (Nat×List Nat)) (p i:Nat×Bool):Bool:=
 !(Nat.beq p.1 i.1)&&!(eH (a6 ops.toList p.1) i.1)&&(eH (a6 ops.toList i.1) p.1||(jt ops p.1 i.1&&(p.2||eH (bK t i.1) p.1)))
def aR (ops:Array Oper) (t:List (Nat×List Nat)):List (Nat×Bool)->Bool
 | []=>true
 | p::r=>r.all (cx ops t p)&&aR ops t r
def za (ops:Array Oper) (ord:List (Nat×Bool)):Bool:=
 Nat.beq ord.length ops.size&&(List.range ops.size).all (λj=>eH (ord.map (·.1)) j)&&ord.all (λp=>Nat.blt p.1 ops.size&&(a6 ops.toList p.1).all (λd=>Nat.blt d ops.size&&!(Nat.beq d p.1)))&&aR ops (j3 ops.toList ord []) ord
def uz (h h':List au) (K:Prop):List Nat->Prop
 | []=>K
 | id::r=>bG h id=bG h' id/\uz h h' K r
def gT (a:List Nat) (h h':List au) (K:Prop):List (Nat×List Nat)->Prop
 | []=>K
 | (j,ids)::r=>match eH a j with
  | true=>gT a h h' K r
  | false=>uz h h' (gT a h h' K r) ids
def rY (P:Program) (T:ij) (st:Bool) (op:Op) (env:Env) (h:List au) (G:PV->List au->Prop):Prop:=
 match st with
 | true=>bB T op env h (λv=>G v h)
 | false=>pop P T op env h G
def jv (P:Program) (T:ij) (all:List Oper) (st:Bool) (o:Oper) (F:Env->PV->List au->Prop) (env:Env) (h:List au):Prop:=
 match o.guard with
 | none=>rY P T st o.op env h (F env)
 | some (j,want)=>match(all[j]?).bind (·.dst)with
  | some t=>match env t with
   | .bool b=>cw b
     (match want with
      | true=>rY P T st o.op (jh env t (.bool true)) h (F (jh env t (.bool true)))
      | false=>F (jh env t (.bool true)) (.db []) h)
     (match want with
      | true=>F (jh env t (.bool false)) (.db []) h
      | false=>rY P T st o.op (jh env t (.bool false)) h (F (jh env t (.bool false))))
   | .db []=>F env (.db []) h
   | _=>False
  | none=>False
def fw (P:Program) (T:ij) (all:List Oper) (t:List (Nat×List Nat)) (K:Env->List au->Prop) (l:List (Nat×Bool)):List (Nat×List Nat)->Env->List au->Prop:=
 List.rec (motive:=λ_=>List (Nat×List Nat)->Env->List au->Prop) (λ_ env h=>K env h) (λp _ b a env h=>match all[p.1]? with
  | some o=>match p.2 with
   | true=>jv P T all true o (λenv' v h'=>b ((p.1,eE env' o.op)::a) (bV env' o.dst v) h') env h
   | false=>jv P T all false o (λenv' v h'=>gT (bK t p.1) h h' (b a (bV env' o.dst v) h') a) env h
  | none=>False) l
def vY (ops:Array Oper) (ord:List (Nat×Bool)) (x:Nat) (a:List (Nat×Bool)) (y:Nat) (b:List (Nat×Bool)):Bool:=
 Nat.beq (ord.length+(a.length+1)) ops.size&&Nat.beq b.length a.length&&(List.range ops.size).all (λj=>eH ((ord++(x,false)::a).map (·.1)) j)&&(ord++(x,false)::a).all (λp=>Nat.blt p.1 ops.size&&(a6 ops.toList p.1).all (λd=>Nat.blt d ops.size&&!(Nat.beq d p.1)))&&
  aR ops (j3 ops.toList (ord++(x,false)::a) []) (ord++a)&&aR ops (j3 ops.toList (ord++(x,false)::a) []) (ord++b)&&
  ord.all (λp=>cx ops (j3 ops.toList (ord++(x,false)::a) []) p (x,false)&&cx ops (j3 ops.toList (ord++(x,false)::a) []) p (y,false)&&(a6 ops.toList p.1).all (λd=>!(eH (((x,false)::a).map (·.1)) d)))&&
  (((x,false)::a).map (·.1)).all (λj=>eH (((y,false)::b).map (·.1)) j)&&(((y,false)::b).map (·.1)).all (λj=>eH (((x,false)::a).map (·.1)) j)&&
  (a6 ops.toList x).all (λd=>!(eH (((x,false)::a).map (·.1)) d))&&!(eH (a.map (·.1)) x)&&!(eH (b.map (·.1)) y)&&
  a.all (λp=>Nat.beq p.1 y||eH (bK (j3 ops.toList (ord++(x,false)::a) []) p.1) x||eH (bK (j3 ops.toList (ord++(x,false)::a) []) p.1) y)
def L6 (P:Program) (T:ij) (all:List Oper) (t:List (Nat×List Nat)) (A B:List (Nat×Bool)) (K:Env->List au->Prop) (l:List (Nat×Bool)):List (Nat×List Nat)->Env->List au->Prop:=
 List.rec (motive:=λ_=>List (Nat×List Nat)->Env->List au->Prop) (λa env h=>fw P T all t K A a env h/\fw P T all t K B a env h) (λp _ b a env h=>match all[p.1]? with
  | some o=>match p.2 with
   | true=>jv P T all true o (λenv' v h'=>b ((p.1,eE env' o.op)::a) (bV env' o.dst v) h') env h
   | false=>jv P T all false o (λenv' v h'=>gT (bK t p.1) h h' (b a (bV env' o.dst v) h') a) env h
  | none=>False) l
def Iz (P:Program) (T:ij) (all:List Oper) (t:List (Nat×List Nat)) (E:List (Nat×List Nat)->Env->List au->Prop) (l:List (Nat×Bool)):List (Nat×List Nat)->Env->List au->Prop:=
 List.rec (motive:=λ_=>List (Nat×List Nat)->Env->List au->Prop) (λa env h=>E a env h) (λp _ b a env h=>match all[p.1]? with
  | some o=>match p.2 with
   | true=>jv P T all true o (λenv' v h'=>b ((p.1,eE env' o.op)::a) (bV env' o.dst v) h') env h
   | false=>jv P T all false o (λenv' v h'=>gT (bK t p.1) h h' (b a (bV env' o.dst v) h') a) env h
  | none=>False) l
def xT (ops:Array Oper) (t:List (Nat×List Nat)) (ord:List (Nat×Bool)) (x y:Nat) (a b:List Nat):Bool:=
 Nat.beq a.length b.length&&ord.all (λp=>cx ops t p (x,false)&&cx ops t p (y,false)&&(a6 ops.toList p.1).all (λd=>!(eH (x::a) d))&&!(eH (x::a) p.1))&&
  (x::a).all (λj=>eH (y::b) j)&&(y::b).all (λj=>eH (x::a) j)&&(a6 ops.toList x).all (λd=>!(eH (x::a) d))&&!(eH a x)&&!(eH b y)&&
  a.all (λj=>Nat.beq j y||eH (bK t j) x||eH (bK t j) y)
def rp (ops:Array Oper) (ord:List (Nat×Bool)) (x:Nat) (o1:List (Nat×Bool)) (b:Nat) (a:List (Nat×Bool)) (f:Nat) (c:List (Nat×Bool)) (y:Nat) (e:List (Nat×Bool)):Bool:=
 (λall=>(λt=>Nat.beq all.length ops.size&&(List.range ops.size).all (λj=>eH (all.map (·.1)) j)&&all.all (λp=>Nat.blt p.1 ops.size&&(a6 ops.toList p.1).all (λd=>Nat.blt d ops.size&&!(Nat.beq d p.1)))&&
  aR ops t ((ord++o1)++a)&&aR ops t ((ord++o1)++c)&&aR ops t (ord++e)&&
  xT ops t ord x y (o1.map (·.1)++b::a.map (·.1)) (e.map (·.1))&&xT ops t (ord++o1) b f (a.map (·.1)) (c.map (·.1))) (j3 ops.toList all [])) (ord++(x,false)::(o1++(b,false)::a))
def QF (P:Program) (T:ij) (all:List Oper) (t:List (Nat×List Nat)) (x:Nat) (o1:List (Nat×Bool)) (b:Nat) (c:List (Nat×Bool)) (d:Nat) (e:List (Nat×Bool)) (y:Nat) (f:List (Nat×Bool)) (K:Env->List au->Prop) (l:List (Nat×Bool)):List (Nat×List Nat)->Env->List au->Prop:=
 Iz P T all t (λa env h=>Iz P T all t (λa env h=>fw P T all t K ((b,false)::c) a env h/\fw P T all t K ((d,false)::e) a env h) ((x,false)::o1) a env h/\fw P T all t K ((y,false)::f) a env h) l
abbrev ju:=List (List (Nat×Bool)×Nat×Nat×List (Nat×Bool))
def r7:ju->List (Nat×Bool)->List (Nat×Bool)
 | [],fin=>fin
 | c::r,fin=>c.1++(c.2.1,false)::r7 r fin
def Px (P:Program) (T:ij) (all:List Oper) (t:List (Nat×List Nat)) (K:Env->List au->Prop) (fin:List (Nat×Bool)) (cs:ju):List (Nat×List Nat)->Env->List au->Prop:=
 List.rec (motive:=λ_=>List (Nat×List Nat)->Env->List au->Prop) (λa env h=>fw P T all t K fin a env h)
  (λc _ b a env h=>Iz P T all t (λa env h=>Iz P T all t b [(c.2.1,false)] a env h/\fw P T all t K ((c.2.2.1,false)::c.2.2.2) a env h) c.1 a env h) cs
def Ad (ops:Array Oper) (t:List (Nat×List Nat)) (fin:List (Nat×Bool)):ju->List (Nat×Bool)->Bool
 | [],pre=>aR ops t (pre++fin)
 | c::r,pre=>xT ops t (pre++c.1) c.2.1 c.2.2.1 ((r7 r fin).map (·.1)) (c.2.2.2.map (·.1))&&aR ops t ((pre++c.1)++c.2.2.2)&&Ad ops t fin r (pre++c.1)
def rr (ops:Array Oper) (cs:ju) (fin:List (Nat×Bool)):Bool:=
 (λall=>(λt=>Nat.beq all.length ops.size&&(List.range ops.size).all (λj=>eH (all.map (·.1)) j)&&all.all (λp=>Nat.blt p.1 ops.size&&(a6 ops.toList p.1).all (λd=>Nat.blt d ops.size&&!(Nat.beq d p.1)))&&
  Ad ops t fin cs []) (j3 ops.toList all [])) (r7 cs fin)
inductive mO (P:Program) (T:ij) (m:Nat) (ops:Array Oper) (K:Env->List au->Prop) (env:Env) (h:List au):Prop
 | quiet (hq:mK P T ops.toList h (λenv'=>K env' h) ops.toList env):mO P T m ops K env h
 | w8 (ord:List (Nat×Bool)) (x:Nat) (ra:List (Nat×Bool)) (y:Nat) (rb:List (Nat×Bool)) (hc:vY ops ord x ra y rb=true) (hf:L6 P T ops.toList (j3 ops.toList (ord++(x,false)::ra) []) ((x,false)::ra) ((y,false)::rb) K ord [] env h):mO P T m ops K env h
 | B1 (ord:List (Nat×Bool)) (x:Nat) (o1:List (Nat×Bool)) (x1:Nat) (ou:List (Nat×Bool)) (y1:Nat) (vX:List (Nat×Bool)) (y:Nat) (rb:List (Nat×Bool)) (hc:rp ops ord x o1 x1 ou y1 vX y rb=true)
   (hf:QF P T ops.toList (j3 ops.toList (ord++(x,false)::(o1++(x1,false)::ou)) []) x o1 x1 ou y1 vX y rb K ord [] env h):mO P T m ops K env h
 | Iw (cs:ju) (fin:List (Nat×Bool)) (hc:rr ops cs fin=true) (hf:Px P T ops.toList (j3 ops.toList (r7 cs fin) []) K fin cs [] env h):mO P T m ops K env h
 | float (ord:List (Nat×Bool)) (hc:za ops ord=true) (hf:fw P T ops.toList (j3 ops.toList ord []) K ord [] env h):mO P T m ops K env h
def y0 (Q:XQ) (env:Env) (h:List au):Prop:=Q .normal env h
def Lz (Q:XQ) (h:List au) (env:Env):Prop:=Q .normal env h
def vc (P:Program) (T:ij) (m:Nat) (c:Code):XQ->Env->List au->Prop:=
 Code.rec (motive:=λ_=>XQ->Env->List au->Prop)
  (λQ env h=>Q .normal env h)
  (λ_ ops d Q env h=>match d with
   | false=>jY P T ops.toList (Q .normal) ops.toList env h
   | true=>match ops.toList.all (λo=>s9 o.op)with
    | true=>mK P T ops.toList h (Lz Q h) ops.toList env
    | false=>mO P T m ops (y0 Q) env h)
  (λ_ _ a b Q env h=>lu m a b Q env h)
  (λc _ _ a b Q env h=>match ev env c with
   | .bool t=>cw t (a Q env h) (b Q env h)
   | _=>False)
  (λid _ e Q env h=>e (XQ.inBlock id Q) env h)
  (λ_ e Q env h=>js m (λnext=>e (XQ.then next Q)) env h)
  (λ_ _ _ _ _ _ _ _ _=>False)
  (λid Q env h=>Q (.exit id) env h)
  (λ_ _ _ _ _=>False)
  (λ_ Q env h=>Q .normal env h)
  (λ_ _ _ _=>False)
  (λQ env h=>Q .ret env h)
  (λ_ _ _ _=>False) c
def codeOk (nt:Nat):Code->Bool
 | .region _ ops d=>ops.toList.all (λo=>match o.dst with | some t=>Nat.blt t nt | none=>true)&&(!d||Region.lexB .any ops)
 | .seq a b=>codeOk nt a&&codeOk nt b
 | .cond _ a b=>codeOk nt a&&codeOk nt b
 | .block _ c=>codeOk nt c
 | .loop c=>codeOk nt c
 | _=>true
def lS (T:ij) (env:Env) (h:List au):List ResultVar->(List PV->Prop)->Prop
 | [],K=>K []
 | .tmp t::r,K=>lS T env h r (λvs=>K (env t::vs))
 | .cell t ty::r,K=>nG T ty (env t) h (λv=>lS T env h r (λvs=>K (v::vs)))
def oneOf:List PV->PV
 | [v]=>v
 | vs=>.db vs
inductive Ends (m:Nat) (R:PV->List au->Prop):List au->List PV->Prop
 | mk {h:List au} {vs:List PV} (hn:vs.all fp=true) (k:List Nat) (res:PV) (η:List au) (hk:ig (hI η k)=true) (hm:m<=k.length) (hz:Fz h η k (oneOf vs) res) (hh:iW h η k m 0 η k) (hR:R res η):Ends m R h vs
 | ex {h:List au} {vs:List PV} (h1:List au) (hx:vH h h1) (hk:Ends m R h1 vs):Ends m R h vs
 | ab {h:List au} {vs:List PV} (id i j sub:Nat) (h1:(Nat->Prop)->List au) (ha:∀F,tD h id i j sub F (h1 F)) (hk:∀F,Ends m R (h1 F) vs):Ends m R h vs
def Lb (T:ij) (rs:List ResultVar) (m:Nat) (R:PV->List au->Prop):XQ
 | .ret,env,h=>lS T env h rs (Ends m R h)
 | .normal,env,h=>lS T env h rs (Ends m R h)
 | _,_,_=>False
def lv (args:List PV):Env:=λt=>args.getD t .dA
def xW (env env':Env) (op:Op):Prop:=∀x,x∈op.operands.toList->ev env x=ev env' x
def IA (h h':List au) (env:Env) (op:Op):Prop:=∀x,x∈op.operands.toList->∀id,id∈kJ (ev env x)->bG h id=bG h' id
theorem dU {v:PV} {K:PV->Prop} (h:K v):force v K:=by cases v<;>exact h
theorem rv {env env':Env} {sz:Nat} {fl:List (Nat×Nat×Bool)} {K:List PV->Prop}:∀(l:List (Nat×Operand)) (acc:List PV),(∀p,p∈l->ev env p.2=ev env' p.2)->iN env sz fl K l acc=iN env' sz fl K l acc
 | [],acc,_=>rfl
 | (k,x)::r,acc,hs=>by
  have e:=hs (k,x) UQ;simp only at e;unfold iN;rw[e];split
  ·congr 1;funext v;rw[rv r _ (λp hp=>hs p (SG _ hp))]
  ·rfl
theorem rz {env env':Env} {sz:Nat} {K:List (List PV)->Prop}:∀(l:List (Nat×Operand)) (acc:List (List PV)),(∀p,p∈l->ev env p.2=ev env' p.2)->jF env sz K l acc=jF env' sz K l acc
 | [],acc,_=>rfl
 | (k,x)::r,acc,hs=>by
  have e:=hs (k,x) UQ;simp only at e;unfold jF;rw[e];congr 1;funext v;rw[rz r _ (λp hp=>hs p (SG _ hp))]
theorem xX {env env':Env} {o:Option Operand} (hs:∀x,o=some x->ev env x=ev env' x):o.map (ev env)=o.map (ev env'):=by
 cases o with
 | none=>rfl
 | some x=>simp [hs x rfl]
theorem n8 {T:ij} {env env':Env} {h:List au} {K:PV->Prop} (op:Op) (hs:xW env env' op):bB T op env h K=bB T op env' h K:=by
 cases op with
 | move x=>simp only[bB,hs x UP]
 | assign x=>simp only[bB,hs x UP]
 | pick c a b=>simp only[bB,hs c UP,hs a UP,hs b UP]
 | binOp m t x y n=>simp only[bB,hs x UP,hs y UP]
 | unOp u t x=>simp only[bB,hs x UP]
 | load t a=>simp only[bB,hs a UP]
 | convert s d x=>simp only[bB,hs x UP]
 | nilCheck x=>simp only[bB,hs x UP]
 | fieldAddr s x k=>simp only[bB,hs x UP]
 | field s x k=>simp only[bB,hs x UP]
 | build t parts=>
  have e:∀sz fl (K:List PV->Prop) z,iN env sz fl K parts.toList z=iN env' sz fl K parts.toList z:=λsz fl K z=>rv _ _ (λp hp=>hs p.2 Vh);simp only[bB,e]
 | indexAddr t x i=>simp only[bB,hs x UP,hs i UP]
 | index t x i=>simp only[bB,hs x UP,hs i UP]
 | extract x i=>simp only[bB,hs x UP]
 | lookup t x i ok=>simp only[bB,hs x UP,hs i UP]
 | makeFunc fn first captured=>rfl
 | slice t x lo hi f=>
  have g:lo.map (ev env)=lo.map (ev env'):=xX (λy hy=>hs y Vd);have j:hi.map (ev env)=hi.map (ev env'):=xX (λy hy=>hs y Vd);have l:f.map (ev env)=f.map (ev env'):=xX (λy hy=>hs y Vd);simp only[bB,hs x UP,g,j,l]
 | call c=>
  obtain⟨callee,args,o⟩:=c;cases callee with
  | builtin b=>
   cases b with
   | len=>
    simp only[bB];split
    ·rename_i x t hx q;have e:=hs x (by simp [Op.operands,Call.operands];have:x∈args.toList:=(by rw[hx];simp);simpa using this);rw[e]
    ·rfl
   | _=>rfl
  | _=>rfl
 | _=>rfl
theorem Af {T:ij} {env:Env} {h h':List au} {K:PV->Prop} (op:Op) (hs:IA h h' env op):bB T op env h K=bB T op env h' K:=by
 cases op with
 | load t a=>
  have q:=hs a UP;simp only[bB];revert q;generalize ev env a=v;intro q;cases v with
  | aH id g i o=>simp only[nG,q id U1]
  | _=>rfl
 | convert s d x=>
  have q:=hs x UP;simp only[bB];revert q;generalize ev env x=v;intro q
  have e:∀K,mw v h K=mw v h' K:=λK=>by
   cases v with
   | own id g i o=>simp only[mw,q id U1]
   | _=>rfl
  generalize T.get s=ti;generalize T.get d=f;cases ti with
  | slice a b c z=>cases f with
   | str=>simp only[e]
   | _=>rfl
  | int k=>cases f<;>cases v<;>rfl
  | _=>rfl
 | nilCheck x=>
  have q:=hs x UP;simp only[bB];revert q;generalize ev env x=v;intro q;cases v with
  | aH id g i o=>simp only[q id U1]
  | _=>rfl
 | fieldAddr s x k=>
  have q:=hs x UP;simp only[bB];revert q;generalize ev env x=v;intro q;cases v with
  | aH id g i o=>simp only[q id U1]
  | _=>rfl
 | indexAddr t x i=>
  have q:=hs x UP;simp only[bB];revert q;generalize ev env x=v;generalize ev env i=u;generalize T.get t=ti;intro q;cases ti with
  | slice e sz b z=>cases v with
   | own id g o l=>cases u with
    | int k n=>simp only[q id U1]
    | _=>rfl
   | cP a b c=>cases u<;>rfl
   | _=>rfl
  | _=>rfl
 | lookup t x i ok=>
  have q:=hs x UP;simp only[bB];revert q;generalize ev env x=v;generalize T.get t=ti;intro q;cases ti with
  | map k e z=>cases v with
   | gS id=>simp only[q id U1]
   | _=>rfl
  | _=>cases v<;>rfl
 | slice t x lo hi j=>
  have q:=hs x UP;simp only[bB];revert q;generalize ev env x=v;generalize T.get t=ti;intro q;cases ti with
  | slice e sz b z=>cases v with
   | own id g o l=>simp only[q id U1]
   | _=>rfl
  | str=>cases v<;>rfl
  | _=>rfl
 | call c=>
  obtain⟨callee,args,m⟩:=c;cases callee with
  | builtin b=>
   cases b with
   | len=>
    simp only[bB];split
    ·rename_i x t hx p;have q:=hs x (by simp [Op.operands,Call.operands];have:x∈args.toList:=(by rw[hx];simp);simpa using this);revert q;generalize ev env x=v;generalize T.get t=ti;intro q;cases ti with
     | slice e sz b z=>cases v with
      | own id g o l=>simp only[q id U1]
      | _=>rfl
     | map k e z=>cases v with
      | gS id=>simp only[q id U1]
      | _=>rfl
     | str=>cases v<;>rfl
     | _=>rfl
    ·rfl
   | _=>rfl
  | _=>rfl
 | _=>rfl
def One (F:(PV->Prop)->Prop):Prop:=∀K,F K->∃v,K v/\∀a,a v->F a
theorem j7 (v:PV):One (force v):=λK h=>⟨v,bm h,λa hk=>dU hk⟩
theorem aQ (v:PV):One (λK=>K v):=λK h=>⟨v,h,λ_ hk=>hk⟩
theorem bS {A:Prop} {F:(PV->Prop)->Prop} (h:One F):One (λK=>A/\F K):=λK hk=>
 let⟨v,h1,h2⟩:=h K hk.2
 ⟨v,h1,λa b=>⟨hk.1,h2 a b⟩⟩
theorem du {b:Bool} {F:(PV->Prop)->Prop} (h:One F):One (λK=>bX b (F K)):=λK hk=>by
 cases b with
 | true=>exact h K hk
 | false=>exact hk.elim
theorem lB {α:Type} {A:α->Prop} {F:α->(PV->Prop)->Prop} (h:∀c,One (F c)):One (λK=>∃c,A c/\F c K):=λK ⟨c,ha,hk⟩=>
 let⟨v,h1,h2⟩:=h c K hk
 ⟨v,h1,λa b=>⟨c,ha,h2 a b⟩⟩
theorem rA {F:(PV->Prop)->Prop} (h:One F):One (λK=>F (vd K)):=λK hk=>by
 obtain⟨v,h1,h2⟩:=h _ hk;cases v with
 | cP sz n f=>
  obtain⟨b,j,c,e,d⟩:=h1;exact⟨.cP sz b j,d,λi a=>h2 _ ⟨b,j,c,e,a⟩⟩
 | own id g off n=>
  obtain⟨k,b,c,e,d⟩:=h1;exact⟨.own id g k b,d,λi a=>h2 _ ⟨k,b,c,e,a⟩⟩
 | str s=>
  obtain⟨l,c,d⟩:=h1;exact⟨.str l,d,λi a=>h2 _ ⟨l,c,a⟩⟩
 | _=>exact⟨_,h1,λi a=>h2 _ a⟩
theorem oX {K:List PV->Prop}:∀(n:Nat) (l acc:List PV),n<=l.length->K (acc.reverse++l.take n)->tb K n l acc
 | 0,l,acc,_,h=>by unfold tb;simpa using h
 | n+1,[],acc,a,_=>by simp at a
 | n+1,c::r,acc,a,h=>dU (oX n r (c::acc) (by simp at a;omega) U0)
theorem rB (T:ij) (t:Nat) (cells:List PV):One (oM T t cells):=λK hk=>by
 unfold oM at hk ⊢;generalize T.get t=q1 at hk ⊢;cases q1 with
 | struct sz fl z=>
  obtain⟨h1,h2⟩:=iM _ _ _ hk;exact⟨_,h2,λb a=>oX _ _ _ h1 a⟩
 | other=>exact hk.elim
 | _=>
  cases cells with
  | nil=>exact hk.elim
  | cons c r=>exact j7 c K hk
theorem Ag (T:ij) (t:Nat) (a:PV) (h:List au):One (nG T t a h):=λK hk=>by
 cases a with
 | cN cells=>exact rB T t cells K hk
 | aH id gen i off=>
  simp only[nG]at hk ⊢;generalize bG h id=q2 at hk ⊢;cases q2 with
  | row g sz n e f=>exact bS (lB (λc=>rB T t _)) K hk
  | dead=>exact hk.elim
 | _=>exact hk.elim
theorem C7 (ti:TI) (d:BinOp) (x y:PV):One (zB ti d x y):=λK hk=>by
 cases x with
 | int k a=>cases y with
  | int g b=>
   cases d with
   | shl=>exact bS (aQ _) K hk
   | shr=>exact bS (aQ _) K hk
   | quo=>exact du (bS (aQ _)) K hk
   | rem=>exact du (bS (aQ _)) K hk
   | _=>exact du (aQ _) K hk
  | _=>exact hk.elim
 | bool a=>cases y with
  | bool b=>cases ti with
   | bool=>cases d with
    | eql=>exact aQ _ K hk
    | neq=>exact aQ _ K hk
    | _=>exact hk.elim
   | _=>exact hk.elim
  | _=>exact hk.elim
 | str a=>cases y with
  | str b=>cases d with
   | add=>exact bS (lB λc=>aQ _) K hk
   | eql=>exact aQ _ K hk
   | neq=>exact aQ _ K hk
   | lss=>exact aQ _ K hk
   | leq=>exact aQ _ K hk
   | gtr=>exact aQ _ K hk
   | geq=>exact aQ _ K hk
   | _=>exact hk.elim
  | _=>exact hk.elim
 | agg xs=>cases y with
  | agg e=>cases ti with
   | struct sz fl z=>
    simp only[zB]at hk ⊢;generalize pj z=f at hk ⊢;cases f with
    | false=>exact hk.elim
    | true=>
     simp only[bX]at hk ⊢;generalize sj z xs e=q at hk ⊢;cases q with
     | none=>exact hk.elim
     | some b=>cases d<;>first | exact hk.elim | exact lB (λc=>aQ _) K hk
   | _=>exact hk.elim
  | _=>exact hk.elim
 | _=>exact hk.elim
theorem mP (x:PV) (lo hi:Option PV):One (qv x lo hi):=λK hk=>by
 cases x with
 | cP sz n f=>
  cases lo with
  | none=>cases hi with
   | none=>exact aQ _ K hk
   | some u=>cases u<;>first | exact hk.elim | exact bS (aQ _) K hk
  | some l=>cases l with
   | int k l=>cases hi with
    | none=>exact bS (aQ _) K hk
    | some u=>cases u<;>first | exact hk.elim | exact bS (aQ _) K hk
   | _=>cases hi<;>exact hk.elim
 | own id gen off len=>
  cases lo with
  | none=>cases hi with
   | none=>exact aQ _ K hk
   | some u=>cases u<;>first | exact hk.elim | exact bS (aQ _) K hk
  | some l=>cases l with
   | int k l=>cases hi with
    | none=>exact bS (aQ _) K hk
    | some u=>cases u<;>first | exact hk.elim | exact bS (aQ _) K hk
   | _=>cases hi<;>exact hk.elim
 | str s=>
  cases lo with
  | none=>cases hi with
   | none=>exact aQ _ K hk
   | some u=>cases u<;>first | exact hk.elim | exact bS (aQ _) K hk
  | some l=>cases l with
   | int k l=>cases hi with
    | none=>exact bS (aQ _) K hk
    | some u=>cases u<;>first | exact hk.elim | exact bS (aQ _) K hk
   | _=>cases hi<;>exact hk.elim
 | _=>exact hk.elim
theorem xY (v:PV) (h:List au):One (λK=>mw v h (λs=>K (.str s))):=λK hk=>by
 cases v with
 | aD=>exact aQ _ K hk
 | cP sz n f=>exact du (lB λs=>bS (aQ _)) K hk
 | own id gen off n=>
  simp only[mw]at hk ⊢;generalize bG h id=q3 at hk ⊢;cases q3 with
  | row g sz n e f=>exact bS (du (lB λs=>bS (aQ _))) K hk
  | dead=>exact hk.elim
 | _=>exact hk.elim
theorem rC (env:Env) (sz:Nat) (fl:List (Nat×Nat×Bool)):∀(l:List (Nat×Operand)) (acc:List PV),One (λK=>iN env sz fl (λcs=>K (.agg cs)) l acc)
 | [],acc=>aQ _
 | (k,x)::r,acc=>λK hk=>by
  unfold iN at hk ⊢;generalize fl[k]? =q4 at hk ⊢;cases q4 with
  | none=>exact hk.elim
  | some p=>
   obtain⟨o,size,b⟩:=p;have h1:=bm hk;obtain⟨v,h2,a⟩:=du (rC env sz fl r _) K h1;exact⟨v,h2,λc d=>dU (a c d)⟩
theorem C8 (ti:TI) (n:Nat) (f:Nat->List PV) (a e:PV) (ok:Bool):One (λK=>bX (fu ti a a).isSome (∃r b,CG ti f n a e r b/\match ok with
  | true=>K (.db [r,.bool b])
  | false=>force r K)):=du (λK hk=>by
 obtain⟨r,b,hm,d⟩:=hk;cases ok with
 | true=>exact⟨_,d,λg c=>⟨r,b,hm,c⟩⟩
 | false=>exact⟨_,bm d,λg c=>⟨r,b,hm,dU c⟩⟩)
theorem wb (T:ij) (op:Op) (env:Env) (h:List au):One (bB T op env h):=λK hk=>by
 cases op with
 | move x=>exact j7 _ K hk
 | assign x=>exact j7 _ K hk
 | pick c a b=>
  simp only[bB]at hk ⊢;generalize ev env c=v at hk ⊢;cases v with
  | bool t=>
   obtain⟨h1,h2⟩:=eM hk;cases t with
   | true=>exact⟨_,bm (h1 rfl),λm l=>.mk (λ_=>dU l) (λh=>by cases h)⟩
   | false=>exact⟨_,bm (h2 rfl),λm l=>.mk (λh=>by cases h) (λ_=>dU l)⟩
  | _=>exact hk.elim
 | binOp V t x y W=>exact C7 _ _ _ _ K hk
 | unOp u t x=>
  simp only[bB]at hk ⊢;generalize ev env x=v at hk ⊢;cases u<;>cases v<;>first | exact hk.elim | exact aQ _ K hk
 | load t a=>exact Ag _ _ _ _ K hk
 | convert s d x=>
  simp only[bB]at hk ⊢;generalize ev env x=v at hk ⊢;generalize T.get s=ti at hk ⊢;generalize T.get d=q at hk ⊢;cases ti with
  | int k=>cases q with
   | int X=>cases v<;>first | exact hk.elim | exact aQ _ K hk
   | _=>cases v<;>exact hk.elim
  | slice e sz b z=>cases q with
   | str=>
    simp only at hk ⊢;generalize T.get e=E at hk ⊢;cases E with
    | int k=>cases k<;>first | exact hk.elim | exact xY _ _ K hk
    | _=>exact hk.elim
   | _=>cases v<;>exact hk.elim
  | _=>cases q<;>cases v<;>exact hk.elim
 | nilCheck x=>
  simp only[bB]at hk ⊢;generalize ev env x=v at hk ⊢;cases v with
  | cN cs=>exact aQ _ K hk
  | aH id gen i off=>
   simp only at hk ⊢;generalize bG h id=F at hk ⊢;cases F with
   | row g sz n e f=>exact bS (aQ _) K hk
   | dead=>exact hk.elim
  | _=>exact hk.elim
 | fieldAddr s x k=>
  simp only[bB]at hk ⊢;generalize ev env x=v at hk ⊢;generalize T.get s=w at hk ⊢;cases w with
  | struct sz fl z=>
   simp only at hk ⊢;generalize fl[k]? =A at hk ⊢;cases A with
   | none=>exact hk.elim
   | some p=>
    obtain⟨o,a,b⟩:=p;cases v with
    | cN cs=>exact aQ _ K hk
    | aH id gen i off=>
     simp only at hk ⊢;generalize bG h id=B at hk ⊢;cases B with
     | row g sz n e f=>exact bS (aQ _) K hk
     | dead=>exact hk.elim
    | _=>exact hk.elim
  | _=>exact hk.elim
 | field s x k=>
  simp only[bB]at hk ⊢;generalize ev env x=v at hk ⊢;generalize T.get s=w at hk ⊢;cases w with
  | struct sz fl z=>
   simp only at hk ⊢;generalize fl[k]? =A at hk ⊢;cases A with
   | none=>exact hk.elim
   | some p=>
    obtain⟨o,a,b⟩:=p;cases v with
    | agg cs=>
     cases b with
     | true=>
      obtain⟨h1,h2⟩:=iM _ _ _ hk;exact⟨_,h2,λm l=>oX _ _ _ h1 l⟩
     | false=>
      simp only at hk ⊢;generalize cs.drop o=B at hk ⊢;cases B with
      | nil=>exact hk.elim
      | cons c r=>exact j7 c K hk
    | _=>exact hk.elim
  | _=>exact hk.elim
 | build t parts=>
  simp only[bB]at hk ⊢;generalize T.get t=G at hk ⊢;cases G with
  | struct sz fl z=>exact rC _ _ _ _ _ K hk
  | _=>exact hk.elim
 | indexAddr t x i=>
  simp only[bB]at hk ⊢;generalize ev env x=v at hk ⊢;generalize ev env i=u at hk ⊢;generalize T.get t=H at hk ⊢;cases H with
  | slice e sz b z=>cases v with
   | cP I n f=>cases u<;>first | exact hk.elim | exact du (bS (lB λc=>aQ _)) K hk
   | own id gen off len=>cases u with
    | int k n=>
     simp only at hk ⊢;generalize bG h id=J at hk ⊢;cases J with
     | row g sz n e f=>exact bS (du (bS (lB λj=>aQ _))) K hk
     | dead=>exact hk.elim
    | _=>exact hk.elim
   | _=>cases u<;>exact hk.elim
  | _=>cases v<;>cases u<;>exact hk.elim
 | index t x i=>
  simp only[bB]at hk ⊢;generalize ev env x=v at hk ⊢;generalize ev env i=u at hk ⊢;generalize T.get t=L at hk ⊢;cases L with
  | str=>cases v with
   | str s=>cases u<;>first | exact hk.elim | exact bS (lB λc=>aQ _) K hk
   | _=>cases u<;>exact hk.elim
  | _=>cases v<;>cases u<;>exact hk.elim
 | extract x i=>
  simp only[bB]at hk ⊢;generalize ev env x=v at hk ⊢;cases v with
  | db vs=>
   simp only at hk ⊢;generalize vs[i]? =M at hk ⊢;cases M with
   | none=>exact hk.elim
   | some u=>exact j7 _ K hk
  | _=>exact hk.elim
 | makeFunc fn first captured=>exact(show False from hk).elim
 | lookup t x i ok=>
  simp only[bB]at hk ⊢;generalize ev env x=v at hk ⊢;generalize T.get t=N at hk ⊢;cases N with
  | map kt O D=>cases v with
   | gS id=>
    simp only at hk ⊢;generalize bG h id=P at hk ⊢;cases P with
    | row g sz n e f=>
     obtain⟨u,h2,Q⟩:=C8 (T.get kt) n f (ev env i) D ok K (bm hk);exact⟨u,h2,λm l=>dU (Q m l)⟩
    | dead=>exact hk.elim
   | _=>exact hk.elim
  | _=>cases v<;>exact hk.elim
 | slice t x lo hi Y=>
  simp only[bB]at hk ⊢;generalize ev env x=v at hk ⊢;generalize T.get t=R at hk ⊢;cases R with
  | slice e sz b z=>cases v with
   | cP I n f=>exact du (bS (rA (mP _ _ _))) K hk
   | own id gen off len=>
    simp only at hk ⊢;generalize bG h id=S at hk ⊢;cases S with
    | row g sz n e f=>exact bS (du (bS (rA (mP _ _ _)))) K hk
    | dead=>exact hk.elim
   | _=>exact hk.elim
  | str=>cases v with
   | str s=>exact du (rA (mP _ _ _)) K hk
   | _=>exact hk.elim
  | _=>cases v<;>exact hk.elim
 | call c=>
  obtain⟨callee,args,Z⟩:=c;cases callee with
  | builtin b=>
   cases b with
   | len=>
    simp only[bB]at hk ⊢;split at hk
    ·rename_i x t hx ht;generalize ev env x=v at hk ⊢;generalize T.get t=U at hk ⊢;cases U with
     | slice e sz b z=>cases v with
      | cP a n f=>exact aQ _ K hk
      | aD=>exact aQ _ K hk
      | own id gen off n=>
       simp only at hk ⊢;generalize bG h id=C at hk ⊢;cases C with
       | row g sz n e f=>exact bS (aQ _) K hk
       | dead=>exact hk.elim
      | _=>exact hk.elim
     | str=>cases v<;>first | exact hk.elim | exact aQ _ K hk
     | map kt O D=>cases v with
      | gS id=>
       simp only at hk ⊢;generalize bG h id=C at hk ⊢;cases C with
       | row g sz n e f=>exact aQ _ K hk
       | dead=>exact hk.elim
      | _=>exact hk.elim
     | _=>cases v<;>exact hk.elim
    ·exact hk.elim
   | _=>exact hk.elim
  | _=>exact hk.elim
 | _=>exact hk.elim
theorem iZ {v:PV} {K a:PV->Prop} (hk:∀v,K v->a v) (h:force v K):force v a:=dU (hk _ (bm h))
theorem b9 {b:Bool} {K a:Prop} (hk:K->a) (h:bX b K):bX b a:=by cases b;exact h;exact hk h
theorem pF {env:Env} {sz:Nat} {K a:List (List PV)->Prop} (hk:∀l,K l->a l):∀(l:List (Nat×Operand)) (acc:List (List PV)),jF env sz K l acc->jF env sz a l acc
 | [],acc,h=>hk _ h
 | (k,x)::r,acc,h=>iZ (λv h=>b9 (pF hk r _) h) h
theorem tc {x:PV} {h:List au} {sz:Nat} {K a:Nat->(Nat->List PV)->Prop} (hk:∀n g,K n g->a n g) (hp:xG x h sz K):xG x h sz a:=by
 cases x with
 | aD=>exact hk _ _ hp
 | cP b m g=>exact b9 (hk _ _) hp
 | own id gen off m=>
  simp only[xG]at hp ⊢;generalize bG h id=q at hp ⊢;cases q with
  | row g b n e f=>exact⟨hp.1,hp.2.1,b9 (hk _ _) hp.2.2⟩
  | dead=>exact hp
 | str s=>exact b9 (hk _ _) hp
 | _=>exact hp
theorem uA {e sz bytes:Nat} {s x:PV} {h:List au} {K i:PV->List au->Prop} (hk:∀v h',K v h'->i v h') (hp:lL e sz bytes s x h K):lL e sz bytes s x h i:=by
 cases s with
 | aD=>
  simp only[lL]at hp ⊢;exact tc (λm g ⟨h,a,b,c,d,h2⟩=>⟨h,a,b,c,d,hk _ _ h2⟩) hp
 | own id gen off len=>
  simp only[lL]at hp ⊢;generalize bG h id=q at hp ⊢;cases q with
  | row g j n k f=>exact⟨hp.1,b9 (tc (λm g ⟨h,a,b,c,d,h2⟩=>⟨h,a,b,c,d,hk _ _ h2⟩)) hp.2⟩
  | dead=>exact hp
 | _=>exact hp
theorem xZ {e sz bytes:Nat} {s x:PV} {h:List au} {K a:PV->List au->Prop} (hk:∀v h',K v h'->a v h') (hp:vP e sz bytes s x h K):vP e sz bytes s x h a:=by
 unfold vP at hp ⊢;split at hp
 ·split at hp
  ·exact⟨hp.1,b9 (λq=>⟨q.1,hk _ _ q.2⟩) hp.2⟩
  ·exact hp
 ·split at hp
  ·split at hp
   ·exact⟨hp.1,hp.2.1,b9 (λq=>⟨q.1,hk _ _ q.2⟩) hp.2.2⟩
   ·exact hp
  ·exact hp
 ·exact Uq
theorem wc {e sz bytes:Nat} {s x:PV} {h:List au} {K a:PV->List au->Prop} (hk:∀v h',K v h'->a v h') (hp:qV e sz bytes s x h K):qV e sz bytes s x h a:=by
 unfold qV at hp ⊢;split at hp
 ·split at hp
  ·exact⟨hp.1,hp.2.1,b9 (λq=>⟨q.1,q.2.1,hk _ _ q.2.2⟩) hp.2.2⟩
  ·exact hp
 ·exact Uq
theorem xJ.mono {e sz bytes:Nat} {s x:PV} {h:List au} {K a:PV->List au->Prop} (hk:∀v h',K v h'->a v h') (hp:xJ e sz bytes s x h K):xJ e sz bytes s x h a:=by
 cases hp with
 | fG hp=>exact .fG (uA hk hp)
 | move hp=>exact .move (xZ hk hp)
 | shift hp=>exact .shift (wc hk hp)
theorem j8 {T:ij} {op:Op} {env:Env} {h:List au} {K a:PV->Prop} (hk:∀v,K v->a v) (hp:bB T op env h K):bB T op env h a:=
 let⟨v,h1,h2⟩:=wb T op env h K hp
 h2 a (hk v h1)
theorem C9 {P:Program} {T:ij} {env:Env} {h:List au} {K B:PV->List au->Prop} (hk:∀v h',K v h'->B v h') (op:Op) (hp:pop P T op env h K):pop P T op env h B:=by
 cases op with
 | store t a x=>
  simp only[pop]at hp ⊢;generalize ev env a=v at hp ⊢;cases v with
  | aH id gen i off=>
   simp only at hp ⊢;generalize bG h id=q at hp ⊢;cases q with
   | row g sz n e f=>exact⟨hp.1,iZ (λv h=>b9 (λ⟨c,j,o,p,h2⟩=>⟨c,j,o,p,hk _ _ h2⟩) h) hp.2⟩
   | dead=>exact hp
  | _=>exact hp
 | box t x=>
  simp only[pop]at hp ⊢;exact iZ (λv h=>b9 (hk _ _) h) hp
 | alloc t=>
  simp only[pop]at hp ⊢;generalize qm (T.get t)=q at hp ⊢;cases q<;>first | exact hp | exact hk _ _ hp
 | makeSlice t l c=>
  simp only[pop]at hp ⊢;generalize T.get t=q at hp ⊢;generalize ev env l=u at hp ⊢;generalize ev env c=v at hp ⊢;cases q with
  | slice e sz b z=>cases u with
   | int k n=>cases v with
    | int F m=>(obtain⟨h,w,j,o,p,h2⟩:=hp;exact⟨h,w,j,o,p,hk _ _ h2⟩)
    | _=>exact hp
   | _=>cases v<;>exact hp
  | _=>cases u<;>cases v<;>exact hp
 | buildSlice t len parts=>
  simp only[pop]at hp ⊢;generalize T.get t=q at hp ⊢;cases q with
  | slice e sz b z=>exact b9 (pF (λ_ ⟨j,o,h2⟩=>⟨j,o,hk _ _ h2⟩) _ _) hp
  | _=>exact hp
 | convert s d x=>
  simp only[pop]at hp ⊢;split at hp
  ·split at hp
   ·exact let⟨j,o,h2⟩:=hp;⟨j,o,hk _ _ h2⟩
   ·exact hp
  ·exact j8 (λv=>hk v h) hp
 | binOp G t x y ty=>
  simp only[pop]at hp ⊢;split at hp
  ·exact⟨λh0=>hk _ _ (hp.1 h0),hk _ _ hp.2⟩
  ·exact j8 (λv=>hk v h) hp
 | makeMap t r=>
  cases r with
  | none=>
   simp only[pop]at hp ⊢;generalize T.get t=q at hp ⊢;cases q with
   | map k e z=>exact let⟨j,h2⟩:=hp;⟨j,hk _ _ h2⟩
   | _=>exact hp
  | some r=>exact hp
 | mapUpdate t m k x=>
  simp only[pop]at hp ⊢;generalize T.get t=q at hp ⊢;generalize ev env m=v at hp ⊢;cases q with
  | map kt H z=>cases v with
   | gS id=>
    simp only at hp ⊢;generalize bG h id=q2 at hp ⊢;cases q2 with
    | row g sz n e f=>exact iZ (λI h=>iZ (λJ h=>b9 (λ⟨w,j,o,h2⟩=>⟨w,j,o,hk _ _ h2⟩) h) h) hp
    | dead=>exact hp
   | _=>exact hp
  | _=>cases v<;>exact hp
 | call c=>
  obtain⟨callee,args,L⟩:=c;cases callee with
  | value D=>
   simp only[pop]at hp ⊢;generalize ev env D=v at hp ⊢;cases v with
   | fn f=>exact b9 (λ⟨R,h1,h2⟩=>⟨R,h1,λres h' A=>hk _ _ (h2 res h' A)⟩) hp
   | jK f bC=>exact b9 (λ⟨R,h1,h2⟩=>⟨R,h1,λres h' A=>hk _ _ (h2 res h' A)⟩) hp
   | _=>exact hp
  | builtin b=>
   cases b with
   | append=>
    simp only[pop]at hp ⊢;split at hp
    ·rename_i s x t E ha M;generalize T.get t=q at hp ⊢;generalize T.get E=C at hp ⊢;cases q with
     | slice e sz b z=>cases C<;>first | exact hp | exact xJ.mono hk hp
     | _=>cases C<;>exact hp
    ·exact hp
   | len=>(simp only[pop]at hp ⊢;exact j8 (λv=>hk v h) hp)
   | _=>exact hp
  | _=>exact hp
 | _=>(simp only[pop]at hp ⊢;exact j8 (λv=>hk v h) hp)
theorem Da {env env':Env} {args:Array Operand} (hs:∀x,x∈args.toList->ev env x=ev env' x):args.toList.map (ev env)=args.toList.map (ev env'):=
 List.map_congr_left hs
theorem ET {env env':Env} {l:List Operand} (hs:∀x,x∈l->ev env x=ev env' x):l.all (λx=>fp (ev env x))=l.all (λx=>fp (ev env' x)):=by
 induction l with
 | nil=>rfl
 | cons a r b=>simp only[Tx,hs a UQ,b (λx hx=>hs x (SG _ hx))]
theorem EU {P:Program} {T:ij} {env env':Env} {h:List au} {K:PV->List au->Prop} (op:Op) (hs:xW env env' op):pop P T op env h K=pop P T op env' h K:=by
 cases op with
 | store t a x=>simp only[pop,hs a UP,hs x UP]
 | box t x=>simp only[pop,hs x UP]
 | alloc t=>rfl
 | makeSlice t l c=>simp only[pop,hs l UP,hs c UP]
 | buildSlice t len parts=>
  have e:∀sz (K:List (List PV)->Prop) z,jF env sz K parts.toList z=jF env' sz K parts.toList z:=λsz K z=>rz _ _ (λp hp=>hs p.2 Vh);simp only[pop,e]
 | convert s d x=>simp only[pop,bB,hs x UP]
 | binOp j t x y ty=>simp only[pop,bB,hs x UP,hs y UP]
 | makeMap t r=>cases r<;>rfl
 | mapUpdate t m k x=>simp only[pop,hs m UP,hs k UP,hs x UP]
 | call c=>
  obtain⟨callee,args,n⟩:=c;cases callee with
  | value g=>
   have i:=hs g (by simp [Op.operands,Call.operands]);have f:∀x,x∈args.toList->ev env x=ev env' x:=λx hx=>hs x (by simp [Op.operands,Call.operands];right;simpa using hx);simp only[pop,i,Da f,ET f]
  | builtin b=>
   have f:∀x,x∈args.toList->ev env x=ev env' x:=λx hx=>hs x (by simp [Op.operands,Call.operands];simpa using hx);cases b with
   | append=>
    simp only[pop];split
    ·rename_i s x t o ha q;rw[f s (by rw[ha];simp),f x (by rw[ha];simp)]
    ·rfl
   | len=>(simp only[pop];exact n8 _ hs)
   | _=>rfl
  | _=>rfl
 | _=>(simp only[pop];exact n8 _ hs)
section
variable {P:Program}{T:ij}
def fs (P:Program) (T:ij) (all:List Oper) (st:Bool) (o:Oper) (G:PV->List au->Prop) (env:Env) (h:List au):Prop:=
 match o.guard with
 | none=>rY P T st o.op env h G
 | some (j,want)=>match(all[j]?).bind (·.dst)with
  | some t=>match env t with
   | .bool b=>match b==want with
    | true=>rY P T st o.op env h G
    | false=>G (.db []) h
   | .db []=>G (.db []) h
   | _=>False
  | none=>False
theorem qe {env:Env} {t:Nat} {v:PV} (h:env t=v):jh env t v=env:=by
 funext j;unfold jh;cases hb:Nat.beq j t with
 | true=>rw[No hb,<-h];rfl
 | false=>rfl
theorem te {st:Bool} {op:Op} {env:Env} {h:List au} {G a:PV->List au->Prop} (hk:∀v h',G v h'->a v h') (hp:rY P T st op env h G):rY P T st op env h a:=by
 cases st with
 | true=>exact j8 (λv=>hk v h) hp
 | false=>exact C9 hk _ hp
theorem bT {all:List Oper} {st:Bool} {o:Oper} {env:Env} {h:List au} {G e:PV->List au->Prop} (hk:∀v h',G v h'->e v h') (hp:fs P T all st o G env h):fs P T all st o e env h:=by
 unfold fs at hp ⊢;generalize o.guard=g at hp ⊢;cases g with
 | none=>exact te hk hp
 | some q=>
  obtain⟨j,want⟩:=q;simp only at hp ⊢;generalize(all[j]?).bind (·.dst)=d at hp ⊢;cases d with
  | none=>exact hp
  | some t=>
   simp only at hp ⊢;generalize env t=v at hp ⊢;cases v with
   | bool b=>
    simp only at hp ⊢;generalize(b==want)=c at hp ⊢;cases c with
    | true=>exact te hk hp
    | false=>exact hk _ _ hp
   | db l=>cases l with
    | nil=>exact hk _ _ hp
    | cons a r=>exact hp
   | _=>exact hp
theorem fY {all:List Oper} {st:Bool} {o:Oper} {F:Env->PV->List au->Prop} {env:Env} {h:List au} (hp:jv P T all st o F env h):fs P T all st o (F env) env h:=by
 unfold jv at hp;unfold fs;generalize o.guard=g at hp ⊢;cases g with
 | none=>exact hp
 | some q=>
  obtain⟨j,want⟩:=q;simp only at hp ⊢;generalize(all[j]?).bind (·.dst)=d at hp ⊢;cases d with
  | none=>exact hp
  | some t=>
   simp only at hp ⊢;generalize hv:env t=v at hp ⊢;cases v with
   | bool b=>
    simp only at hp ⊢;obtain⟨h1,h2⟩:=eM hp;cases b with
    | true=>
     have h1:=h1 rfl;rw[qe hv]at h1;cases want<;>exact h1
    | false=>
     have h2:=h2 rfl;rw[qe hv]at h2;cases want<;>exact h2
   | db l=>cases l with
    | nil=>exact hp
    | cons a r=>exact hp
   | _=>exact hp
theorem lT {env env':Env} {o:Oper} {ops:Array Oper} (a:∀t,t∈o.looksAt ops->env t=env' t):xW env env' o.op:=λx hx=>by
 cases x with
 | tmp t=>exact a t (by unfold Oper.looksAt;rw[Sw];left;rw[List.mem_filterMap];exact⟨_,hx,rfl⟩)
 | _=>rfl
theorem kB {env env':Env} {o:Oper} {ops:Array Oper} (b:∀t,t∈o.looksAt ops->env t=env' t) {j:Nat} {w:Bool} (hg:o.guard=some (j,w)) {t:Nat} (a:(ops.toList[j]?).bind (·.dst)=some t):env t=env' t:=
 b t (by
  unfold Oper.looksAt;rw[Sw,hg];right;have:ops.toList[j]? =ops[j]?:=by simp
  rw[this]at a;show t∈((ops[j]?).bind (·.dst)).toList;rw[a];simp)
theorem x5 {ops:Array Oper} {st:Bool} {o:Oper} {G:PV->List au->Prop} {env env':Env} {h:List au} (a:∀t,t∈o.looksAt ops->env t=env' t) (hp:fs P T ops.toList st o G env h):fs P T ops.toList st o G env' h:=by
 have b:rY P T st o.op env h G=rY P T st o.op env' h G:=by
  cases st with
  | true=>exact n8 _ (lT a)
  | false=>exact EU _ (lT a)
 unfold fs at hp ⊢;cases hg:o.guard with
 | none=>rw[hg]at hp;simp only at hp ⊢;rw[<-b];exact hp
 | some q=>
  obtain⟨j,want⟩:=q;rw[hg]at hp;simp only at hp ⊢;cases hd:(ops.toList[j]?).bind (·.dst)with
  | none=>rw[hd]at hp;exact hp
  | some t=>
   rw[hd]at hp;simp only at hp ⊢;rw[<-kB a hg hd,<-b];exact hp
theorem n9 {α β:Type} {f g:α->List β}:∀(l:List α),(∀x,x∈l->f x=g x)->l.flatMap f=l.flatMap g
 | [],_=>rfl
 | a::r,h=>by rw[List.flatMap_cons,List.flatMap_cons,h a UQ,n9 r (λx hx=>h x (SG _ hx))]
theorem rD (env:Env) (op:Op):(∃x,op=.move x)\/eE env op=op.operands.toList.flatMap (λx=>kJ (ev env x)):=by
 cases op<;>first | exact .inl ⟨_,rfl⟩ | exact .inr rfl
theorem x6 {T:ij} {env:Env} {h h':List au} {K:PV->Prop} {op:Op} (hi:∀id,id∈eE env op->bG h id=bG h' id):bB T op env h K=bB T op env h' K:=by
 rcases rD env op with⟨x,rfl⟩ | e
 ·rfl
 ·exact Af op (λx hx id hid=>hi id (by rw[e,List.mem_flatMap];exact⟨x,hx,hid⟩))
theorem mQ {env env':Env} {op:Op} (hs:∀x,x∈op.operands.toList->ev env x=ev env' x):eE env' op=eE env op:=by
 rcases rD env op with⟨x,rfl⟩ | e
 ·rfl
 ·rcases rD env' op with⟨x,rfl⟩ | a
  ·rfl
  ·rw[e,a];exact n9 _ (λx hx=>by rw[hs x hx])
theorem oY {ops:Array Oper} {o:Oper} {G:PV->List au->Prop} {env:Env} {h:List au} (hp:fs P T ops.toList true o G env h):
  ∃v,G v h/\∀(env':Env) (h':List au) (c:PV->List au->Prop),(∀t,t∈o.looksAt ops->env t=env' t)->(∀id,id∈eE env o.op->bG h id=bG h' id)->c v h'->fs P T ops.toList true o c env' h':=by
 have run:bB T o.op env h (λv=>G v h)->∃v,G v h/\∀(env':Env) (h':List au) (c:PV->List au->Prop),(∀t,t∈o.looksAt ops->env t=env' t)->(∀id,id∈eE env o.op->bG h id=bG h' id)->c v h'->bB T o.op env' h' (λv=>c v h'):=λhs=>by
  obtain⟨v,h1,h2⟩:=wb T o.op env h _ hs;refine⟨v,h1,λenv' h' c d hi hg=>?_⟩;rw[<-n8 o.op (lT d),<-x6 (op:=o.op) hi];exact h2 _ hg
 unfold fs at hp;cases hg:o.guard with
 | none=>
  rw[hg]at hp;obtain⟨v,h1,h2⟩:=run hp;refine⟨v,h1,λenv' h' c d hi hk=>?_⟩;unfold fs;rw[hg];exact h2 env' h' c d hi hk
 | some q=>
  obtain⟨j,want⟩:=q;rw[hg]at hp;simp only at hp;cases hd:(ops.toList[j]?).bind (·.dst)with
  | none=>rw[hd]at hp;exact hp.elim
  | some t=>
   rw[hd]at hp;simp only at hp;cases hv:env t with
   | bool b=>
    rw[hv]at hp;simp only at hp;cases hc:(b==want)with
    | true=>
     rw[hc]at hp;obtain⟨v,h1,h2⟩:=run hp;refine⟨v,h1,λenv' h' c d hi hk=>?_⟩;unfold fs;rw[hg];simp only;rw[hd];simp only;rw[<-kB d hg hd,hv];simp only;rw[hc];exact h2 env' h' c d hi hk
    | false=>
     rw[hc]at hp;refine⟨_,hp,λenv' h' c d hi hk=>?_⟩;unfold fs;rw[hg];simp only;rw[hd];simp only;rw[<-kB d hg hd,hv];simp only;rw[hc];exact hk
   | db l=>
    rw[hv]at hp;cases l with
    | nil=>
     refine⟨_,hp,λenv' h' c d hi hk=>?_⟩;unfold fs;rw[hg];simp only;rw[hd];simp only;rw[<-kB d hg hd,hv];exact hk
    | cons a r=>exact hp.elim
   | _=>rw[hv]at hp;exact hp.elim
def rl (P:Program) (T:ij) (all:List Oper) (t:List (Nat×List Nat)) (K:Env->List au->Prop):List (Nat×Bool)->List (Nat×List Nat)->Env->List au->Prop
 | [],_,env,h=>K env h
 | (i,st)::r,a,env,h=>∃o,all[i]? =some o/\fs P T all st o (λv h'=>match st with
   | true=>rl P T all t K r ((i,eE env o.op)::a) (bV env o.dst v) h'
   | false=>(∀j ids,(j,ids)∈a->eH (bK t i) j=false->∀id,id∈ids->bG h id=bG h' id)/\rl P T all t K r a (bV env o.dst v) h') env h
theorem oa {h h':List au} {K:Prop}:∀(ids:List Nat),uz h h' K ids->(∀id,id∈ids->bG h id=bG h' id)/\K
 | [],hk=>⟨λid hid=>by simp at hid,hk⟩
 | a::r,hk=>by
  obtain⟨h1,h2⟩:=oa r hk.2;refine⟨λid hid=>?_,h2⟩;simp only[SB]at hid;rcases hid with rfl | hid
  ·exact hk.1
  ·exact h1 id hid
theorem gC {c:List Nat} {h h':List au} {K:Prop}:∀(d:List (Nat×List Nat)),gT c h h' K d->(∀j ids,(j,ids)∈d->eH c j=false->∀id,id∈ids->bG h id=bG h' id)/\K
 | [],hk=>⟨λj ids hj=>by simp at hj,hk⟩
 | (a,l)::r,hk=>by
  unfold gT at hk;cases ha:eH c a with
  | true=>
   rw[ha]at hk;obtain⟨h1,h2⟩:=gC r hk;refine⟨λj ids hj b=>?_,h2⟩;simp only[SB]at hj;rcases hj with hj | hj
   ·injection hj with e f;subst e;rw[ha]at b;cases b
   ·exact h1 j ids hj b
  | false=>
   rw[ha]at hk;obtain⟨q1,q2⟩:=oa l hk;obtain⟨h1,h2⟩:=gC r q2;refine⟨λj ids hj b=>?_,h2⟩;simp only[SB]at hj;rcases hj with hj | hj
   ·injection hj with e f;subst f;exact q1
   ·exact h1 j ids hj b
theorem ef {all:List Oper} {t:List (Nat×List Nat)} {K:Env->List au->Prop}:∀(l:List (Nat×Bool)) (a:List (Nat×List Nat)) (env:Env) (h:List au),fw P T all t K l a env h->rl P T all t K l a env h
 | [],_,_,_,hp=>hp
 | (i,true)::r,a,env,h,hp=>by
  have hp:(match all[i]? with
   | some o=>jv P T all true o (λenv' v h'=>fw P T all t K r ((i,eE env' o.op)::a) (bV env' o.dst v) h') env h
   | none=>False):=hp
  cases b:all[i]? with
  | none=>rw[b]at hp;exact hp.elim
  | some o=>
   rw[b]at hp;exact⟨o,b,bT (λv h' hk=>ef r _ _ _ hk) (fY hp)⟩
 | (i,false)::r,a,env,h,hp=>by
  have hp:(match all[i]? with
   | some o=>jv P T all false o (λenv' v h'=>gT (bK t i) h h' (fw P T all t K r a (bV env' o.dst v) h') a) env h
   | none=>False):=hp
  cases b:all[i]? with
  | none=>rw[b]at hp;exact hp.elim
  | some o=>
   rw[b]at hp;refine⟨o,b,bT (λv h' hk=>?_) (fY hp)⟩;obtain⟨h1,h2⟩:=gC _ hk;exact⟨h1,ef r _ _ _ h2⟩
theorem j9 {all:List Oper} {t:List (Nat×List Nat)} {K:Env->List au->Prop}:∀(l:List (Nat×Bool)) (a b:List (Nat×List Nat)) (env:Env) (h:List au),(∀x,x∈b->x∈a)->rl P T all t K l a env h->rl P T all t K l b env h
 | [],_,_,_,_,_,hp=>hp
 | (i,st)::r,a,b,env,h,hs,hp=>by
  obtain⟨o,c,hp⟩:=hp;refine⟨o,c,bT (λv h' hk=>?_) hp⟩;cases st with
  | true=>exact j9 r _ _ _ _ (λx hx=>by simp only[SB]at hx ⊢;exact hx.imp id (hs x)) hk
  | false=>exact⟨λj ids hj=>hk.1 j ids (hs _ hj),j9 r _ _ _ _ hs hk.2⟩
theorem oZ {env:Env} {d e:Option Nat} {u v:PV} (a:∀x,d=some x->e≠some x):bV (bV env d u) e v=bV (bV env e v) d u:=by
 cases d with
 | none=>rfl
 | some x=>
  cases e with
  | none=>rfl
  | some y=>
   have b:x≠y:=λhe=>a x rfl (by rw[he]);funext j;simp only[bV,jh];cases h1:Nat.beq j y with
   | true=>
    have:=No h1;subst this;cases h2:Nat.beq j x with
    | true=>exact absurd (No h2).symm b
    | false=>rfl
   | false=>cases h2:Nat.beq j x<;>rfl
theorem iC {env:Env} {d:Option Nat} {v:PV} {l:List Nat} (a:∀x,d=some x->x∉l):∀t,t∈l->env t=bV env d v t:=λt b=>by
 cases d with
 | none=>rfl
 | some x=>
  have:t≠x:=λhe=>a x rfl (he▸b);simp only[bV,jh];cases h2:Nat.beq t x with
  | true=>exact absurd (No h2) this
  | false=>rfl
theorem nY {ops:Array Oper} {t:List (Nat×List Nat)} {K:Env->List au->Prop} {i:Nat} {st:Bool} {b:Oper} (mU:ops.toList[i]? =some b):
  ∀(e f:List (Nat×Bool)) (g:List (Nat×List Nat)) (env:Env) (h:List au),(∀p,p∈e->p.2=true/\eH (bK t i) p.1=false/\jt ops p.1 i=true)->rl P T ops.toList t K (e++(i,st)::f) g env h->
   fs P T ops.toList st b (λv h'=>(st=true->h'=h)/\(st=false->∀j ids,(j,ids)∈g->eH (bK t i) j=false->∀id,id∈ids->bG h id=bG h' id)/\rl P T ops.toList t K (e++f) g (bV env b.dst v) h') env h
 | [],f,g,env,h,_,hp=>by
  obtain⟨o,c,hp⟩:=hp;rw[mU]at c;injection c with c;subst c;cases st with
  | true=>
   obtain⟨v,h1,h2⟩:=oY hp;exact h2 env h _ (λ_ _=>rfl) (λ_ _=>rfl) ⟨λ_=>rfl,λhc=>Bool.noConfusion hc,j9 _ _ _ _ _ (λx hx=>SG _ hx) h1⟩
  | false=>exact bT (λv h' hk=>⟨λhc=>Bool.noConfusion hc,λ_=>hk.1,hk.2⟩) hp
 | (a,n)::e,f,g,env,h,l,hp=>by
  obtain⟨h1,h2,k⟩:=l (a,n) UQ;simp only at h1 h2 k;subst h1;obtain⟨o,c,hp⟩:=hp
  have q:Oper.apart ops o b=true:=by
   unfold jt at k;have r:ops[a]? =some o:=by simpa using c
   have s:ops[i]? =some b:=by simpa using mU
   rw[r,s]at k;exact k
  obtain⟨w,y,z⟩:=Oper.apart_spec q;obtain⟨u,A,B⟩:=oY hp;have C:=nY mU e f _ _ h (λp hp=>l p (SG _ hp)) A;have D:=x5 (env':=env) (λx hx=>(iC (λd hd=>w d hd) x hx).symm) C;refine bT (λv h' hk=>⟨hk.1,λhc j ids hj=>hk.2.1 hc j ids (SG _ hj),?_⟩) D
  have E:∀id,id∈eE env o.op->bG h id=bG h' id:=λid hid=>by
   cases st with
   | true=>rw[hk.1 rfl]
   | false=>exact hk.2.1 rfl a _ UQ h2 id hid
  have m:∀x,x∈o.looksAt ops->env x=bV env b.dst v x:=iC (λd hd=>z d hd);refine⟨o,c,B _ h' _ m E ?_⟩
  have F:eE (bV env b.dst v) o.op=eE env o.op:=by
   exact mQ (lT m)
  simp only;rw[F,oZ (λx hx=>(λhe=>y x he hx):∀x,b.dst=some x->o.dst≠some x)];exact hk.2.2
def oV (P:Program) (T:ij) (all:List Oper) (t:List (Nat×List Nat)) (A0 B0:List (Nat×Bool)) (K:Env->List au->Prop):List (Nat×Bool)->List (Nat×List Nat)->Env->List au->Prop
 | [],a,env,h=>rl P T all t K A0 a env h/\rl P T all t K B0 a env h
 | (i,st)::r,a,env,h=>∃o,all[i]? =some o/\fs P T all st o (λv h'=>match st with
   | true=>oV P T all t A0 B0 K r ((i,eE env o.op)::a) (bV env o.dst v) h'
   | false=>(∀j ids,(j,ids)∈a->eH (bK t i) j=false->∀id,id∈ids->bG h id=bG h' id)/\oV P T all t A0 B0 K r a (bV env o.dst v) h') env h
theorem lA {all:List Oper} {t:List (Nat×List Nat)} {A0 B0:List (Nat×Bool)} {K:Env->List au->Prop}:∀(l:List (Nat×Bool)) (a:List (Nat×List Nat)) (env:Env) (h:List au),L6 P T all t A0 B0 K l a env h->oV P T all t A0 B0 K l a env h
 | [],_,_,_,hp=>⟨ef _ _ _ _ hp.1,ef _ _ _ _ hp.2⟩
 | (i,true)::r,a,env,h,hp=>by
  have hp:(match all[i]? with
   | some o=>jv P T all true o (λenv' v h'=>L6 P T all t A0 B0 K r ((i,eE env' o.op)::a) (bV env' o.dst v) h') env h
   | none=>False):=hp
  cases b:all[i]? with
  | none=>rw[b]at hp;exact hp.elim
  | some o=>
   rw[b]at hp;exact⟨o,b,bT (λv h' hk=>lA r _ _ _ hk) (fY hp)⟩
 | (i,false)::r,a,env,h,hp=>by
  have hp:(match all[i]? with
   | some o=>jv P T all false o (λenv' v h'=>gT (bK t i) h h' (L6 P T all t A0 B0 K r a (bV env' o.dst v) h') a) env h
   | none=>False):=hp
  cases b:all[i]? with
  | none=>rw[b]at hp;exact hp.elim
  | some o=>
   rw[b]at hp;refine⟨o,b,bT (λv h' hk=>?_) (fY hp)⟩;obtain⟨h1,h2⟩:=gC _ hk;exact⟨h1,lA r _ _ _ h2⟩
theorem o8 {all:List Oper} {t:List (Nat×List Nat)} {A0 B0:List (Nat×Bool)} {K:Env->List au->Prop}:∀(l:List (Nat×Bool)) (a b:List (Nat×List Nat)) (env:Env) (h:List au),(∀x,x∈b->x∈a)->oV P T all t A0 B0 K l a env h->oV P T all t A0 B0 K l b env h
 | [],a,b,_,_,hs,hp=>⟨j9 _ a b _ _ hs hp.1,j9 _ a b _ _ hs hp.2⟩
 | (i,st)::r,a,b,env,h,hs,hp=>by
  obtain⟨o,c,hp⟩:=hp;refine⟨o,c,bT (λv h' hk=>?_) hp⟩;cases st with
  | true=>exact o8 r _ _ _ _ (λx hx=>by simp only[SB]at hx ⊢;exact hx.imp id (hs x)) hk
  | false=>exact⟨λj ids hj=>hk.1 j ids (hs _ hj),o8 r _ _ _ _ hs hk.2⟩
theorem s7 {ops:Array Oper} {t:List (Nat×List Nat)} {A0 B0:List (Nat×Bool)} {K:Env->List au->Prop} {i:Nat} {st:Bool} {b:Oper} (mU:ops.toList[i]? =some b):
  ∀(e f:List (Nat×Bool)) (g:List (Nat×List Nat)) (env:Env) (h:List au),(∀p,p∈e->p.2=true/\eH (bK t i) p.1=false/\jt ops p.1 i=true)->oV P T ops.toList t A0 B0 K (e++(i,st)::f) g env h->
   fs P T ops.toList st b (λv h'=>(st=true->h'=h)/\(st=false->∀j ids,(j,ids)∈g->eH (bK t i) j=false->∀id,id∈ids->bG h id=bG h' id)/\oV P T ops.toList t A0 B0 K (e++f) g (bV env b.dst v) h') env h
 | [],f,g,env,h,_,hp=>by
  obtain⟨o,c,hp⟩:=hp;rw[mU]at c;injection c with c;subst c;cases st with
  | true=>
   obtain⟨v,h1,h2⟩:=oY hp;exact h2 env h _ (λ_ _=>rfl) (λ_ _=>rfl) ⟨λ_=>rfl,λhc=>Bool.noConfusion hc,o8 _ _ _ _ _ (λx hx=>SG _ hx) h1⟩
  | false=>exact bT (λv h' hk=>⟨λhc=>Bool.noConfusion hc,λ_=>hk.1,hk.2⟩) hp
 | (a,n)::e,f,g,env,h,l,hp=>by
  obtain⟨h1,h2,k⟩:=l (a,n) UQ;simp only at h1 h2 k;subst h1;obtain⟨o,c,hp⟩:=hp
  have q:Oper.apart ops o b=true:=by
   unfold jt at k;have r:ops[a]? =some o:=by simpa using c
   have s:ops[i]? =some b:=by simpa using mU
   rw[r,s]at k;exact k
  obtain⟨w,y,z⟩:=Oper.apart_spec q;obtain⟨u,A,B⟩:=oY hp;have C:=s7 mU e f _ _ h (λp hp=>l p (SG _ hp)) A;have D:=x5 (env':=env) (λx hx=>(iC (λd hd=>w d hd) x hx).symm) C;refine bT (λv h' hk=>⟨hk.1,λhc j ids hj=>hk.2.1 hc j ids (SG _ hj),?_⟩) D
  have E:∀id,id∈eE env o.op->bG h id=bG h' id:=λid hid=>by
   cases st with
   | true=>rw[hk.1 rfl]
   | false=>exact hk.2.1 rfl a _ UQ h2 id hid
  have m:∀x,x∈o.looksAt ops->env x=bV env b.dst v x:=iC (λd hd=>z d hd);refine⟨o,c,B _ h' _ m E ?_⟩
  have F:eE (bV env b.dst v) o.op=eE env o.op:=by
   exact mQ (lT m)
  simp only;rw[F,oZ (λx hx=>(λhe=>y x he hx):∀x,b.dst=some x->o.dst≠some x)];exact hk.2.2
theorem xQ {all:List Oper} {t:List (Nat×List Nat)} {A0 B0:List (Nat×Bool)} {K:Env->List au->Prop}:∀(l:List (Nat×Bool)) (a:List (Nat×List Nat)) (env:Env) (h:List au),oV P T all t A0 B0 K l a env h->rl P T all t K (l++A0) a env h
 | [],_,_,_,hp=>hp.1
 | (i,st)::r,a,env,h,hp=>by
  obtain⟨o,b,hp⟩:=hp;refine⟨o,b,bT (λv h' hk=>?_) hp⟩;cases st with
  | true=>exact xQ r _ _ _ hk
  | false=>exact⟨hk.1,xQ r _ _ _ hk.2⟩
theorem xR {all:List Oper} {t:List (Nat×List Nat)} {A0 B0:List (Nat×Bool)} {K:Env->List au->Prop}:∀(l:List (Nat×Bool)) (a:List (Nat×List Nat)) (env:Env) (h:List au),oV P T all t A0 B0 K l a env h->rl P T all t K (l++B0) a env h
 | [],_,_,_,hp=>hp.2
 | (i,st)::r,a,env,h,hp=>by
  obtain⟨o,b,hp⟩:=hp;refine⟨o,b,bT (λv h' hk=>?_) hp⟩;cases st with
  | true=>exact xR r _ _ _ hk
  | false=>exact⟨hk.1,xR r _ _ _ hk.2⟩
def gf (P:Program) (T:ij) (all:List Oper) (t:List (Nat×List Nat)) (E:List (Nat×List Nat)->Env->List au->Prop):List (Nat×Bool)->List (Nat×List Nat)->Env->List au->Prop
 | [],a,env,h=>E a env h
 | (i,st)::r,a,env,h=>∃o,all[i]? =some o/\fs P T all st o (λv h'=>match st with
   | true=>gf P T all t E r ((i,eE env o.op)::a) (bV env o.dst v) h'
   | false=>(∀j ids,(j,ids)∈a->eH (bK t i) j=false->∀id,id∈ids->bG h id=bG h' id)/\gf P T all t E r a (bV env o.dst v) h') env h
def kI (E:List (Nat×List Nat)->Env->List au->Prop):Prop:=∀(a b:List (Nat×List Nat)) (env:Env) (h:List au),(∀x,x∈b->x∈a)->E a env h->E b env h
theorem lU {all:List Oper} {t:List (Nat×List Nat)} {E:List (Nat×List Nat)->Env->List au->Prop} (c:kI E):∀(l:List (Nat×Bool)) (a b:List (Nat×List Nat)) (env:Env) (h:List au),(∀x,x∈b->x∈a)->gf P T all t E l a env h->gf P T all t E l b env h
 | [],a,b,_,_,hs,hp=>c a b _ _ hs hp
 | (i,st)::r,a,b,env,h,hs,hp=>by
  obtain⟨o,d,hp⟩:=hp;refine⟨o,d,bT (λv h' hk=>?_) hp⟩;cases st with
  | true=>exact lU c r _ _ _ _ (λx hx=>by simp only[SB]at hx ⊢;exact hx.imp id (hs x)) hk
  | false=>exact⟨λj ids hj=>hk.1 j ids (hs _ hj),lU c r _ _ _ _ hs hk.2⟩
theorem lQ {ops:Array Oper} {t:List (Nat×List Nat)} {E:List (Nat×List Nat)->Env->List au->Prop} (l:kI E) {i:Nat} {st:Bool} {b:Oper} (mU:ops.toList[i]? =some b):
  ∀(e f:List (Nat×Bool)) (g:List (Nat×List Nat)) (env:Env) (h:List au),(∀p,p∈e->p.2=true/\eH (bK t i) p.1=false/\jt ops p.1 i=true)->gf P T ops.toList t E (e++(i,st)::f) g env h->
   fs P T ops.toList st b (λv h'=>(st=true->h'=h)/\(st=false->∀j ids,(j,ids)∈g->eH (bK t i) j=false->∀id,id∈ids->bG h id=bG h' id)/\gf P T ops.toList t E (e++f) g (bV env b.dst v) h') env h
 | [],f,g,env,h,_,hp=>by
  obtain⟨o,c,hp⟩:=hp;rw[mU]at c;injection c with c;subst c;cases st with
  | true=>
   obtain⟨v,h1,h2⟩:=oY hp;exact h2 env h _ (λ_ _=>rfl) (λ_ _=>rfl) ⟨λ_=>rfl,λhc=>Bool.noConfusion hc,lU l _ _ _ _ _ (λx hx=>SG _ hx) h1⟩
  | false=>exact bT (λv h' hk=>⟨λhc=>Bool.noConfusion hc,λ_=>hk.1,hk.2⟩) hp
 | (a,q)::e,f,g,env,h,m,hp=>by
  obtain⟨h1,h2,k⟩:=m (a,q) UQ;simp only at h1 h2 k;subst h1;obtain⟨o,c,hp⟩:=hp
  have r:Oper.apart ops o b=true:=by
   unfold jt at k;have s:ops[a]? =some o:=by simpa using c
   have w:ops[i]? =some b:=by simpa using mU
   rw[s,w]at k;exact k
  obtain⟨y,z,A⟩:=Oper.apart_spec r;obtain⟨u,B,C⟩:=oY hp;have D:=lQ l mU e f _ _ h (λp hp=>m p (SG _ hp)) B;have F:=x5 (env':=env) (λx hx=>(iC (λd hd=>y d hd) x hx).symm) D;refine bT (λv h' hk=>⟨hk.1,λhc j ids hj=>hk.2.1 hc j ids (SG _ hj),?_⟩) F
  have G:∀id,id∈eE env o.op->bG h id=bG h' id:=λid hid=>by
   cases st with
   | true=>rw[hk.1 rfl]
   | false=>exact hk.2.1 rfl a _ UQ h2 id hid
  have n:∀x,x∈o.looksAt ops->env x=bV env b.dst v x:=iC (λd hd=>A d hd);refine⟨o,c,C _ h' _ n G ?_⟩
  have H:eE (bV env b.dst v) o.op=eE env o.op:=by
   exact mQ (lT n)
  simp only;rw[H,oZ (λx hx=>(λhe=>z x he hx):∀x,b.dst=some x->o.dst≠some x)];exact hk.2.2
theorem lz {all:List Oper} {t:List (Nat×List Nat)} {E:List (Nat×List Nat)->Env->List au->Prop} {b:List (Nat×Bool)}:∀(l:List (Nat×Bool)) (a:List (Nat×List Nat)) (env:Env) (h:List au),gf P T all t (λa env h=>gf P T all t E b a env h) l a env h->gf P T all t E (l++b) a env h
 | [],_,_,_,hp=>hp
 | (i,st)::r,a,env,h,hp=>by
  obtain⟨o,c,hp⟩:=hp;refine⟨o,c,bT (λv h' hk=>?_) hp⟩;cases st with
  | true=>exact lz r _ _ _ hk
  | false=>exact⟨hk.1,lz r _ _ _ hk.2⟩
theorem n7 {all:List Oper} {t:List (Nat×List Nat)} {E b:List (Nat×List Nat)->Env->List au->Prop} (hi:∀a env h,E a env h->b a env h):∀(l:List (Nat×Bool)) (a:List (Nat×List Nat)) (env:Env) (h:List au),gf P T all t E l a env h->gf P T all t b l a env h
 | [],_,_,_,hp=>hi _ _ _ hp
 | (i,st)::r,a,env,h,hp=>by
  obtain⟨o,c,hp⟩:=hp;refine⟨o,c,bT (λv h' hk=>?_) hp⟩;cases st with
  | true=>exact n7 hi r _ _ _ hk
  | false=>exact⟨hk.1,n7 hi r _ _ _ hk.2⟩
theorem ly {all:List Oper} {t:List (Nat×List Nat)} {K:Env->List au->Prop} {b:List (Nat×Bool)}:∀(l:List (Nat×Bool)) (a:List (Nat×List Nat)) (env:Env) (h:List au),gf P T all t (λa env h=>rl P T all t K b a env h) l a env h->rl P T all t K (l++b) a env h
 | [],_,_,_,hp=>hp
 | (i,st)::r,a,env,h,hp=>by
  obtain⟨o,c,hp⟩:=hp;refine⟨o,c,bT (λv h' hk=>?_) hp⟩;cases st with
  | true=>exact ly r _ _ _ hk
  | false=>exact⟨hk.1,ly r _ _ _ hk.2⟩
theorem fX {all:List Oper} {t:List (Nat×List Nat)} {E c:List (Nat×List Nat)->Env->List au->Prop} (hi:∀a env h,E a env h->c a env h):∀(l:List (Nat×Bool)) (a:List (Nat×List Nat)) (env:Env) (h:List au),Iz P T all t E l a env h->gf P T all t c l a env h
 | [],_,_,_,hp=>hi _ _ _ hp
 | (i,true)::r,a,env,h,hp=>by
  have hp:(match all[i]? with
   | some o=>jv P T all true o (λenv' v h'=>Iz P T all t E r ((i,eE env' o.op)::a) (bV env' o.dst v) h') env h
   | none=>False):=hp
  cases b:all[i]? with
  | none=>rw[b]at hp;exact hp.elim
  | some o=>
   rw[b]at hp;exact⟨o,b,bT (λv h' hk=>fX hi r _ _ _ hk) (fY hp)⟩
 | (i,false)::r,a,env,h,hp=>by
  have hp:(match all[i]? with
   | some o=>jv P T all false o (λenv' v h'=>gT (bK t i) h h' (Iz P T all t E r a (bV env' o.dst v) h') a) env h
   | none=>False):=hp
  cases b:all[i]? with
  | none=>rw[b]at hp;exact hp.elim
  | some o=>
   rw[b]at hp;refine⟨o,b,bT (λv h' hk=>?_) (fY hp)⟩;obtain⟨h1,h2⟩:=gC _ hk;exact⟨h1,fX hi r _ _ _ h2⟩
theorem fW {all:List Oper} {t:List (Nat×List Nat)} {K:Env->List au->Prop} (l:List (Nat×Bool)):kI (λa env h=>rl P T all t K l a env h):=λa b env h hs hp=>j9 l a b env h hs hp
theorem eR {all:List Oper} {t:List (Nat×List Nat)} {E:List (Nat×List Nat)->Env->List au->Prop} (b:kI E) (l:List (Nat×Bool)):kI (λa env h=>gf P T all t E l a env h):=λa c env h hs hp=>lU b l a c env h hs hp
theorem oW {E b:List (Nat×List Nat)->Env->List au->Prop} (h1:kI E) (h2:kI b):kI (λa env h=>E a env h/\b a env h):=λa c env h hs hp=>⟨h1 a c env h hs hp.1,h2 a c env h hs hp.2⟩
end
theorem aI.mono {S S':Nat->Prop} {w w':World} (hw:∀b,S b->w'.heap[b]? =w.heap[b]?) (g:∀b,S b->S' b) {pv:PV} {v:Value} (h:aI S w pv v):aI S' w' pv v:=by
 induction h with
 | int k n=>exact .int k n
 | bool b=>exact .bool b
 | str s=>exact .str s
 | aD=>exact .aD
 | dx=>exact .dx
 | fn f=>exact .fn f
 | iq sz f a c=>exact .iq sz f a c
 | cP sz n f b off c d h1 h2 l h4 _ e=>
  exact .cP sz n f b off c d (g b h1) h2 l (λi j pv hi hj=>(World.cell?_of_block (w:=w) (hw b h1)).trans (h4 i j pv hi hj)) e
 | cN cs b off d h1 h4 _ e=>
  exact .cN cs b off d (g b h1) (λj pv hj=>(World.cell?_of_block (w:=w) (hw b h1)).trans (h4 j pv hj)) e
theorem dZ.of_same {w w':World} {b k:Nat} (h:w'.heap[b]? =w.heap[b]?) (hc:dZ w b k):dZ w' b k:=by
 obtain⟨cur,e,z,h1,h2⟩:=hc;exact⟨cur,e,z,h.trans h1,h2⟩
theorem dZ.least {w:World} {b k:Nat} (h:dZ w b k):dZ w b 0:=by
 obtain⟨cur,e,z,h1,h2⟩:=h;exact⟨cur,e,z,h1,TQ _⟩
theorem fK.mono {S S':Nat->Prop} {w w':World} (hw:∀b,S b->w'.heap[b]? =w.heap[b]?) (r:∀b,S b->S' b) {pv:PV} {v:Value} (h:fK S w pv v):
  (∀sz n e f F,pv=.aG sz n e f F->∀b,F b->w'.heap[b]? =w.heap[b]?)->fK S' w' pv v:=by
 induction h with
 | nil sz e f F d=>exactλ_=>.nil sz e f F d
 | vS sz n e f F b off c a cur s d hb hlen hc ha cr t u B g x y=>
  intro hk;have hk:=hk _ _ _ _ _ rfl
  exact .vS sz n e f F b off c a cur s d ((hk b d).trans hb) hlen hc ha cr t (λi j pv hi hj=>(u i j pv hi hj).imp_left (λq=>q.mono hw r))
   (λi j k l m o z hi hj=>y i j k l m o z hi hj (λ_ _ _ _ _ he p A=>by
    injection he with _ _ _ _ he;subst he;exact hk p (g i j k l m o _ hi hj p A).1)) g x
inductive OG (G:PV->Prop):PV->Prop
 | mk (sz n:Nat) (e:TypeId) (f:Nat->List PV) (F:Nat->Prop) (h1:∀(i j:Nat) (pv:PV),i<n->(f i)[j]? =some pv->cg pv=false->G pv)
   (h2:∀(i j a8 n':Nat) (e':TypeId) (f':Nat->List PV) (F':Nat->Prop),i<n->(f i)[j]? =some (.aG a8 n' e' f' F')->OG G (.aG a8 n' e' f' F')):OG G (.aG sz n e f F)
theorem fK.og {S S':Nat->Prop} {w:World} {G:PV->Prop} (p:∀pv v,G pv->aI S w pv v->aI S' w pv v) {pv:PV} {v:Value} (h:fK S w pv v):OG G pv->fK S' w pv v:=by
 induction h with
 | nil sz e f F d=>exactλ_=>.nil sz e f F d
 | vS sz n e f F b off c a cur r d hb hlen hc ha cr s t z u x y=>
  intro hg;cases hg with
  | mk _ _ _ _ _ h1 h2=>
   exact .vS sz n e f F b off c a cur r d hb hlen hc ha cr s (λi j pv hi hj=>by
    cases hx:cg pv with
    | false=>exact(t i j pv hi hj).imp_left (λq=>p pv _ (h1 i j pv hi hj hx) q)
    | true=>exact .inr (by cases pv<;>first | exact⟨_,_,_,_,_,rfl⟩ | cases hx)) (λi j g k l m o hi hj=>y i j g k l m o hi hj (h2 i j g k l m o hi hj)) u x
theorem fK.all {S:Nat->Prop} {w:World} {pv:PV} {v:Value} (h:fK S w pv v):OG (λ_=>True) pv:=by
 induction h with
 | nil sz e f F d=>exact .mk sz 0 e f F (λ_ _ _ _ _ _=>trivial) (λi j _ _ _ _ _ hi=>absurd hi (S6 _))
 | vS sz n e f F b off c a cur k d hb hlen hc ha cr l m o p q g=>exact .mk sz n e f F (λ_ _ _ _ _ _=>trivial) g
theorem fK.one {S:Nat->Prop} {w:World} {pv:PV} {v:Value} (h:fK S w pv v):v.oneCell'=true:=by cases h<;>rfl
section
variable {μ μ':Mu}{h h':List au}{S S':Nat->Prop}{w w':World}
theorem bf.eX {pv:PV} {v:Value} (hp:aI S w pv v):bf μ h S w pv v:=by
 cases hp<;>first | exact .int _ _ | exact .bool _ | exact .str _ | exact .aD | exact .dx | exact .fn _ | exact .iq _ _ _ _ | (rename_i h1 h2 a h4 b _;first | exact .cP _ _ _ _ _ _ _ ‹_› ‹_› ‹_› ‹_› ‹_›) | exact .cN _ _ _ _ ‹_› ‹_› ‹_›
theorem bf.fr (hf:Fr μ h S w μ' h' S' w') (hm:kl μ h S w) {pv:PV} {v:Value} (hc:bf μ h S w pv v):bf μ' h' S' w' pv v:=by
 have j:∀b,S b->w'.heap[b]? =w.heap[b]?:=λb hb=>hf.blocks b (hm.slt b hb) (λc=>hm.apart b c hb)
 have y:∀(id gen i off:Nat) (v:Value),bh μ h w id gen i off v->bh μ' h' w' id gen i off v:=λid gen i off v hc=>by
  unfold bh at hc ⊢;obtain⟨l,hc⟩:=hc;refine⟨l,?_⟩;cases c:h[id]? with
  | none=>rw[c]at hc;exact hc.elim
  | some o=>
   cases o with
   | dead=>rw[hf.dead id c];trivial
   | row g sz n e f=>
    rw[c]at hc;have hg:=hf.qE id g sz n e f c;cases d:h'[id]? with
    | none=>rw[d]at hg;exact hg
    | some r=>
     cases r with
     | dead=>trivial
     | row q z A B C=>
      rw[d]at hg;obtain⟨hle,cj⟩:=hg;obtain⟨t,hc⟩:=hc;refine⟨S4 t hle,λhe=>?_⟩;have heq:q=g:=by omega
      obtain⟨hμ,rfl,rfl,rfl⟩:=cj heq;obtain⟨h1,h2⟩:=hc UN;refine⟨h1,?_⟩;rw[hμ];obtain⟨b,base,q1,q2,q3⟩:=h2;exact⟨b,base,q1,⟨hf.bC b _ (.inl ⟨id,g,_,_,_,_,base,c,q1⟩) q2.1,q2.2⟩,q3⟩
 cases pv with
 | own id gen off len=>
  have hc:aN μ h w id gen off len v:=hc;show aN μ' h' w' id gen off len v;unfold aN at hc ⊢;obtain⟨l,hc⟩:=hc;refine⟨l,?_⟩;cases c:h[id]? with
  | none=>rw[c]at hc;exact hc.elim
  | some o=>
   cases o with
   | dead=>rw[hf.dead id c];trivial
   | row g sz n e f=>
    rw[c]at hc;have hg:=hf.qE id g sz n e f c;cases d:h'[id]? with
    | none=>rw[d]at hg;exact hg
    | some r=>
     cases r with
     | dead=>trivial
     | row q z A B C=>
      rw[d]at hg;obtain⟨hle,cj⟩:=hg;obtain⟨t,hc⟩:=hc;refine⟨S4 t hle,λhe=>?_⟩;have heq:q=g:=by omega
      obtain⟨hμ,rfl,rfl,rfl⟩:=cj heq;obtain⟨h1,h2⟩:=hc UN;refine⟨h1,?_⟩;rw[hμ];cases x:μ id with
      | none=>rw[x]at h2;exact h2
      | some p=>
       obtain⟨b,base⟩:=p;rw[x]at h2;obtain⟨a,cap,D,h4,E,G⟩:=h2;exact⟨a,cap,D,h4,E,hf.bC b _ (.inl ⟨id,g,_,_,_,_,base,c,x⟩) G⟩
 | aH id gen i off=>exact y _ _ _ _ _ hc
 | jK f bC=>exact kN.mono (show iQ μ h w f bC v from hc) (λid g u hu=>y _ _ _ _ _ hu)
 | gS id=>
  have hc:cQ μ h w id v:=hc;show cQ μ' h' w' id v;unfold cQ at hc ⊢;obtain⟨l,hc⟩:=hc;refine⟨l,?_⟩;cases c:h[id]? with
  | none=>rw[c]at hc;exact hc.elim
  | some o=>
   cases o with
   | dead=>rw[hf.dead id c];trivial
   | row g sz n e f=>
    rw[c]at hc;obtain⟨b,base,q1,q2,q3⟩:=hc;obtain⟨H,m⟩:=hf.maps id g sz n e f b base c q1 q2;rcases m with m | ⟨⟨q,z,A,B,C,m⟩,I⟩
    ·rw[m];trivial
    ·rw[m];exact⟨b,base,I,H,q3⟩
 | dA=>exact hc
 | aG sz n e f F=>exact hc
 | agg cs=>exact hc.elim
 | db cs=>exact hc.elim
 | int k n=>exact aI.mono j hf.sub hc
 | bool b=>exact aI.mono j hf.sub hc
 | str s=>exact aI.mono j hf.sub hc
 | aD=>exact aI.mono j hf.sub hc
 | dx=>exact aI.mono j hf.sub hc
 | cP sz n f=>exact aI.mono j hf.sub hc
 | cN cs=>exact aI.mono j hf.sub hc
 | fn f=>exact aI.mono j hf.sub hc
theorem dP.fr (hf:Fr μ h S w μ' h' S' w') (hm:kl μ h S w) {pv:PV} {v:Value} (hc:dP μ h S w pv v):dP μ' h' S' w' pv v:=by
 cases pv with
 | agg cs=>
  obtain⟨vs,h1,h2,a⟩:=hc;exact⟨vs,h1,h2,λj pv hj=>let⟨u,hu,c⟩:=a j pv hj;⟨u,hu,c.fr hf hm⟩⟩
 | int k n=>exact bf.fr (pv:=.int k n) hf hm hc
 | bool b=>exact bf.fr (pv:=.bool b) hf hm hc
 | str s=>exact bf.fr (pv:=.str s) hf hm hc
 | aD =>exact bf.fr (pv:=.aD) hf hm hc
 | dx=>exact bf.fr (pv:=.dx) hf hm hc
 | cP sz n f=>exact bf.fr (pv:=.cP sz n f) hf hm hc
 | cN cs=>exact bf.fr (pv:=.cN cs) hf hm hc
 | own id gen off len=>exact bf.fr (pv:=.own id gen off len) hf hm hc
 | aH id gen i off=>exact bf.fr (pv:=.aH id gen i off) hf hm hc
 | gS id=>exact bf.fr (pv:=.gS id) hf hm hc
 | jK f bC=>exact bf.fr (pv:=.jK f bC) hf hm hc
 | fn f=>exact bf.fr (pv:=.fn f) hf hm hc
 | dA=>trivial
 | aG sz n e f F=>exact bf.fr (pv:=.aG sz n e f F) hf hm hc
 | db cs=>exact(show False from hc).elim
theorem aX.fr (hf:Fr μ h S w μ' h' S' w') (hm:kl μ h S w) {pv:PV} {v:Value} (hc:aX μ h S w pv v):aX μ' h' S' w' pv v:=by
 cases pv with
 | db cs=>
  obtain⟨vs,h1,h2,a⟩:=hc;exact⟨vs,h1,h2,λj pv hj=>let⟨u,hu,c⟩:=a j pv hj;⟨u,hu,c.fr hf hm⟩⟩
 | int k n=>exact dP.fr (pv:=.int k n) hf hm hc
 | bool b=>exact dP.fr (pv:=.bool b) hf hm hc
 | str s=>exact dP.fr (pv:=.str s) hf hm hc
 | aD =>exact dP.fr (pv:=.aD) hf hm hc
 | dx=>exact dP.fr (pv:=.dx) hf hm hc
 | cP sz n f=>exact dP.fr (pv:=.cP sz n f) hf hm hc
 | cN cs=>exact dP.fr (pv:=.cN cs) hf hm hc
 | own id gen off len=>exact dP.fr (pv:=.own id gen off len) hf hm hc
 | aH id gen i off=>exact dP.fr (pv:=.aH id gen i off) hf hm hc
 | gS id=>exact dP.fr (pv:=.gS id) hf hm hc
 | jK f bC=>exact dP.fr (pv:=.jK f bC) hf hm hc
 | fn f=>exact dP.fr (pv:=.fn f) hf hm hc
 | dA=>trivial
 | aG sz n e f F=>exact dP.fr (pv:=.aG sz n e f F) hf hm hc
 | agg cs=>exact dP.fr (pv:=.agg cs) hf hm hc
theorem aI.one {pv:PV} {v:Value} (hp:aI S w pv v):v.oneCell'=true:=by cases hp<;>rfl
theorem bf.one {pv:PV} {v:Value} (hc:bf μ h S w pv v):v.oneCell'=true:=by
 cases pv with
 | own id gen off len=>
  obtain⟨⟨a,l,c,rfl⟩,_⟩:=(show aN μ h w id gen off len v from hc);rfl
 | aH id gen i off=>
  obtain⟨⟨a,rfl⟩,_⟩:=(show bh μ h w id gen i off v from hc);rfl
 | gS id=>
  obtain⟨⟨a,rfl⟩,_⟩:=(show cQ μ h w id v from hc);rfl
 | jK f bC=>
  obtain⟨vs,rfl,_⟩:=(show iQ μ h w f bC v from hc);rfl
 | dA=>exact hc
 | aG sz n e f F=>exact hc
 | agg cs=>exact(show False from hc).elim
 | db cs=>exact(show False from hc).elim
 | int k n=>exact aI.one (show aI S w _ v from hc)
 | bool b=>exact aI.one (show aI S w _ v from hc)
 | str s=>exact aI.one (show aI S w _ v from hc)
 | aD=>exact aI.one (show aI S w _ v from hc)
 | dx=>exact aI.one (show aI S w _ v from hc)
 | cP sz n f=>exact aI.one (show aI S w _ v from hc)
 | cN cs=>exact aI.one (show aI S w _ v from hc)
 | fn f=>exact aI.one (show aI S w _ v from hc)
theorem gZ.c {pv:PV} {v:Value} (hc:gZ μ h S w pv v):bf μ h S w pv v:=by
 cases pv with
 | aG sz n e f F=>exact fK.one (show fK S w (.aG sz n e f F) v from hc)
 | _=>exact hc
theorem bf.k {pv:PV} {v:Value} (hc:bf μ h S w pv v) (a:cg pv=false):gZ μ h S w pv v:=by
 cases pv with
 | aG sz n e f F=>cases a
 | _=>exact hc
theorem gZ.fr (hf:Fr μ h S w μ' h' S' w') (hm:kl μ h S w) {pv:PV} {v:Value} (a:∀sz n e f F,pv=.aG sz n e f F->∀b,F b->w'.heap[b]? =w.heap[b]?) (hc:gZ μ h S w pv v):gZ μ' h' S' w' pv v:=by
 cases pv with
 | aG sz n e f F=>exact fK.mono (λb hb=>hf.blocks b (hm.slt b hb) (λd=>hm.apart b d hb)) hf.sub (show fK S w (.aG sz n e f F) v from hc) a
 | _=>exact(bf.fr hf hm (gZ.c hc)).k rfl
theorem nM {id i j b:Nat}:¬bN [] id i j b:=λ⟨_,_,_,_,_,_,_,_,_,_,h1,_⟩=>by simp at h1
theorem eZ {μ:Mu} {b:Nat}:¬bA μ [] b:=λh=>by
 rcases h with⟨id,g,sz,n,e,f,base,h1,_⟩ | ⟨_,_,_,h1⟩
 ·simp at h1
 ·exact nM h1
theorem Fr.refl:Fr μ h S w μ h S w where
 len:=Sv _
 blocks _ _ _:=rfl
 sub _ hb:=hb
 new _ hb:=.inl hb
 own _ hb:=.inl hb
 size:=Sv _
 os:=rfl
 tape:=rfl
 output:=rfl
 qE id g sz n e f hh:=by rw[hh];exact⟨Sv _,λ_=>⟨rfl,rfl,rfl,rfl⟩⟩
 dead _ hh:=hh
 bC _ _ _ hc:=hc
 maps id g sz n e f b base a hm hb:=⟨hb,.inr ⟨⟨g,sz,n,e,f,a⟩,hm⟩⟩
 me b id i j hh hb:=hb
theorem Fr.trans {μ'':Mu} {u:List au} {F:Nat->Prop} {G:World} (a:Fr μ h S w μ' h' S' w') (b:Fr μ' h' S' w' μ'' u F G):Fr μ h S w μ'' u F G where
 len:=S4 a.len b.len
 blocks k hk H:=(b.blocks k (SH hk a.size) (λs=>by
  rcases a.own k s with h1 | h1
  ·exact H h1
  ·omega)).trans (a.blocks k hk H)
 sub k hk:=b.sub k (a.sub k hk)
 new k hk:=by
  rcases b.new k hk with h1 | h1 | h1
  ·exact a.new k h1
  ·rcases a.own k h1 with h2 | h2
   ·exact .inr (.inl h2)
   ·exact .inr (.inr h2)
  ·exact .inr (.inr (S4 a.size h1))
 own k hk:=by
  rcases b.own k hk with h1 | h1
  ·exact a.own k h1
  ·exact .inr (S4 a.size h1)
 size:=S4 a.size b.size
 os:=b.os.trans a.os
 tape:=b.tape.trans a.tape
 output:=b.output.trans a.output
 qE id g sz n e f hh:=by
  have h1:=a.qE id g sz n e f hh;cases d:h'[id]? with
  | none=>rw[d]at h1;exact h1.elim
  | some J=>
   cases J with
   | dead=>rw[b.dead id d];trivial
   | row l o p q r=>
    rw[d]at h1;have h2:=b.qE id l o p q r d;cases m:u[id]? with
    | none=>rw[m]at h2;exact h2
    | some v=>
     cases v with
     | dead=>trivial
     | row A I K L M=>
      rw[m]at h2;refine⟨S4 h1.1 h2.1,λhe=>?_⟩;have N:l=g:=by have:=h1.1;have:=h2.1;omega
      have O:A=l:=by omega
      obtain⟨P,Q,R,T⟩:=h1.2 N;obtain⟨U,V,W,X⟩:=h2.2 O;exact⟨U.trans P,V.trans Q,W.trans R,X.trans T⟩
 dead id hh:=b.dead id (a.dead id hh)
 bC k c s hc:=by
  have h1:=a.bC k c s hc;by_cases h2:bA μ' h' k
  ·exact b.bC k c h2 h1
  ·refine dZ.of_same (b.blocks k ?_ h2) h1;obtain⟨cur,e,z,B,_⟩:=h1;exact(Su.1 B).1
 maps id g sz n e f k base s hm hb:=by
  obtain⟨h1,h2⟩:=a.maps id g sz n e f k base s hm hb;rcases h2 with h2 | ⟨⟨l,o,p,q,r,h2⟩,B⟩
  ·refine⟨?_,.inl (b.dead id h2)⟩;by_cases h4:bA μ' h' k
   ·rcases h4 with⟨j,l,o,p,q,r,C,D,E⟩ | ⟨j,x,y,h4⟩
    ·exact(b.maps j l o p q r k C D E h1).1
    ·exact b.me k j x y h4 h1
   ·obtain⟨es,c,t⟩:=h1;exact⟨es,c,(b.blocks k (Su.1 t).1 h4).trans t⟩
  ·exact b.maps id l o p q r k base h2 B h1
 me k id i j hh hb:=by
  have h1:=a.me k id i j hh hb;by_cases h4:bA μ' h' k
  ·rcases h4 with⟨j,l,o,p,q,r,C,D,E⟩ | ⟨j,x,y,h4⟩
   ·exact(b.maps j l o p q r k C D E h1).1
   ·exact b.me k j x y h4 h1
  ·obtain⟨es,c,t⟩:=h1;exact⟨es,c,(b.blocks k (Su.1 t).1 h4).trans t⟩
structure bg (w w':World):Prop where
 blocks:∀b,b<w.heap.size->w'.heap[b]? =w.heap[b]?
 size:w.heap.size<=w'.heap.size
 os:w'.os=w.os
 tape:w'.tape=w.tape
 output:w'.output=w.output
theorem bg.refl (w:World):bg w w:=⟨λ_ _=>rfl,Sv _,rfl,rfl,rfl⟩
theorem bg.trans {a b c:World} (x:bg a b) (y:bg b c):bg a c:=
 ⟨λk hk=>(y.blocks k (SH hk x.size)).trans (x.blocks k hk),S4 x.size y.size,y.os.trans x.os,y.tape.trans x.tape,y.output.trans x.output⟩
theorem bg.cell {w w':World} (h:bg w w') {a:Addr} {u:Value} (hc:w.cell? a=some u):w'.cell? a=some u:=
 (World.cell?_of_block (w:=w) (h.blocks a.block (World.block_lt_of_cell? _ _ hc))).trans hc
theorem bg.drew (w:World):bg w w.drew:=⟨λ_ _=>rfl,Sv _,rfl,rfl,rfl⟩
theorem bg.drewN (w:World) (n:Nat):bg w (w.drewN n):=⟨λ_ _=>rfl,Sv _,rfl,rfl,rfl⟩
theorem dZ.lt {b k:Nat} (h:dZ w b k):b<w.heap.size:=by
 obtain⟨cur,e,z,h1,_⟩:=h;exact(Su.1 h1).1
theorem Fr.mX (ha:bg w w'):Fr μ h S w μ h S w' where
 len:=Sv _
 blocks b hb _:=ha.blocks b hb
 sub _ hb:=hb
 new _ hb:=.inl hb
 own _ hb:=.inl hb
 size:=ha.size
 os:=ha.os
 tape:=ha.tape
 output:=ha.output
 qE id g sz n e f hh:=by rw[hh];exact⟨Sv _,λ_=>⟨rfl,rfl,rfl,rfl⟩⟩
 dead _ hh:=hh
 bC b k _ hc:=dZ.of_same (ha.blocks b hc.lt) hc
 maps id g sz n e f b base d hm hb:=⟨let⟨es,c,a⟩:=hb;⟨es,c,(ha.blocks b (Su.1 a).1).trans a⟩,.inr ⟨⟨g,sz,n,e,f,d⟩,hm⟩⟩
 me b id i j _ hb:=let⟨es,c,a⟩:=hb;⟨es,c,(ha.blocks b (Su.1 a).1).trans a⟩
theorem kl.my (hm:kl μ h S w) (a:Fr μ h S w μ' h' S' w'):zk S' w':=
 hm.known.fG (λb hb=>a.blocks b (hm.slt b hb) (λc=>hm.apart b c hb)) a.sub
theorem kl.agree (ha:bg w w') (hm:kl μ h S w):kl μ h S w':=
 ⟨hm.apart,λb hb=>SH (hm.lt b hb) ha.size,λb hb=>SH (hm.slt b hb) ha.size,hm.inj,hm.known.fG (λb hb=>ha.blocks b (hm.slt b hb)) (λ_ hb=>hb),hm.hv,hm.hh⟩
theorem bu.agree (ha:bg w w') (hm:kl μ h S w) (hh:bu μ h S w):bu μ h S w':=by
 intro id g sz n e f a;obtain⟨h1,h2⟩:=hh id g sz n e f a;refine⟨h1,?_⟩;cases c:μ id with
 | none=>rw[c]at h2;exact h2
 | some p=>
  obtain⟨b,base⟩:=p;rw[c]at h2;obtain⟨o,d,h4⟩:=h2;have l:b<w.heap.size:=(Su.1 d).1;exact⟨o,(ha.blocks b l).trans d,h4.mono (λi j pv v hi hj m=>m.fr (Fr.mX ha) hm (λq r s t u he k x=>ha.blocks k (hm.lt k (.inr ⟨id,i,j,g,sz,n,e,f,q,r,s,t,u,a,hi,by rw[hj,he],x⟩))))⟩
end
end Go.Am
