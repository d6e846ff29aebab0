/- Texts of the proof, joined and shortened. -/
import Derived.WalkKit
import Derived.Deep.Draws
import Derived.Deep.Quiet
namespace Go.Am
open Go Go.RowKit
set_option linter.unusedVariables false
abbrev an:=@if_pos
abbrev mg:=@if_neg
abbrev so:=@Nat.zero_add
abbrev An:=@List.getElem?_eq_some_iff
abbrev As:=@Bool.and_eq_true
abbrev No:=@List.getElem?_eq_getElem
abbrev abF:=@Nat.le_refl
abbrev afM:=@Nat.eq_of_beq_eq_true
abbrev afN:=@Array.getElem?_eq_some_iff
abbrev afO:=@List.map_cons
abbrev afP:=@List.getD_eq_getElem?_getD
abbrev afQ:=@List.getElem_mem
abbrev afR:=@List.map_nil
abbrev afS:=@List.all_eq_true
abbrev afT:=@Int.toNat_natCast
abbrev afU:=@decide_eq_true
abbrev afV:=@decide_eq_false
abbrev afW:=@List.mem_cons
abbrev afX:=@List.mem_of_getElem?
abbrev afY:=@List.mem_append
abbrev afZ:=@List.drop_zero
abbrev aga:=@Nat.add_mul
abbrev agb:=@Nat.mul_le_mul_right
abbrev agc:=@Nat.lt_of_lt_of_le
abbrev agd:=@List.getElem?_map
abbrev age:=@List.length_cons
abbrev agf:=@List.getElem?_eq_none
abbrev agh:=@List.getElem?_append_right
abbrev agi:=@List.getElem?_set_ne
abbrev agj:=@Nat.le_of_ble_eq_true
abbrev agk:=@Array.getElem?_eq_getElem
abbrev agl:=@List.drop_eq_getElem_cons
abbrev agm:=@List.mem_cons_of_mem
abbrev agn:=@Array.getElem?_toList
abbrev ago:=@List.getElem?_append_left
abbrev agp:=@Nat.lt_of_lt_of_eq
abbrev agq:=@Nat.le_trans
abbrev agr:=@List.mem_iff_getElem
abbrev ags:=@List.mem_map
abbrev agt:=@Nat.zero_le
abbrev agu:=@if_true
abbrev agv:=@List.length_nil
abbrev agw:=@List.eq_nil_of_length_eq_zero
abbrev agx:=@List.getElem?_cons_succ
abbrev agy:=@Option.some.inj
abbrev agz:=@Nat.not_lt_zero
abbrev agA:=@Bool.not_eq_true'
abbrev agB:=@List.append_nil
abbrev agC:=@List.append_assoc
abbrev agD:=@List.nil_append
abbrev agE:=@decide_eq_true_eq
abbrev agF:=@List.getElem?_cons_zero
abbrev agG:=@if_false
abbrev agH:=@Array.getElem?_append_left
abbrev agI:=@Nat.lt_or_ge
abbrev agJ:=@beq_iff_eq
abbrev agK:=@List.getElem?_set_self
abbrev agL:=@Array.length_toList
abbrev agM:=@Nat.add_zero
abbrev agN:=@Bool.false_eq_true
abbrev agO:=@Nat.eq_zero_or_pos
abbrev agP:=@List.length_append
abbrev agQ:=@decide_eq_true_iff
abbrev agR:=@Array.eq_empty_of_size_eq_zero
abbrev agS:=@List.cons_append
abbrev agT:=@List.take_append_getElem
abbrev agU:=@List.getElem?_replicate
abbrev agV:=@List.getElem?_nil
abbrev agW:=@List.length_set
abbrev agX:=@Ne.symm
abbrev agY:=@Nat.sub_self
abbrev agZ:=@List.getElem?_drop
abbrev aha:=@List.pairwise_iff_getElem
abbrev ahb:=@List.take_length
abbrev ahc:=@Nat.beq_refl
abbrev ahd:=@Bool.eq_iff_iff
abbrev ahe:=@Bool.or_eq_true
abbrev ahf:=@List.map_append
abbrev ahg:=@Int.tmod_eq_emod_of_nonneg
abbrev ahh:=@List.getElem?_set
abbrev ahi:=@List.getElem_append_right
abbrev ahj:=@List.take_zero
abbrev ahk:=@List.drop_length
abbrev ahl:=@Bool.not_eq_true
abbrev ahm:=@List.drop_succ_cons
abbrev ahn:=@beq_eq_false_iff_ne
abbrev aho:=@Bool.and_true
abbrev ahp:=@List.length_map
abbrev ahq:=@List.getElem?_take
abbrev ahr:=@List.drop_eq_nil_of_le
abbrev ahs:=@Array.size_append
abbrev aht:=@List.length_take
abbrev ahu:=@List.all_cons
abbrev ahv:=@Nat.add_assoc
abbrev ahw:=@Bool.true_and
abbrev ahx:=@Decidable.byContradiction
abbrev ahy:=@List.mem_singleton
abbrev ahz:=@Array.empty_append
abbrev ahA:=@List.set_cons_zero
abbrev ahB:=@List.set_cons_succ
abbrev ahC:=@List.mem_range
abbrev ahD:=@List.flatMap_cons
abbrev ahE:=@List.ext_getElem?
abbrev ahF:=@List.drop_of_length_le
abbrev ahG:=@Bool.false_or
abbrev ahH:=@Option.getD_some
abbrev ahI:=@List.getElem?_toArray
abbrev ahJ:=@Array.getElem?_setIfInBounds_ne
abbrev ahK:=@List.mem_append_left
abbrev ahL:=@bne_iff_ne
abbrev ahM:=@Bool.and_false
abbrev ahN:=@Bool.false_and
abbrev ahO:=@Array.getElem?_map
abbrev ahP:=@List.drop_nil
abbrev ahQ:=@Bool.not_true
abbrev ahR:=@List.sum_cons
abbrev ahS:=@List.cons.inj
abbrev ahT:=@List.getElem_take
abbrev ahU:=@List.reverse_nil
abbrev ahV:=@List.map_toArray
abbrev ahW:=@Option.bind_some
abbrev ahX:=@List.length_drop
abbrev ahY:=@Nat.le_of_eq
abbrev ahZ:=@Nat.lt_succ_self
abbrev aia:=@List.not_mem_nil
abbrev aib:=@List.getElem_set
theorem aic {p:Prop} (h:p:=by
  obtain rfl:=si h;replace h:=rP;exact eB h):p:=h
theorem aid {p:Prop} (h:p:=by
  obtain rfl:=si h;replace h:=mY;exact eB h):p:=h
theorem aie {p:Prop} (h:p:=by
  rintro _ _ ⟨rfl,rfl,rfl⟩;replace h:=iI;exact .d (eB h)):p:=h
theorem aif {p:Prop} (h:p:=by
  rintro _ _ ⟨y2,rfl,rfl,rfl⟩;replace h:=qj;exact .d (eI h)):p:=h
theorem aih {p:Prop} (h:p:=by
  obtain rfl:=si h;replace h:=iI;exact eB h):p:=h
theorem aii {p:Prop} (h:p:=by
  obtain rfl:=si h;replace h:=qj;exact eI h):p:=h
theorem aij {p:Prop} (h:p:=by
  obtain rfl:=si h;replace h:=iI;exact eI h):p:=h
theorem aik {p:Prop} (h:p:=by
  rintro _ _ ⟨y1,rfl,rfl,rfl⟩;replace h:=iI;exact .d (eI h)):p:=h
theorem ail {p:Prop} (h:p:=by
  obtain rfl:=si h;replace h:=rY;exact eB h):p:=h
theorem aim {p:Prop} (h:p:=by
  obtain rfl:=si qj;exact⟨rfl,_,rfl,(en [] ⟨rfl,rfl⟩ QH ⟨⟩)⟩):p:=h
theorem ain {p:Prop} (h:p:=by
  obtain rfl:=si h;replace h:=Js;exact eB h):p:=h
theorem aio {p:Prop} (h:p:=by
  rintro _ _ ⟨l1,rfl,rfl,rfl⟩;replace h:=iI;exact .d ⟨rfl,l1,rfl,kq b8 rfl,(eS h)⟩):p:=h
theorem aip {p:Prop} (h:p:=by
  obtain rfl:=si h;replace h:=O6;exact eB h):p:=h
theorem aiq {p:Prop} (h:p:=by
  obtain⟨dst,op,ty,pos,after,guard⟩:=o;subst hg;exact hp):p:=h
theorem air {p:Prop} (h:p:=by
  rintro _ _ ⟨s1,rfl,rfl,rfl⟩;replace h:=iI;exact .d (eS h)):p:=h
theorem ais {p:Prop} (h:p:=by
  obtain rfl:=si h;exact en [0] ⟨f3,d4,rfl,rfl⟩ .i lB):p:=h
theorem ait {p:Prop} (h:p:=by
  obtain rfl:=si h;exact en [0] ⟨f5,d6.self,rfl,rfl⟩ (.oe) oS):p:=h
theorem aiu {p:Prop} (h:p:=by
  obtain rfl:=si h;exact en [] ⟨rfl,rfl⟩ CF ⟨⟩):p:=h
theorem aiv {p:Prop} (h:p:=by
  obtain rfl:=si h;exact en [0] ⟨rfl,rfl⟩ .o jH):p:=h
theorem aiw {p:Prop} (h:p:=by
  obtain rfl:=si h;exact⟨rfl,_,rfl,(en [] ⟨rfl,rfl⟩ Uf ⟨⟩)⟩):p:=h
theorem aix {p:Prop} (h:p:=by
  obtain rfl:=si h;exact⟨rfl,_,rfl,(en [2,3] ⟨rfl,rfl⟩ Uk I9)⟩):p:=h
theorem aiy {p:Prop} (h:p:=by
  replace h:=Hx;exact aic):p:=h
theorem aiz {p:Prop} (h:p:=by
  obtain rfl:=si h;exact⟨rfl,_,rfl,(en [] ⟨rfl,rfl⟩ Xu ⟨⟩)⟩):p:=h
theorem aiA {p:Prop} (h:p:=by
  replace h:=Jt;exact ain):p:=h
theorem aiB {p:Prop} (h:p:=by
  replace h:=EU;exact aid):p:=h
theorem aiC {p:Prop} (h:p:=by
  replace h:=E1;exact aic):p:=h
theorem aiD {p:Prop} (h:p:=by exact .d (eB h)):p:=h
theorem aiE {p:Prop} (h:p:=by exact .d (eI h)):p:=h
theorem aiF {p:Prop} (h:p:=by exact ct ⟨si h,rfl,rfl⟩ (tk [] ⟨⟩ ⟨⟩)):p:=h
theorem aiG {p:Prop} (h:p:=by exact ct ⟨_,si h,rfl,rfl⟩ (tk [] jx ⟨⟩)):p:=h
theorem aiH {p:Prop} (h:p:=by exact ct ⟨_,_,f9,d10,si h,rfl,rfl⟩ (tk [0] jx lB)):p:=h
theorem aiI {p:Prop} (h:p:=by exact hp.elim):p:=h
theorem aiJ {p:Prop} (h:p:=by exact lg (xR _ _ h rfl) (tk [] xw ⟨⟩)):p:=h
theorem aiK {p:Prop} (h:p:=by exact lg (vX _ _ _ h rfl) (tk [] vl ⟨⟩)):p:=h
theorem aiL {p:Prop} (h:p:=by exact ct ⟨_,f11,d12,si h,rfl,rfl⟩ (tk [0] BH oS)):p:=h
theorem aiM {p:Prop} (h:p:=by exact⟨_,rfl,.inl (by decide)⟩):p:=h
theorem aiN {p:Prop} (h:p:=by exact⟨_,rfl,.inr ⟨z0,by unfold zS;omega⟩⟩):p:=h
theorem aiO {p:Prop} (h:p:=by exact ct ⟨_,si h,rfl,rfl⟩ (tk [0] G7 jH)):p:=h
theorem aiP {p:Prop} (h:p:=by exact⟨_,hu,rfl,h1,afM h2,h4,λu=>by rw[show 9999=9998+1 from rfl,Instr.checkKey];simp [run_underlying hu]⟩):p:=h
theorem aiQ {p:Prop} (h:p:=by exact .f (.f (.f (.f (.f (.f (.f (.f (ct ⟨si h,rfl,rfl⟩ (tk [0] BI qf)))))))))):p:=h
theorem aiR {p:Prop} (h:p:=by exact ct ⟨_,_,_,_,_,_,(DR.nil (D:=af.D)).self,si h,rfl,rfl⟩ (tk [1,2,3,4,5,6] vn tz0)):p:=h
theorem aiS {p:Prop} (h:p:=by exact .f (.f (.f (.f (.f (.f (.f (.f (eB h))))))))):p:=h
theorem aiT {p:Prop} (h:p:=by exact .f (.f (.f (.f (.f (.f (.f (.f (.f (.f (.f (.f (eB h))))))))))))):p:=h
theorem aiU {p:Prop} (h:p:=by exact lg (se _ _ _ h _ d30 rfl) (tk [0] rV oS)):p:=h
theorem aiV {p:Prop} (h:p:=by exact ct ⟨_,si h,rfl,rfl⟩ (tk [0] OW qf)):p:=h
theorem aiW {p:Prop} (h:p:=by exact⟨λ_=>rfl,λq=>Bool.noConfusion q⟩):p:=h
theorem aiX {p:Prop} (h:p:=by exact .d (eS h)):p:=h
theorem aiY {p:Prop} (h:p:=by exact lg (lR _ _ _ _ h _ d30 rfl) (tk [0] xu lB)):p:=h
theorem aiZ {p:Prop} (h:p:=by exact ct ⟨si h,rfl,rfl⟩ (tk [0] BI qf)):p:=h
theorem aja {p:Prop} (h:p:=by exact hc.ok.inj i j _ _ _ _ _ _ _ _ _ _ _ _ _ hi hj qe oP):p:=h
theorem ajb {p:Prop} (h:p:=by exact⟨rfl,rfl⟩):p:=h
theorem ajc {p:Prop} (h:p:=by exact .d (.d ⟨rfl,_,_,rfl,aL,rfl,_,rfl,(en [] ⟨rfl,rfl⟩ Xw ⟨⟩)⟩)):p:=h
theorem ajd {p:Prop} (h:p:=by exact .f (.f (eB h))):p:=h
theorem aje {p:Prop} (h:p:=by exact⟨λ_=>rfl,λh=>absurd (λi h1 h2=>by omega) h⟩):p:=h
theorem ajf {p:Prop} (h:p:=by exact ct ⟨_,si h,rfl,rfl⟩ (tk [] ⟨.s,⟨⟩⟩ ⟨⟩)):p:=h
theorem ajg {p:Prop} (h:p:=by exact⟨abF _,λ_=>⟨rfl,rfl,rfl,rfl⟩⟩):p:=h
theorem ajh {p:Prop} (h:p:=by exact⟨rfl,(.t ⟨rfl,_,rfl,(.t (.t (.t (eB h))))⟩)⟩):p:=h
theorem aji {p:Prop} (h:p:=by exact⟨_,_,_,_,_,_,_,_,_,_,q1,q2,q3,q4⟩):p:=h
theorem ajj {p:Prop} (h:p:=by exact .f (.f (.f (.f (eB h))))):p:=h
theorem ajk {p:Prop} (h:p:=by exact lg (lR _ _ _ _ h _ d20 rfl) (tk [0] xu lB)):p:=h
theorem ajl {p:Prop} (h:p:=by exact .f (.f (.f (.f (.f (.f (.f (eB h)))))))):p:=h
theorem ajm {p:Prop} (h:p:=by exact⟨_,rfl,.inr ⟨by omega,by omega⟩⟩):p:=h
theorem ajn {p:Prop} (h:p:=by exact .inr ⟨_,_,_,q⟩):p:=h
theorem ajo {p:Prop} (h:p:=by omega):p:=h
theorem ajp {p:Prop} (h:p:=by decide):p:=h
theorem ajq {p:Prop} (h:p:=by simp):p:=h
theorem ajr {p:Prop} (h:p:=by simp [Op.operands]):p:=h
theorem ajs {p:Prop} (h:p:=by simp;omega):p:=h
theorem ajt {p:Prop} (h:p:=by kernel_rfl):p:=h
theorem aju {p:Prop} (h:p:=by simp only[afO,afR,shr,oT d4];rfl):p:=h
theorem ajv {p:Prop} (h:p:=by simp only[afO,afR,shr,oT d22];rfl):p:=h
theorem ajw {p:Prop} (h:p:=by simp [Region.wanted,hg,hy]):p:=h
theorem ajx {p:Prop} (h:p:=by first | rfl | exact(DR.nil (D:=af.D)).len | exact(DR.nil (D:=af.D)).len.symm):p:=h
theorem ajy {p:Prop} (h:p:=by simpa using hj):p:=h
theorem ajz {p:Prop} (h:p:=by assumption):p:=h
theorem ajA {p:Prop} (h:p:=by simp only[Nat.reduceAdd,Nat.reducePow];omega):p:=h
theorem ajB {p:Prop} (h:p:=by simp only[afO,afR,shr,oT d10];rfl):p:=h
theorem ajC {p:Prop} (h:p:=by simpa using h):p:=h
theorem ajD {p:Prop} (h:p:=by simp [wm]):p:=h
theorem ajE {p:Prop} (h:p:=by rw[<-hf i hi];exact hj):p:=h
theorem ajF {p:Prop} (h:p:=by simpa using hp):p:=h
theorem ajG {p:Prop} (h:p:=by simpa using h2):p:=h
theorem ajH {p:Prop} (h:p:=by simpa using h1):p:=h
theorem ajI {p:Prop} (h:p:=by simp only[afO,afR,shr,oT d29];rfl):p:=h
theorem ajJ {p:Prop} (h:p:=by simp only[afO,afR,shr,oT d26];rfl):p:=h
theorem ajK {p:Prop} (h:p:=by simp only[afO,afR,shr,oT d6];rfl):p:=h
theorem ajL {p:Prop} (h:p:=by simp [Region.wanted,hg,vN hs hj he]):p:=h
theorem ajM {p:Prop} (h:p:=by rw[he];exact hu):p:=h
theorem ajN {p:Prop} (h:p:=by simpa using q1):p:=h
theorem ajO {p:Prop} (h:p:=by simpa using hy):p:=h
theorem ajP {p:Prop} (h:p:=by simpa using hl):p:=h
theorem ajQ {p:Prop} (h:p:=by simpa using hk):p:=h
theorem ajR {p:Prop} (h:p:=by rw[zU];omega):p:=h
theorem ajS {p:Prop} (h:p:=by subst hy;simp [Op.operands]):p:=h
theorem ajT {p:Prop} (h:p:=by simp [Op.operands];exact⟨p.1,by simpa using hp⟩):p:=h
end Go.Am
set_option linter.unusedVariables false
set_option linter.unusedSimpArgs false
namespace Go.Am
open Go
def I0:List Int:=[1,10,100,1000,10000,100000,1000000,10000000,100000000,1000000000,10000000000,100000000000,1000000000000,10000000000000,100000000000000,1000000000000000,10000000000000000,100000000000000000,1000000000000000000,10000000000000000000]
def GV:List (Nat×Array Value):=[(3,(I0.map λz=>Value.int .u64 z).toArray)]
def ze:List Nat:=[1,2]
def Oi:List Nat:=[0]
def Tm:Nat:=4294967295
end Go.Am
namespace Go.Am
open Go Go.RowKit
inductive PV where
 | int (k:IntKind) (n:Int)
 | bool (b:Bool)
 | str (s:List UInt8)
 | au
 | jq
 | gn (sz n:Nat) (f:Nat->List PV)
 | fT (cells:List PV)
 | own (id gen off len:Nat)
 | bE (id gen i off:Nat)
 | ql (id:Nat)
 | uP (f:Nat) (df:List (Nat×Nat))
 | fn (f:Nat)
 | agg (cs:List PV)
 | hJ (vs:List PV)
 | jI
 | aV (sz n:Nat) (e:TypeId) (f:Nat->List PV) (F:Nat->Prop)
 deriving Inhabited
abbrev Env:=Nat->PV
inductive ar where
 | row (gen sz n:Nat) (e:TypeId) (f:Nat->List PV)
 | dead
 deriving Inhabited
inductive TI where
 | int (k:IntKind)
 | bool
 | str
 | slice (e sz bytes:Nat) (zero:List PV)
 | struct (sz:Nat) (fields:List (Nat×Nat×Bool)) (zero:List PV)
 | ptr (e:Nat)
 | map (k e:Nat) (zero:PV)
 | other
 deriving Inhabited
structure sI where
 get:Nat->TI
def tR (env:Env) (t:Nat) (v:PV):Env:=λj=>bif Nat.beq j t then v else env j
def eQ (env:Env) (d:Option Nat) (v:PV):Env:=match d with | some t=>tR env t v | none=>env
def Cb (env:Env):List (Nat×PV)->Env
 | []=>env
 | (t,v)::r=>tR (Cb env r) t v
inductive eN (b:Bool) (T F:Prop):Prop
 | mk (ht:b=true->T) (hf:b=false->F):eN b T F
theorem lZ {b:Bool} {T F:Prop} (h:eN b T F):(b=true->T)/\(b=false->F):=by cases h with | mk a b=>exact⟨a,b⟩
def dX (b:Bool) (K:Prop):Prop:=match b with | true=>K | false=>False
theorem ck {b:Bool} {K:Prop} (h:dX b K):b=true/\K:=by cases b;exact h.elim;exact⟨rfl,h⟩
def uB:IntKind->IntKind->Bool
 | .i8,.i8=>true
 | .i16,.i16=>true
 | .i32,.i32=>true
 | .i64,.i64=>true
 | .u8,.u8=>true
 | .u16,.u16=>true
 | .u32,.u32=>true
 | .u64,.u64=>true
 | _,_=>false
theorem eY {k a:IntKind} (h:uB k a=true):k=a:=by cases k<;>cases a<;>first | rfl | cases h
def YD:Value->Option PV
 | .int k n=>some (.int k n)
 | .bool b=>some (.bool b)
 | .string s=>some (.str s.data.toList)
 | .slice none 0 0=>some .au
 | .pointer none=>some .jq
 | _=>none
def O8:List Value->Option (List PV)
 | []=>some []
 | v::r=>match YD v,O8 r with
  | some p,some l=>some (p::l)
  | _,_=>none
def acq:Option (List PV)->PV
 | some l=>.agg l
 | none=>.jI
def ofValue:Value->PV
 | .int k n=>.int k n
 | .bool b=>.bool b
 | .string s=>.str s.data.toList
 | .slice none 0 0=>.au
 | .pointer none=>.jq
 | .agg vs=>acq (O8 vs.toList)
 | _=>.jI
inductive Qq:PV->PV->Prop
 | same (a:PV):Qq a a
 | nil (sz:Nat) (f:Nat->List PV):Qq .au (.gn sz 0 f)
 | pK (sz:Nat) (e:TypeId) (f:Nat->List PV):Qq .au (.aV sz 0 e f (λ_=>False))
def oN:List PV->List PV->Prop
 | [],[]=>True
 | a::l,b::r=>Qq a b/\oN l r
 | _,_=>False
def ev (env:Env):Operand->PV
 | .tmp t=>env t
 | .const v=>ofValue v
 | .func f=>.fn f
 | .global _=>.jI
abbrev Mu:=Nat->Option (Nat×Nat)
inductive bz (S:Nat->Prop) (w:World):PV->Value->Prop
 | int (k:IntKind) (n:Int):bz S w (.int k n) (.int k n)
 | bool (b:Bool):bz S w (.bool b) (.bool b)
 | str (s:List UInt8):bz S w (.str s) (.string ⟨⟨s⟩⟩)
 | au:bz S w .au (.slice none 0 0)
 | jq:bz S w .jq (.pointer none)
 | fn (f:Nat):bz S w (.fn f) (.func (.func f) #[] #[])
 | tM (sz:Nat) (f:Nat->List PV) (a:Option Addr) (c:Nat):bz S w (.gn sz 0 f) (.slice a 0 c)
 | gn (sz n:Nat) (f:Nat->List PV) (b off c:Nat) (vf:Nat->Nat->Value) (hS:S b) (hlen:∀i,i<n->(f i).length=sz) (hc:n<=c)
   (bQ:∀(i j:Nat) (pv:PV),i<n->(f i)[j]? =some pv->w.cell? ⟨b,off+i*sz+j,none⟩=some (vf i j))
   (qq:∀(i j:Nat) (pv:PV),i<n->(f i)[j]? =some pv->bz S w pv (vf i j)):bz S w (.gn sz n f) (.slice (some ⟨b,off,none⟩) n c)
 | fT (cs:List PV) (b off:Nat) (vf:Nat->Value) (hS:S b)
   (bQ:∀(j:Nat) (pv:PV),cs[j]? =some pv->w.cell? ⟨b,off+j,none⟩=some (vf j))
   (qq:∀(j:Nat) (pv:PV),cs[j]? =some pv->bz S w pv (vf j)):bz S w (.fT cs) (.pointer (some ⟨b,off,none⟩))
inductive oz (S:Nat->Prop) (w:World):PV->Value->Prop
 | nil (sz:Nat) (e:TypeId) (f:Nat->List PV) (F:Nat->Prop) (hF:∀b,¬F b):oz S w (.aV sz 0 e f F) (.slice none 0 0)
 | Lj (sz n:Nat) (e:TypeId) (f:Nat->List PV) (F:Nat->Prop) (b off c:Nat) (a:Addr) (cur:Array Value) (vf:Nat->Nat->Value) (hF:F b) (hb:w.heap[b]? =some (.cells cur e (0,0))) (hlen:∀i,i<n->(f i).length=sz) (hc:n<=c)
   (ha:0<c->a=⟨b,off,none⟩) (fK:off+c*sz<=cur.size)
   (bQ:∀(i j:Nat) (pv:PV),i<n->(f i)[j]? =some pv->cur[off+i*sz+j]? =some (vf i j))
   (qq:∀(i j:Nat) (pv:PV),i<n->(f i)[j]? =some pv->bz S w pv (vf i j)\/∃cA n' e' f' F',pv=.aV cA n' e' f' F')
   (wW:∀(i j cA n':Nat) (e':TypeId) (f':Nat->List PV) (F':Nat->Prop),i<n->(f i)[j]? =some (.aV cA n' e' f' F')->oz S w (.aV cA n' e' f' F') (vf i j))
   (FD:∀(i j cA n':Nat) (e':TypeId) (f':Nat->List PV) (F':Nat->Prop),i<n->(f i)[j]? =some (.aV cA n' e' f' F')->∀b',F' b'->F b'/\b'≠b)
   (Ll:∀(i j cA n':Nat) (e':TypeId) (f':Nat->List PV) (F':Nat->Prop) (i2 j2 qs n2:Nat) (e2:TypeId) (f2:Nat->List PV) (F2:Nat->Prop),i<n->(f i)[j]? =some (.aV cA n' e' f' F')->i2<n->(f i2)[j2]? =some (.aV qs n2 e2 f2 F2)->
    ∀b',F' b'->F2 b'->i=i2/\j=j2):oz S w (.aV sz n e f F) (.slice (some a) n c)
def lD (w:World) (b k:Nat):Prop:=∃cur e z,w.heap[b]? =some (.cells cur e z)/\k<=cur.size
def cf (μ:Mu) (h:List ar) (w:World) (id gen off len:Nat) (v:Value):Prop:=
 (∃a l c,v=.slice a l c)/\match h[id]? with
 | some (ar.row g sz n _ _)=>gen<=g/\(gen=g->off+len<=n/\match μ id with
  | none=>v=.slice none 0 0
  | some (b,base)=>∃a cap,v=.slice (some a) len cap/\len<=cap/\(0<cap->a=⟨b,base+off*sz,none⟩)/\lD w b (base+(off+cap)*sz))
 | some ar.dead=>True
 | none=>False
def cE (μ:Mu) (h:List ar) (w:World) (id gen i off:Nat) (v:Value):Prop:=
 (∃a,v=.pointer a)/\match h[id]? with
 | some (ar.row g sz n e _)=>gen<=g/\(gen=g->i<n/\∃b base,μ id=some (b,base)/\(lD w b 0/\(Nat.beq e Tm=true->base=0))/\v=.pointer (some ⟨b,base+i*sz+off,none⟩))
 | some ar.dead=>True
 | none=>False
def uE (w:World) (b:Nat):Prop:=∃es clock,w.heap[b]? =some (.map es clock)
def gy (μ:Mu) (h:List ar) (w:World) (id:Nat) (v:Value):Prop:=
 (∃a,v=.map a)/\match h[id]? with
 | some (ar.row _ _ _ _ _)=>∃b base,μ id=some (b,base)/\uE w b/\v=.map (some b)
 | some ar.dead=>True
 | none=>False
def wy (O:Nat->Nat->Value->Prop) (f:Nat) (df:List (Nat×Nat)) (v:Value):Prop:=
 ∃vs:Array Value,v=.func (.func f) #[] vs/\vs.size=df.length/\∀(j:Nat) (p:Nat×Nat),df[j]? =some p->∃u:Value,vs[j]? =some u/\O p.1 p.2 u
theorem wy.mono {O a:Nat->Nat->Value->Prop} {f:Nat} {df:List (Nat×Nat)} {v:Value} (h:wy O f df v) (b:∀id g u,O id g u->a id g u):wy a f df v:=by
 obtain⟨vs,h1,h2,h3⟩:=h;exact⟨vs,h1,h2,λj p hj=>let⟨u,q1,q2⟩:=h3 j p hj;⟨u,q1,b _ _ _ q2⟩⟩
def vC (σ:Nat->Nat) (df:List (Nat×Nat)):List (Nat×Nat):=df.map λp=>(σ p.1,p.2)
theorem wy.map {O:Nat->Nat->Value->Prop} {σ:Nat->Nat} {f:Nat} {df:List (Nat×Nat)} {v:Value} (h:wy (λid g u=>O (σ id) g u) f df v):wy O f (vC σ df) v:=by
 obtain⟨vs,h1,h2,h3⟩:=h;refine⟨vs,h1,by unfold vC;rw[ahp];exact h2,λj p hj=>?_⟩;unfold vC at hj;rw[agd]at hj;cases a:df[j]? with
 | none=>rw[a]at hj;cases hj
 | some q=>
  rw[a]at hj;injection hj with hj;subst hj;exact h3 j q a
theorem wy.abP {O:Nat->Nat->Value->Prop} {σ:Nat->Nat} {f:Nat} {df:List (Nat×Nat)} {v:Value} (h:wy O f (vC σ df) v):wy (λid g u=>O (σ id) g u) f df v:=by
 obtain⟨vs,h1,h2,h3⟩:=h;refine⟨vs,h1,by unfold vC at h2;rw[ahp]at h2;exact h2,λj p hj=>?_⟩;obtain⟨u,q1,q2⟩:=h3 j (σ p.1,p.2) (by unfold vC;rw[agd,hj];rfl);exact⟨u,q1,q2⟩
def tq (μ:Mu) (h:List ar) (w:World) (f:Nat) (df:List (Nat×Nat)) (v:Value):Prop:=wy (λid g u=>cE μ h w id g 0 0 u) f df v
def wV:PV->Bool
 | .int _ _=>true
 | .bool _=>true
 | .str _=>true
 | .jI=>true
 | _=>false
def lC:PV->Bool
 | .agg cs=>cs.all wV
 | v=>wV v
def wc:PV->Value->Prop
 | .int k n,v=>v=.int k n
 | .bool b,v=>v=.bool b
 | .str s,v=>v=.string ⟨⟨s⟩⟩
 | _,v=>v.oneCell'=true
def uC:PV->Value->Prop
 | .agg cs,v=>∃vs:Array Value,v=.agg vs/\vs.size=cs.length/\∀(j:Nat) (pv:PV),cs[j]? =some pv->∃u:Value,vs[j]? =some u/\wc pv u
 | .jI,_=>True
 | pv,v=>wc pv v
def yF (C:PV->Value->Prop) (base sz n:Nat) (e:TypeId) (f:Nat->List PV):Obj->Prop
 | .cells cur c z=>c=e/\z=(0,0)/\base+n*sz<=cur.size/\∀(i j:Nat) (pv:PV),i<n->(f i)[j]? =some pv->∃v:Value,cur[base+i*sz+j]? =some v/\C pv v
 | .map es _=>es.size=n/\∀i,i<n->∃(a b:PV) (en:MapEntry),f i=[a,b]/\lC a=true/\lC b=true/\es[i]? =some en/\uC a en.key/\uC b en.val
 | _=>False
theorem yF.mono {C a:PV->Value->Prop} {base sz n:Nat} {e:TypeId} {f:Nat->List PV} {o:Obj} (h:yF C base sz n e f o) (hc:∀(i j:Nat) (pv:PV) (v:Value),i<n->(f i)[j]? =some pv->C pv v->a pv v):yF a base sz n e f o:=by
 cases o with
 | cells cur b z=>
  obtain⟨h1,h2,h3,h4⟩:=h;exact⟨h1,h2,h3,λi j pv hi hj=>let⟨v,q1,q2⟩:=h4 i j pv hi hj;⟨v,q1,hc i j pv v hi hj q2⟩⟩
 | map es c=>exact h
 | _=>exact h.elim
def cD (μ:Mu) (h:List ar) (S:Nat->Prop) (w:World):PV->Value->Prop
 | .own id gen off len,v=>cf μ h w id gen off len v
 | .bE id gen i off,v=>cE μ h w id gen i off v
 | .ql id,v=>gy μ h w id v
 | .uP f df,v=>tq μ h w f df v
 | .jI,v=>v.oneCell'=true
 | .aV _ _ _ _ _,v=>v.oneCell'=true
 | .agg _,_=>False
 | .hJ _,_=>False
 | pv,v=>bz S w pv v
def rH (μ:Mu) (h:List ar) (S:Nat->Prop) (w:World):PV->Value->Prop
 | .aV sz n e f F,v=>oz S w (.aV sz n e f F) v
 | pv,v=>cD μ h S w pv v
def jG (μ:Mu) (h:List ar) (S:Nat->Prop) (w:World):PV->Value->Prop
 | .agg cs,v=>∃vs:Array Value,v=.agg vs/\vs.size=cs.length/\∀(j:Nat) (pv:PV),cs[j]? =some pv->∃u:Value,vs[j]? =some u/\cD μ h S w pv u
 | .jI,_=>True
 | pv,v=>cD μ h S w pv v
def cw (μ:Mu) (h:List ar) (S:Nat->Prop) (w:World):PV->Value->Prop
 | .hJ a,v=>∃vs:Array Value,v=.tuple vs/\vs.size=a.length/\∀(j:Nat) (pv:PV),a[j]? =some pv->∃u:Value,vs[j]? =some u/\jG μ h S w pv u
 | pv,v=>jG μ h S w pv v
def cW (μ:Mu) (h:List ar) (S:Nat->Prop) (w:World):Prop:=
 ∀(id g sz n:Nat) (e:TypeId) (f:Nat->List PV),h[id]? =some (ar.row g sz n e f)->(∀i,i<n->(f i).length=sz)/\match μ id with
  | none=>n=0
  | some (b,base)=>∃o:Obj,w.heap[b]? =some o/\yF (rH μ h S w) base sz n e f o
theorem cW.cells {μ:Mu} {h:List ar} {S:Nat->Prop} {w:World} {b base k sz n:Nat} {e:TypeId} {f:Nat->List PV} (hc:lD w b k) (a:∃o:Obj,w.heap[b]? =some o/\yF (rH μ h S w) base sz n e f o):
  ∃cur:Array Value,w.heap[b]? =some (.cells cur e (0,0))/\base+n*sz<=cur.size/\
    ∀(i j:Nat) (pv:PV),i<n->(f i)[j]? =some pv->∃v:Value,cur[base+i*sz+j]? =some v/\rH μ h S w pv v:=by
 obtain⟨cur,c,z,h1,_⟩:=hc;obtain⟨o,h2,h3⟩:=a;obtain rfl:=agy (h1.symm.trans h2);obtain⟨rfl,rfl,q1,q2⟩:=h3;exact⟨cur,h1,q1,q2⟩
theorem cW.Dv {C:PV->Value->Prop} {w:World} {b base sz n:Nat} {e:TypeId} {f:Nat->List PV} (a:∃cur:Array Value,w.heap[b]? =some (.cells cur e (0,0))/\base+n*sz<=cur.size/\
    ∀(i j:Nat) (pv:PV),i<n->(f i)[j]? =some pv->∃v:Value,cur[base+i*sz+j]? =some v/\C pv v):∃o:Obj,w.heap[b]? =some o/\yF C base sz n e f o:=by
 obtain⟨cur,h1,h2,h3⟩:=a;exact⟨_,h1,rfl,rfl,h2,h3⟩
def Dw (μ:Mu) (h:List ar) (b:Nat):Prop:=∃(id g sz n:Nat) (e:TypeId) (f:Nat->List PV) (base:Nat),h[id]? =some (ar.row g sz n e f)/\μ id=some (b,base)
def dD (h:List ar) (id i j b:Nat):Prop:=∃(g sz n:Nat) (e:TypeId) (f:Nat->List PV) (a c:Nat) (d:TypeId) (k:Nat->List PV) (F:Nat->Prop),h[id]? =some (ar.row g sz n e f)/\i<n/\(f i)[j]? =some (.aV a c d k F)/\F b
def dc (μ:Mu) (h:List ar) (b:Nat):Prop:=Dw μ h b\/∃id i j,dD h id i j b
def Qf (S:Nat->Prop) (w:World):Prop:=(∀p,p∈GV->S p.1/\∃t z,w.heap[p.1]? =some (.cells p.2 t z))/\(∀g,g∈ze->S g/\∃a p t z,w.heap[g]? =some (.cells #[.iface a p] t z))/\
 ∀g,g∈Oi->S g/\∃m t z,w.heap[g]? =some (.cells #[.int .i64 m] t z)
theorem Qf.oY {S S':Nat->Prop} {w w':World} (h:Qf S w) (hb:∀b,S b->w'.heap[b]? =w.heap[b]?) (hs:∀b,S b->S' b):Qf S' w':=
 ⟨λp hp=>⟨hs _ (h.1 p hp).1,by rw[hb _ (h.1 p hp).1];exact(h.1 p hp).2⟩,λg hg=>⟨hs _ (h.2.1 g hg).1,by rw[hb _ (h.2.1 g hg).1];exact(h.2.1 g hg).2⟩,
  λg hg=>⟨hs _ (h.2.2 g hg).1,by rw[hb _ (h.2.2 g hg).1];exact(h.2.2 g hg).2⟩⟩
structure vz (μ:Mu) (h:List ar) (S:Nat->Prop) (w:World):Prop where
 apart:∀b,dc μ h b->¬S b
 lt:∀b,dc μ h b->b<w.heap.size
 slt:∀b,S b->b<w.heap.size
 inj:∀(i j g sz n:Nat) (e:TypeId) (f:Nat->List PV) (g' cA n':Nat) (e':TypeId) (f':Nat->List PV) (b o o':Nat),h[i]? =some (ar.row g sz n e f)->h[j]? =some (ar.row g' cA n' e' f')->μ i=some (b,o)->μ j=some (b,o')->i=j
 known:Qf S w
 hv:∀b,Dw μ h b->∀id i j,¬dD h id i j b
 hh:∀b id i j id' i' j',dD h id i j b->dD h id' i' j' b->id=id'/\i=i'/\j=j'
structure Fr (μ:Mu) (h:List ar) (S:Nat->Prop) (w:World) (μ':Mu) (h':List ar) (S':Nat->Prop) (w':World):Prop where
 len:h.length<=h'.length
 blocks:∀b,b<w.heap.size->¬dc μ h b->w'.heap[b]? =w.heap[b]?
 sub:∀b,S b->S' b
 new:∀b,S' b->S b\/dc μ h b\/w.heap.size<=b
 own:∀b,dc μ' h' b->dc μ h b\/w.heap.size<=b
 size:w.heap.size<=w'.heap.size
 os:w'.os=w.os
 tape:w'.tape=w.tape
 output:w'.output=w.output
 Dx:∀(id g sz n:Nat) (e:TypeId) (f:Nat->List PV),h[id]? =some (ar.row g sz n e f)->match h'[id]? with
  | some (ar.row g' cA n' e' _)=>g<=g'/\(g'=g->μ' id=μ id/\cA=sz/\n'=n/\e'=e)
  | some ar.dead=>True
  | none=>False
 dead:∀id:Nat,h[id]? =some ar.dead->h'[id]? =some ar.dead
 df:∀b k,dc μ h b->lD w b k->lD w' b k
 maps:∀(id g sz n:Nat) (e:TypeId) (f:Nat->List PV) (b base:Nat),h[id]? =some (ar.row g sz n e f)->μ id=some (b,base)->uE w b->
  uE w' b/\(h'[id]? =some ar.dead\/((∃g' cA n' e' f',h'[id]? =some (ar.row g' cA n' e' f'))/\μ' id=some (b,base)))
 yg:∀b id i j,dD h id i j b->uE w b->uE w' b
def aaf (P:Program) (f:FuncId):Prop:=∃fn c,P.funcs[f]? =some fn/\fn.body=some c/\(fn.name== "runtime.NumGoroutine")=false
def ACall (P:Program) (f:FuncId) (args:List PV) (h:List ar) (R:PV->List ar->Prop):Prop:=
 aaf P f/\∀(w:World) (vs:Array Value) (μ:Mu) (S:Nat->Prop),cW μ h S w->vz μ h S w->vs.size=args.length->
  (∀(j:Nat) (pv:PV),args[j]? =some pv->∃v:Value,vs[j]? =some v/\jG μ h S w pv v)->
  Calls P f vs w (λe w'=>∃(v:Value) (res:PV) (h':List ar) (μ':Mu) (S':Nat->Prop),e=.returned v/\R res h'/\cw μ' h' S' w' res v/\cW μ' h' S' w'/\vz μ' h' S' w'/\Fr μ h S w μ' h' S' w')
def bW:PV->Bool
 | .int _ _=>true
 | .bool _=>true
 | .str _=>true
 | .au=>true
 | .jq=>true
 | .gn _ _ _=>true
 | .fT _=>true
 | .fn _=>true
 | _=>false
def dM:PV->Bool
 | .aV _ _ _ _ _=>true
 | _=>false
inductive B5:PV->PV->Prop
 | mk (sz n:Nat) (e:TypeId) (f f':Nat->List PV) (F:Nat->Prop) (hl:∀i,i<n->(f' i).length=(f i).length) (hf:∀(i j:Nat) (pv fG:PV),i<n->(f i)[j]? =some pv->(f' i)[j]? =some fG->dM pv=false->fG=pv) (ho:∀(i j:Nat) (pv fG:PV),i<n->(f i)[j]? =some pv->(f' i)[j]? =some fG->dM pv=true->B5 pv fG)
   (hp:∀(i j:Nat) (fG:PV),i<n->(f' i)[j]? =some fG->bW fG=true):B5 (.aV sz n e f F) (.gn sz n f')
inductive Fz (h η:List ar) (k:List Nat):PV->PV->Prop
 | int (k':IntKind) (n:Int):Fz h η k (.int k' n) (.int k' n)
 | bool (b:Bool):Fz h η k (.bool b) (.bool b)
 | str (s:List UInt8):Fz h η k (.str s) (.str s)
 | au:Fz h η k .au .au
 | jq:Fz h η k .jq .jq
 | WS (sz:Nat) (f:Nat->List PV):Fz h η k .au (.gn sz 0 f)
 | abY (id id' g' cA:Nat) (e':TypeId) (f':Nat->List PV) (hk:k[id']? =some id) (ho:h[id]? =none) (hη:η[id']? =some (ar.row g' cA 0 e' f')):Fz h η k .au (.own id' g' 0 0)
 | fn (f:Nat):Fz h η k (.fn f) (.fn f)
 | gn (sz n:Nat) (f f':Nat->List PV) (hf:∀i,i<n->f' i=f i):Fz h η k (.gn sz n f) (.gn sz n f')
 | fT (cs:List PV):Fz h η k (.fT cs) (.fT cs)
 | jI (pv:PV):Fz h η k pv .jI
 | aV (sz n:Nat) (e:TypeId) (f:Nat->List PV) (F:Nat->Prop):Fz h η k (.aV sz n e f F) (.aV sz n e f F)
 | pK (sz:Nat) (e:TypeId) (f:Nat->List PV):Fz h η k .au (.aV sz 0 e f (λ_=>False))
 | own (id id' g g' sz cA n n' off len:Nat) (e e':TypeId) (f f':Nat->List PV) (hk:k[id']? =some id) (ho:h[id]? =some (ar.row g sz n e f)) (hη:η[id']? =some (ar.row g' cA n' e' f')) (hn:off+len<=n'):Fz h η k (.own id g off len) (.own id' g' off len)
 | bE (id id' g g' sz cA n n' i off:Nat) (e e':TypeId) (f f':Nat->List PV) (hk:k[id']? =some id) (ho:h[id]? =some (ar.row g sz n e f)) (hη:η[id']? =some (ar.row g' cA n' e' f')) (hn:i<n'):Fz h η k (.bE id g i off) (.bE id' g' i off)
 | ql (id id' g g' sz cA n n':Nat) (e e':TypeId) (f f':Nat->List PV) (hk:k[id']? =some id) (ho:h[id]? =some (ar.row g sz n e f)) (hη:η[id']? =some (ar.row g' cA n' e' f')):Fz h η k (.ql id) (.ql id')
 | uP (f:Nat) (df Lm:List (Nat×Nat)) (hl:Lm.length=df.length) (hc:∀(j:Nat) (p p':Nat×Nat),df[j]? =some p->Lm[j]? =some p'->k[p'.1]? =some p.1/\(∃sz n e f,h[p.1]? =some (ar.row p.2 sz n e f))/\∃sz n e f,η[p'.1]? =some (ar.row p'.2 sz n e f)/\0<n):Fz h η k (.uP f df) (.uP f Lm)
 | frz (id g sz n off len:Nat) (e:TypeId) (f f':Nat->List PV) (hk:id∉k) (ho:h[id]? =some (ar.row g sz n e f)) (hl:∀i,i<len->(f' i).length=(f (off+i)).length)
   (hp:∀(i j:Nat) (fG:PV),i<len->(f' i)[j]? =some fG->bW fG=true)
   (hf:∀(i j:Nat) (pv fG:PV),i<len->(f (off+i))[j]? =some pv->(f' i)[j]? =some fG->¬B5 pv fG->Fz h η k pv fG):Fz h η k (.own id g off len) (.gn sz len f')
 | agg (cs AA:List PV) (hl:AA.length=cs.length) (hc:∀(j:Nat) (pv fG:PV),cs[j]? =some pv->AA[j]? =some fG->Fz h η k pv fG):Fz h η k (.agg cs) (.agg AA)
 | hJ (cs AA:List PV) (hl:AA.length=cs.length) (hc:∀(j:Nat) (pv fG:PV),cs[j]? =some pv->AA[j]? =some fG->Fz h η k pv fG):Fz h η k (.hJ cs) (.hJ AA)
def wB (h η:List ar) (k:List Nat):List PV->List PV->Prop
 | [],[]=>True
 | a::l,b::r=>Fz h η k a b/\wB h η k l r
 | _,_=>False
def PZ:List Nat->Nat->Bool
 | [],_=>false
 | a::r,x=>match Nat.beq a x with
  | true=>true
  | false=>PZ r x
def rK:List Nat->Bool
 | []=>true
 | a::r=>match PZ r a with
  | true=>false
  | false=>rK r
def rq:List ar->List Nat->List Nat
 | .row _ _ _ _ _::r,i::is=>i::rq r is
 | .dead::r,_::is=>rq r is
 | _,_=>[]
def xP (h η:List ar) (k:List Nat) (m:Nat) (o:ar) (a id:Nat):Prop:=
 match o,h[id]? with
 | .row c d b j l,some (ar.row g sz n e f)=>(a<m->a=id/\c=g)/\d=sz/\(b=n\/m<=a/\sz≠2/\b<=n)/\j=e/\
   ∀i,i<b->wB h η k (f i) (l i)
 | .dead,_=>True
 | .row _ _ b _ _,none=>m<=a/\b=0
 | _,_=>False
def dN (l:List PV) (off:Nat):List PV->List PV
 | []=>l
 | c::r=>dN (l.set off c) (off+1) r
def cellsOf:PV->List PV
 | .agg cs=>cs
 | v=>[v]
def dx (h:List ar) (id:Nat):ar:=h.getD id .dead
def force (v:PV) (K:PV->Prop):Prop:=
 match v with
 | .int k n=>K (.int k n)
 | .bool b=>K (.bool b)
 | .str s=>K (.str s)
 | .au=>K .au
 | .jq=>K .jq
 | .gn sz n f=>K (.gn sz n f)
 | .fT cs=>K (.fT cs)
 | .own id gen off len=>K (.own id gen off len)
 | .bE id gen i off=>K (.bE id gen i off)
 | .ql id=>K (.ql id)
 | .uP f df=>K (.uP f df)
 | .fn f=>K (.fn f)
 | .agg cs=>K (.agg cs)
 | .hJ vs=>K (.hJ vs)
 | .jI=>K .jI
 | .aV sz n e f F=>K (.aV sz n e f F)
theorem cG {v:PV} {K:PV->Prop} (h:force v K):K v:=by cases v<;>exact h
def GM (K:List PV->Prop):Nat->List PV->List PV->Prop
 | 0,_,acc=>K acc.reverse
 | _+1,[],_=>False
 | n+1,c::r,acc=>force c λv=>GM K n r (v::acc)
theorem tl {K:List PV->Prop}:∀(n:Nat) (l acc:List PV),GM K n l acc->n<=l.length/\K (acc.reverse++l.take n)
 | 0,l,acc,h=>⟨agt _,by simp only[ahj,agB];exact h⟩
 | _+1,[],_,h=>h.elim
 | n+1,c::r,acc,h=>by
  obtain⟨h1,h2⟩:=tl n r (c::acc) (cG h);exact⟨by simp;omega,by simpa using h2⟩
def AQ (T:sI) (t:Nat) (cells:List PV) (K:PV->Prop):Prop:=
 match T.get t with
 | .struct sz _ _=>GM (λl=>K (.agg l)) sz cells []
 | .other=>False
 | _=>match cells with
  | c::_=>force c K
  | []=>False
def zK (T:sI) (t:Nat) (a:PV) (h:List ar) (K:PV->Prop):Prop:=
 match a with
 | .fT cells=>AQ T t cells K
 | .bE id gen i off=>match dx h id with
  | .row g _ _ _ f=>g=gen/\∃c,f i=c/\AQ T t (c.drop off) K
  | .dead=>False
 | _=>False
def bu (f:Nat->List PV) (i:Nat) (l:List PV):Nat->List PV:=λk=>bif Nat.beq k i then l else f k
def Bi:List PV->Bool
 | []=>true
 | .int _ _::r=>Bi r
 | .bool _::r=>Bi r
 | .str _::r=>Bi r
 | _=>false
def JY (g:Bool) (q:Bool):Option Bool->Option Bool
 | some c=>match g with
  | true=>some (q&&c)
  | false=>none
 | none=>none
def FU:List PV->List PV->List PV->Option Bool
 | [],[],[]=>some true
 | .int k _::z,.int d a::r,.int e b::c=>JY (uB k d&&uB k e) (a==b) (FU z r c)
 | .bool _::z,.bool a::r,.bool b::c=>JY true (a==b) (FU z r c)
 | .str _::z,.str a::r,.str b::c=>JY true (a==b) (FU z r c)
 | _,_,_=>none
def nM (ti:TI) (a b:PV):Option Bool:=
 match ti,a,b with
 | .int k,.int c x,.int d y=>JY (uB k c&&uB k d) (x==y) (some true)
 | .str,.str x,.str y=>some (x==y)
 | .struct _ _ z,.agg xs,.agg e=>match Bi z with
  | true=>FU z xs e
  | false=>none
 | _,_,_=>none
def FZ (ti:TI) (f:Nat->List PV) (n:Nat) (kv:PV):Prop:=∀j,j<n->∃a b,f j=[a,b]/\nM ti kv a=some false
def MAt (ti:TI) (f:Nat->List PV) (n:Nat) (kv:PV) (i:Nat) (r:PV):Prop:=i<n/\FZ ti f i kv/\∃a,f i=[a,r]/\nM ti kv a=some true
def Sf (ti:TI) (f:Nat->List PV) (n:Nat) (kv zv r:PV) (b:Bool):Prop:=(b=true/\∃i,MAt ti f n kv i r)\/(b=false/\r=zv/\FZ ti f n kv)
def abX (ti:TI) (f:Nat->List PV) (n:Nat) (kv b:PV) (c:Nat) (a:Nat->List PV):Prop:=
 (∃i r,MAt ti f n kv i r/\c=n/\a i=[kv,b]/\∀j,j<n->j≠i->a j=f j)\/(FZ ti f n kv/\c=n+1/\a n=[kv,b]/\∀j,j<n->a j=f j)
def Pa (ti:TI) (d:BinOp) (x y:PV) (K:PV->Prop):Prop:=
 match x,y with
 | .int k a,.int e b=>
  match d with
  | .shl=>0<=b/\K (.int k (k.wrap (a*2 ^ min b.toNat k.bits)))
  | .shr=>0<=b/\K (.int k (a.fdiv (2 ^ min b.toNat k.bits)))
  | _=>dX (uB k e)<|match d with
  | .and=>K (.int k (bits .and k a b))
  | .or=>K (.int k (bits .or k a b))
  | .xor=>K (.int k (bits .xor k a b))
  | .andNot=>K (.int k (bits .andNot k a b))
  | .add=>K (.int k (k.wrap (a+b)))
  | .sub=>K (.int k (k.wrap (a - b)))
  | .mul=>K (.int k (k.wrap (a*b)))
  | .quo=>b≠0/\K (.int k (k.wrap (a.tdiv b)))
  | .rem=>b≠0/\K (.int k (a.tmod b))
  | .eql=>K (.bool (a==b))
  | .neq=>K (.bool (a != b))
  | .lss=>K (.bool (decide (a<b)))
  | .leq=>K (.bool (decide (a<=b)))
  | .gtr=>K (.bool (decide (a>b)))
  | .geq=>K (.bool (decide (a>=b)))
  | _=>False
 | .bool a,.bool b=>match ti,d with
  | .bool,.eql=>K (.bool (a==b))
  | .bool,.neq=>K (.bool (!(a==b)))
  | _,_=>False
 | .str a,.str b=>match d with
  | .add=>a.length+b.length<=4611686018427387904/\∃s,a++b=s/\K (.str s)
  | .eql=>K (.bool (a==b))
  | .neq=>K (.bool (!(a==b)))
  | .lss=>K (.bool (Op.bytesLess a b))
  | .leq=>K (.bool (Op.bytesLess a b||a==b))
  | .gtr=>K (.bool !(Op.bytesLess a b||a==b))
  | .geq=>K (.bool !(Op.bytesLess a b))
  | _=>False
 | .agg xs,.agg f=>match ti with
  | .struct _ _ z=>dX (Bi z) (match FU z xs f with
   | some b=>match d with
    | .eql=>∃c,b=c/\K (.bool c)
    | .neq=>∃c,b=c/\K (.bool !c)
    | _=>False
   | none=>False)
  | _=>False
 | _,_=>False
def Dp (x:PV) (lo hi:Option PV) (K:PV->Prop):Prop:=
 match x with
 | .gn sz n f=>match lo,hi with
  | none,none=>K (.gn sz n f)
  | some (.int _ l),none=>(0<=l/\l<=n)/\K (.gn sz (n - l.toNat) (λi=>f (l.toNat+i)))
  | none,some (.int _ m)=>(0<=m/\m<=n)/\K (.gn sz m.toNat f)
  | some (.int _ l),some (.int _ m)=>(0<=l/\l<=m/\m<=n)/\K (.gn sz (m.toNat - l.toNat) (λi=>f (l.toNat+i)))
  | _,_=>False
 | .own id gen off len=>match lo,hi with
  | none,none=>K (.own id gen off len)
  | some (.int _ l),none=>(0<=l/\l<=len)/\K (.own id gen (off+l.toNat) (len - l.toNat))
  | none,some (.int _ m)=>(0<=m/\m<=len)/\K (.own id gen off m.toNat)
  | some (.int _ l),some (.int _ m)=>(0<=l/\l<=m/\m<=len)/\K (.own id gen (off+l.toNat) (m.toNat - l.toNat))
  | _,_=>False
 | .str s=>match lo,hi with
  | none,none=>K (.str s)
  | some (.int _ l),none=>(0<=l/\l<=s.length)/\K (.str (s.drop l.toNat))
  | none,some (.int _ m)=>(0<=m/\m<=s.length)/\K (.str (s.take m.toNat))
  | some (.int _ l),some (.int _ m)=>(0<=l/\l<=m/\m<=s.length)/\K (.str ((s.take m.toNat).drop l.toNat))
  | _,_=>False
 | _=>False
def J0 (K:PV->Prop) (v:PV):Prop:=
 match v with
 | .gn sz n f=>∃a b,a=n/\(∀i,i<a->b i=f i)/\K (.gn sz a b)
 | .str s=>∃c,s=c/\K (.str c)
 | .own id g off n=>∃d a,d=off/\a=n/\K (.own id g d a)
 | v=>K v
def Uy (n:Nat) (hi a:Option PV):Prop:=
 match a with
 | none=>True
 | some (.int _ q)=>match hi with
  | some (.int _ m)=>m<=q/\q<=n
  | _=>False
 | _=>False
def isByte:List PV->Bool
 | [.int .u8 _]=>true
 | _=>false
def byteOf:List PV->UInt8
 | [.int _ v]=>UInt8.ofNat v.toNat
 | _=>0
def yC (v:PV) (h:List ar) (K:List UInt8->Prop):Prop:=
 match v with
 | .au=>K []
 | .gn sz n f=>dX (Nat.beq sz 1) (∃s:List UInt8,s.length=n/\(∀i,i<n->f i=[.int .u8 (s.getD i 0).toNat])/\K s)
 | .own id gen off n=>match dx h id with
  | .row g sz _ _ f=>g=gen/\dX (Nat.beq sz 1) (∃s:List UInt8,s.length=n/\(∀i,i<n->f (off+i)=[.int .u8 (s.getD i 0).toNat])/\K s)
  | .dead=>False
 | _=>False
def oI:PV->Bool
 | .agg _=>false
 | .hJ _=>false
 | .jI=>false
 | .aV _ _ _ _ _=>false
 | _=>true
def storable:PV->Bool
 | .agg cs=>cs.all oI
 | v=>oI v
def tm (env:Env) (sz:Nat) (fl:List (Nat×Nat×Bool)) (K:List PV->Prop):List (Nat×Operand)->List PV->Prop
 | [],acc=>K acc
 | (k,x)::r,acc=>match fl[k]? with
  | some (o,size,_)=>force (ev env x) λv=>dX (storable v&&Nat.beq (cellsOf v).length size&&Nat.ble (o+size) sz) (tm env sz fl K r (dN acc o (cellsOf v)))
  | none=>False
def de (T:sI) (op:Op) (env:Env) (h:List ar) (K:PV->Prop):Prop:=
 match op with
 | .move x=>force (ev env x) K
 | .assign x=>force (ev env x) K
 | .pick c a b=>match ev env c with
  | .bool t=>eN t (force (ev env a) K) (force (ev env b) K)
  | _=>False
 | .binOp q t x y _=>Pa (T.get t) q (ev env x) (ev env y) K
 | .unOp u _ x=>match u,ev env x with
  | .not,.bool b=>K (.bool !b)
  | .neg,.int k n=>K (.int k (k.wrap (0 - n)))
  | _,_=>False
 | .load t a=>zK T t (ev env a) h K
 | .convert s d x=>match T.get s,T.get d,ev env x with
  | .int _,.int k,.int _ n=>K (.int k (k.wrap n))
  | .slice e _ _ _,.str,v=>match T.get e with
   | .int .u8=>yC v h (λs=>K (.str s))
   | _=>False
  | _,_,_=>False
 | .nilCheck x=>match ev env x with
  | .fT cs=>K (.fT cs)
  | .bE id gen i off=>match dx h id with
   | .row g _ _ _ _=>g=gen/\K (.bE id gen i off)
   | .dead=>False
  | _=>False
 | .fieldAddr s x k=>match T.get s with
  | .struct _ fl _=>match fl[k]? with
   | some (o,_,_)=>match ev env x with
    | .fT cs=>K (.fT (cs.drop o))
    | .bE id gen i off=>match dx h id with
     | .row g _ _ _ _=>g=gen/\K (.bE id gen i (off+o))
     | .dead=>False
    | _=>False
   | none=>False
  | _=>False
 | .field s x k=>match T.get s with
  | .struct _ fl _=>match fl[k]? with
   | some (o,size,w)=>match ev env x with
    | .agg cs=>match w with
     | true=>GM (λl=>K (.agg l)) size (cs.drop o) []
     | false=>match cs.drop o with
      | c::_=>force c K
      | []=>False
    | _=>False
   | none=>False
  | _=>False
 | .build t parts=>match T.get t with
  | .struct sz fl z=>tm env sz fl (λcs=>K (.agg cs)) parts.toList z
  | _=>False
 | .indexAddr t x i=>match T.get t,ev env x,ev env i with
  | .slice _ sz _ _,.gn m n f,.int _ i=>dX (Nat.beq sz m) ((0<=i/\i<n)/\∃c,f i.toNat=c/\K (.fT c))
  | .slice _ sz _ _,.own id gen off len,.int _ i=>match dx h id with
   | .row g m _ A _=>g=gen/\dX (Nat.beq sz m&&!Nat.beq A Tm) ((0<=i/\i<len)/\∃j,off+i.toNat=j/\K (.bE id gen j 0))
   | .dead=>False
  | _,_,_=>False
 | .index t x i=>match T.get t,ev env x,ev env i with
  | .str,.str s,.int _ i=>(0<=i/\i<s.length)/\∃c,s.getD i.toNat 0=c/\K (.int .u8 (c:UInt8).toNat)
  | _,_,_=>False
 | .lookup t x i ok=>match T.get t,ev env x with
  | .map kt _ zv,.ql id=>match dx h id with
   | .row _ _ n _ f=>force (ev env i) λkv=>dX (nM (T.get kt) kv kv).isSome (∃r b,Sf (T.get kt) f n kv zv r b/\match ok with
    | true=>K (.hJ [r,.bool b])
    | false=>force r K)
   | .dead=>False
  | _,_=>False
 | .extract x i=>match ev env x with
  | .hJ vs=>match vs[i]? with
   | some v=>force v K
   | none=>False
  | _=>False
 | .slice t x lo hi p=>match T.get t,ev env x with
  | .slice _ sz _ _,.gn m n f=>dX (Nat.beq sz m) (Uy n (hi.map (ev env)) (p.map (ev env))/\Dp (.gn m n f) (lo.map (ev env)) (hi.map (ev env)) (J0 K))
  | .slice _ sz _ _,.own id gen off len=>match dx h id with
   | .row g m _ _ _=>g=gen/\dX (Nat.beq sz m) (Uy len (hi.map (ev env)) (p.map (ev env))/\Dp (.own id gen off len) (lo.map (ev env)) (hi.map (ev env)) (J0 K))
   | .dead=>False
  | .str,.str s=>dX p.isNone (Dp (.str s) (lo.map (ev env)) (hi.map (ev env)) (J0 K))
  | _,_=>False
 | .call ⟨.builtin .len,args,B⟩=>match args.toList,B.toList with
  | [x],[t]=>match T.get t,ev env x with
   | .slice _ _ _ _,.gn _ n _=>K (.int .i64 n)
   | .slice _ _ _ _,.au=>K (.int .i64 0)
   | .slice _ _ _ _,.own id gen _ n=>match dx h id with
    | .row g _ _ _ _=>g=gen/\K (.int .i64 n)
    | .dead=>False
   | .str,.str s=>K (.int .i64 s.length)
   | .map _ _ _,.ql id=>match dx h id with
    | .row _ _ n _ _=>K (.int .i64 n)
    | .dead=>False
   | _,_=>False
  | _,_=>False
 | _=>False
def ng:TI->Nat
 | .struct sz _ _=>sz
 | .other=>0
 | _=>1
def Dg:TI->Option (List PV)
 | .int k=>some [.int k 0]
 | .bool=>some [.bool false]
 | .str=>some [.str []]
 | .slice _ _ _ _=>some [.au]
 | .struct _ _ z=>some z
 | _=>none
def Bn (len:Nat):Nat->List (Nat×Operand)->Bool
 | k,[]=>Nat.beq k len
 | k,(i,_)::r=>Nat.beq i k&&Bn len (k+1) r
def uN (env:Env) (sz:Nat) (K:List (List PV)->Prop):List (Nat×Operand)->List (List PV)->Prop
 | [],acc=>K acc.reverse
 | (_,x)::r,acc=>force (ev env x) λv=>dX (storable v&&Nat.beq (cellsOf v).length sz) (uN env sz K r (cellsOf v::acc))
theorem Bo {env:Env} {sz:Nat} {K:List (List PV)->Prop}:∀(l:List (Nat×Operand)) (acc:List (List PV)),uN env sz K l acc->
  (∀p∈l,storable (ev env p.2)=true/\Nat.beq (cellsOf (ev env p.2)).length sz=true)/\K (acc.reverse++l.map λp=>cellsOf (ev env p.2))
 | [],acc,h=>⟨λp hp=>by simp at hp,by simp only[afR,agB];exact h⟩
 | (i,x)::r,acc,h=>by
  obtain⟨h1,h2⟩:=ck (cG h);simp only[As]at h1;obtain⟨h3,h4⟩:=Bo r _ h2;refine⟨λp hp=>?_,by simpa using h4⟩;simp only[afW]at hp;rcases hp with rfl | hp
  ·exact h1
  ·exact h3 p hp
def noO:List PV->Bool
 | []=>true
 | .aV _ _ _ _ _::_=>false
 | _::r=>noO r
def Nn (x:PV) (h:List ar) (sz:Nat) (K:Nat->(Nat->List PV)->Prop):Prop:=
 match x with
 | .au=>K 0 (λ_=>[])
 | .gn a m g=>dX (Nat.beq sz a) (K m g)
 | .own id gen off m=>match dx h id with
  | .row g a _ _ f=>g=gen/\(∀i,i<m->noO (f (off+i))=true)/\dX (Nat.beq sz a) (K m (λi=>f (off+i)))
  | .dead=>False
 | .str s=>dX (Nat.beq sz 1)<|K s.length (λi=>[.int .u8 (s.getD i 0).toNat])
 | _=>False
def xE (e sz bytes:Nat) (s x:PV) (h:List ar) (K:PV->List ar->Prop):Prop:=
 match s with
 | .au=>Nn x h sz λm g=>m*bytes<=140737488355328/\∃a b,a=m/\(∀i,i<a->oN (g i) (b i))/\K (.own h.length 0 0 a) (h++[.row 0 sz a e b])
 | .own id gen off len=>match dx h id with
  | .row g c _ d f=>g=gen/\dX (Nat.beq sz c&&Nat.beq e d) (Nn x h sz λm q=>(len+m)*bytes<=140737488355328/\∃a b,a=len+m/\
    (∀i,i<a->oN (bif Nat.blt i len then f (off+i)else q (i - len)) (b i))/\
    K (.own id (gen+1) 0 a) (h.set id (.row (gen+1) sz a e b)))
  | .dead=>False
 | _=>False
def fjn (f:Nat->List PV) (n:Nat) (q:Nat->List PV):Nat->List PV:=λi=>bif Nat.blt i n then f i else q (i - n)
def Lg (e sz bytes:Nat) (s x:PV) (h:List ar) (K:PV->List ar->Prop):Prop:=
 match s,x with
 | .au,.own a b 0 m=>match dx h a with
  | .row c qs _ _ q=>c=b/\dX (Nat.beq sz qs) (m*bytes<=140737488355328/\K (.own h.length 1 0 m) (((h++[ar.row 0 sz 0 e (λ_=>[])]).set h.length (ar.row 1 sz m e q)).set a ar.dead))
  | .dead=>False
 | .own id gen 0 len,.own a b 0 m=>match dx h id with
  | .row g d _ i f=>match dx h a with
   | .row c qs _ _ q=>g=gen/\c=b/\dX (Nat.beq sz d&&(Nat.beq e i&&(Nat.beq sz qs&&!Nat.beq a id))) ((len+m)*bytes<=140737488355328/\K (.own id (gen+1) 0 (len+m)) ((h.set id (ar.row (gen+1) sz (len+m) e (fjn f len q))).set a ar.dead))
   | .dead=>False
  | .dead=>False
 | _,_=>False
inductive Nq (e sz bytes:Nat) (s x:PV) (h:List ar) (K:PV->List ar->Prop):Prop
 | oY (hp:xE e sz bytes s x h K)
 | move (hp:Lg e sz bytes s x h K)
def mh:PV->Bool
 | .hJ _=>false
 | _=>true
inductive vV (P:Program) (f:FuncId) (args:List PV) (h:List ar) (K:PV->List ar->Prop):Prop
 | mk (R:PV->List ar->Prop) (hA:ACall P f args h R) (hk:∀res h',R res h'->K res h')
def pop (P:Program) (T:sI) (op:Op) (env:Env) (h:List ar) (K:PV->List ar->Prop):Prop:=
 match op with
 | .store t a x=>match ev env a with
  | .bE id gen i off=>match dx h id with
   | .row g sz n e f=>g=gen/\force (ev env x) λv=>dX (storable v&&Nat.ble 1 (ng (T.get t))&&Nat.beq (ng (T.get t)) (cellsOf v).length&&Nat.ble (off+(cellsOf v).length) sz)
     (∃c o,f i=c/\(∀j,j<n->oN (bu f i (dN c off (cellsOf v)) j) (o j))/\K .jI (h.set id (.row g sz n e o)))
   | .dead=>False
  | _=>False
 | .box t x=>force (ev env x) λv=>dX (storable v&&Nat.beq (cellsOf v).length (ng (T.get t))) (K (.bE h.length 0 0 0) (h++[.row 0 (ng (T.get t)) 1 t (λ_=>cellsOf v)]))
 | .alloc t=>match Dg (T.get t)with
  | some z=>K (.bE h.length 0 0 0) (h++[.row 0 (ng (T.get t)) 1 t (λ_=>z)])
  | none=>False
 | .makeSlice t l c=>match T.get t,ev env l,ev env c with
  | .slice e sz bytes zero,.int _ n,.int _ m=>(0<=n/\n<=m/\m<=4611686018427387904/\m.toNat*bytes<=140737488355328)/\∃q o,q=n.toNat/\(∀i,i<q->oN zero (o i))/\K (.own h.length 0 0 q) (h++[.row 0 sz q e o])
  | _,_,_=>False
 | .buildSlice t len parts=>match T.get t with
  | .slice e sz _ _=>dX (Bn len 0 parts.toList&&Nat.ble (len*sz) 65536) (uN env sz (λcs=>∃o,(∀i,i<len->oN (cs.getD i []) (o i))/\K (.own h.length 0 0 len) (h++[.row 0 sz len e o])) parts.toList [])
  | _=>False
 | .convert s d x=>match T.get s,T.get d,ev env x with
  | .str,.slice e _ _ _,.str b=>match T.get e with
   | .int .u8=>∃o,(∀i,i<b.length->o i=[.int .u8 (b.getD i 0).toNat])/\K (.gn 1 b.length o) h
   | _=>False
  | _,_,_=>de T (.convert s d x) env h (λv=>K v h)
 | .binOp u t x y ty=>match u,T.get t,ev env x,ev env y with
  | .eql,.slice _ _ _ _,.gn _ n _,.au=>(n=0->K (.bool true) h)/\K (.bool false) h
  | _,_,_,_=>de T (.binOp u t x y ty) env h (λv=>K v h)
 | .makeMap t none=>match T.get t with
  | .map _ _ _=>∃o,K (.ql h.length) (h++[.row 0 2 0 t o])
  | _=>False
 | .mapUpdate t m k x=>match T.get t,ev env m with
  | .map kt _ _,.ql id=>match dx h id with
   | .row g sz n e f=>force (ev env k) λkv=>force (ev env x) λr=>dX ((nM (T.get kt) kv kv).isSome&&lC r&&storable r&&Nat.beq sz 2)
     (∃q o,abX (T.get kt) f n kv r q o/\K .jI (h.set id (.row (g+1) 2 q e o)))
   | .dead=>False
  | _,_=>False
 | .call ⟨.builtin .append,args,w⟩=>match args.toList,w.toList with
  | [s,x],[t,tx]=>match T.get t,T.get tx with
   | .slice e sz bytes _,.slice _ _ _ _=>Nq e sz bytes (ev env s) (ev env x) h K
   | .slice e sz bytes _,.str=>Nq e sz bytes (ev env s) (ev env x) h K
   | _,_=>False
  | _,_=>False
 | .call ⟨.value A,args,_⟩=>match ev env A with
  | .fn f=>dX (args.toList.all (λx=>mh (ev env x))) (vV P f (args.toList.map (ev env)) h K)
  | .uP f df=>dX (args.toList.all (λx=>mh (ev env x))) (vV P f (args.toList.map (ev env)++df.map λp=>.bE p.1 p.2 0 0) h K)
  | _=>False
 | op=>de T op env h (λv=>K v h)
def xk (P:Program) (T:sI) (all:List Oper) (K:Env->List ar->Prop) (l:List Oper):Env->List ar->Prop:=
 List.rec (motive:=λ_=>Env->List ar->Prop) K (λo _ a env h=>match o.guard with
  | none=>pop P T o.op env h (λv h'=>a (eQ env o.dst v) h')
  | some (j,want)=>match(all[j]?).bind (·.dst)with
   | some t=>match env t with
    | .bool b=>eN b
      (match want with
       | true=>pop P T o.op (tR env t (.bool true)) h (λv h'=>a (eQ (tR env t (.bool true)) o.dst v) h')
       | false=>a (eQ (tR env t (.bool true)) o.dst (.hJ [])) h)
      (match want with
       | true=>a (eQ (tR env t (.bool false)) o.dst (.hJ [])) h
       | false=>pop P T o.op (tR env t (.bool false)) h (λv h'=>a (eQ (tR env t (.bool false)) o.dst v) h'))
    | .hJ []=>a (eQ env o.dst (.hJ [])) h
    | _=>False
   | none=>False) l
abbrev XQ:=Exit->Env->List ar->Prop
def XQ.then (next:Env->List ar->Prop) (Q:XQ):XQ
 | .normal,env,h=>next env h
 | e,env,h=>Q e env h
def XQ.inBlock (id:Nat) (Q:XQ):XQ
 | .exit a,env,h=>match Nat.beq a id with
  | true=>Q .normal env h
  | false=>Q (.exit a) env h
 | e,env,h=>Q e env h
def zm (h η:List ar) (k:List Nat) (env:Env):List (Nat×PV)->Prop
 | []=>True
 | (t,v)::r=>Fz h η k (env t) v/\zm h η k env r
def mW (h η:List ar) (k:List Nat) (m:Nat):Nat->List ar->List Nat->Prop
 | _,[],[]=>True
 | i,o::r,id::a=>xP h η k m o i id/\mW h η k m (i+1) r a
 | _,_,_=>False
def zQ (m:Nat) (env:Env) (h:List ar) (σ:List (Nat×PV)) (η:List ar):Prop:=
 ∃k:List Nat,rK (rq η k)=true/\m<=k.length/\zm h η k env σ/\mW h η k m 0 η k
def sr:Env:=λ_=>.jI
def Km (h h1:List ar):Prop:=∃(id g sz n:Nat) (e:TypeId) (f:Nat->List PV) (i j c a:Nat) (d:TypeId) (l:Nat->List PV) (F:Nat->Prop) (b:Nat->List PV),h[id]? =some (ar.row g sz n e f)/\i<n/\
 (f i)[j]? =some (.aV c a d l F)/\b i=(f i).set j (.own h.length 0 0 a)/\(∀k,k<n->k≠i->b k=f k)/\h1=h.set id (.row g sz n e b)++[.row 0 c a d l]
def G1 (h:List ar) (id i j sub:Nat) (F:Nat->Prop) (h1:List ar):Prop:=∃(g sz n:Nat) (e:TypeId) (f:Nat->List PV) (g2 qs n2:Nat) (e2:TypeId) (f2 a:Nat->List PV),h[id]? =some (ar.row g sz n e f)/\h[sub]? =some (ar.row g2 qs n2 e2 f2)/\
 id≠sub/\i<n/\(f i)[j]? =some (.own sub g2 0 n2)/\(∀k,k<n2->∀c,c∈f2 k->bW c=true\/dM c=true)/\a i=(f i).set j (.aV qs n2 e2 f2 F)/\(∀k,k<n->k≠i->a k=f k)/\
 h1=(h.set id (.row g sz n e a)).set sub .dead
inductive uh (m:Nat) (body:(Env->List ar->Prop)->Env->List ar->Prop):Env->List ar->Prop
 | take {env:Env} {h:List ar} (σ:List (Nat×PV)) (η:List ar) (ht:zQ m env h σ η) (hk:uh m body (Cb sr σ) η):uh m body env h
 | step {env:Env} {h:List ar} (N:Env->List ar->Prop) (hN:∀e h',N e h'->uh m body e h') (hb:body N env h):uh m body env h
 | ex {env:Env} {h:List ar} (h1:List ar) (hx:Km h h1) (hk:uh m body env h1):uh m body env h
 | ab {env:Env} {h:List ar} (id i j sub:Nat) (h1:(Nat->Prop)->List ar) (ha:∀F,G1 h id i j sub F (h1 F)) (hk:∀F,uh m body env (h1 F)):uh m body env h
def aB (m:Nat) (body:(Env->List ar->Prop)->Env->List ar->Prop) (σ:List (Nat×PV)) (η:List ar):Prop:=uh m body (Cb sr σ) η
inductive loopGo (m:Nat) (body:(Env->List ar->Prop)->Env->List ar->Prop) (env:Env):List ar->Prop
 | mk {h:List ar} (σ:List (Nat×PV)) (η:List ar) (ht:zQ m env h σ η) (hk:aB m body σ η):loopGo m body env h
 | ex {h:List ar} (h1:List ar) (hx:Km h h1) (hk:loopGo m body env h1):loopGo m body env h
 | ab {h:List ar} (id i j sub:Nat) (h1:(Nat->Prop)->List ar) (ha:∀F,G1 h id i j sub F (h1 F)) (hk:∀F,loopGo m body env (h1 F)):loopGo m body env h
theorem loopGo.to {m:Nat} {body:(Env->List ar->Prop)->Env->List ar->Prop} {env:Env} {h:List ar} (hg:loopGo m body env h):uh m body env h:=by
 induction hg with
 | mk σ η b hk=>exact .take σ η b hk
 | ex h1 c hk a=>exact .ex h1 c a
 | ab id i j sub h1 d hk a=>exact .ab id i j sub h1 d a
theorem aB.enter {m:Nat} {body:(Env->List ar->Prop)->Env->List ar->Prop} {env:Env} {h:List ar} (σ:List (Nat×PV)) (η:List ar) (a:zQ m env h σ η) (hk:aB m body σ η):uh m body env h:=.take σ η a hk
theorem aB.round {m:Nat} {body:(Env->List ar->Prop)->Env->List ar->Prop} {σ:List (Nat×PV)} {η:List ar} (hb:body (loopGo m body) (Cb sr σ) η):aB m body σ η:=
 .step (loopGo m body) (λ_ _ hg=>hg.to) hb
inductive zR (m:Nat) (J:List (Nat×PV)->List ar->Prop) (env:Env):List ar->Prop
 | mk {h:List ar} (σ:List (Nat×PV)) (η:List ar) (ht:zQ m env h σ η) (hj:J σ η):zR m J env h
 | ex {h:List ar} (h1:List ar) (hx:Km h h1) (hk:zR m J env h1):zR m J env h
 | ab {h:List ar} (id i j sub:Nat) (h1:(Nat->Prop)->List ar) (ha:∀F,G1 h id i j sub F (h1 F)) (hk:∀F,zR m J env (h1 F)):zR m J env h
inductive w9 (m:Nat) (A B:XQ->Env->List ar->Prop) (Q:XQ) (env:Env):List ar->Prop
 | direct {h:List ar} (hd:A (XQ.then (B Q) Q) env h):w9 m A B Q env h
 | cut {h:List ar} (J:List (Nat×PV)->List ar->Prop) (ha:A (XQ.then (zR m J) Q) env h) (hb:∀σ η,J σ η->B Q (Cb sr σ) η):w9 m A B Q env h
 | ex {h:List ar} (h1:List ar) (hx:Km h h1) (hk:w9 m A B Q env h1):w9 m A B Q env h
 | ab {h:List ar} (id i j sub:Nat) (h1:(Nat->Prop)->List ar) (ha:∀F,G1 h id i j sub F (h1 F)) (hk:∀F,w9 m A B Q env (h1 F)):w9 m A B Q env h
def GK:Op->Bool
 | .call ⟨.value _,_,_⟩=>false
 | .call ⟨.builtin .append,_,_⟩=>false
 | .call ⟨.builtin .copy,_,_⟩=>false
 | .store _ _ _=>false
 | .box _ _=>false
 | .alloc _=>false
 | .makeSlice _ _ _=>false
 | .buildSlice _ _ _=>false
 | .makeMap _ _=>false
 | .mapUpdate _ _ _ _=>false
 | _=>true
def zc:PV->Bool
 | .int _ _=>true
 | .bool _=>true
 | .str _=>true
 | .au=>true
 | _=>false
def Td (P:Program) (b:PV) (args:List PV) (h:List ar) (K:PV->Prop):Prop:=
 match b with
 | .fn f=>dX (args.all mh) (∃(a:List PV) (v:PV),wB h [] [] args a/\a.all mh=true/\ACall P f a [] (λres _=>res=v)/\dX (zc v) (K v))
 | _=>False
def Zm (P:Program) (T:sI) (op:Op) (env:Env) (h:List ar) (K:PV->Prop):Prop:=
 match op with
 | .call ⟨.value a,args,_⟩=>Td P (ev env a) (args.toList.map (ev env)) h K
 | op=>de T op env h K
def yU (P:Program) (T:sI) (all:List Oper) (h:List ar) (K:Env->Prop) (l:List Oper):Env->Prop:=
 List.rec (motive:=λ_=>Env->Prop) K (λo _ a env=>match o.guard with
  | none=>Zm P T o.op env h (λv=>a (eQ env o.dst v))
  | some (j,want)=>match(all[j]?).bind (·.dst)with
   | some t=>match env t with
    | .bool b=>eN b
      (match want with
       | true=>Zm P T o.op (tR env t (.bool true)) h (λv=>a (eQ (tR env t (.bool true)) o.dst v))
       | false=>a (eQ (tR env t (.bool true)) o.dst (.hJ [])))
      (match want with
       | true=>a (eQ (tR env t (.bool false)) o.dst (.hJ []))
       | false=>Zm P T o.op (tR env t (.bool false)) h (λv=>a (eQ (tR env t (.bool false)) o.dst v)))
    | .hJ []=>a (eQ env o.dst (.hJ []))
    | _=>False
   | none=>False) l
def rU:List Nat->Nat->Bool
 | [],_=>false
 | a::r,x=>match Nat.beq a x with
  | true=>true
  | false=>rU r x
def wm:PV->List Nat
 | .own id _ _ _=>[id]
 | .bE id _ _ _=>[id]
 | .ql id=>[id]
 | .uP _ df=>df.map (·.1)
 | _=>[]
def qo (env:Env) (op:Op):List Nat:=match op with | .move _=>[] | _=>op.operands.toList.flatMap λx=>wm (ev env x)
def Tf (o:Oper):List Nat:=o.after.toList.filterMap λe=>match Region.binds .any e with | true=>some e.on | false=>none
def dE (all:List Oper) (i:Nat):List Nat:=match all[i]? with | some o=>Tf o | none=>[]
def fS:List (Nat×List Nat)->Nat->List Nat
 | [],_=>[]
 | (j,A)::r,i=>match Nat.beq j i with | true=>A | false=>fS r i
def ddL:List Nat->List Nat->List Nat
 | [],acc=>acc
 | a::r,acc=>match rU acc a with | true=>ddL r acc | false=>ddL r (a::acc)
def Ix (all:List Oper):List (Nat×Bool)->List (Nat×List Nat)->List (Nat×List Nat)
 | [],t=>t
 | (i,_)::r,t=>Ix all r ((i,ddL (dE all i++(dE all i).flatMap (fS t)) [])::t)
def xI (ops:Array Oper) (i j:Nat):Bool:=match ops[i]?,ops[j]? with | some x,some y=>Oper.apart ops x y | _,_=>false
def jD (ops:Array Oper) (t:List (Nat×List Nat)) (p i:Nat×Bool):Bool:=
 !(Nat.beq p.1 i.1)&&!(rU (dE ops.toList p.1) i.1)&&(rU (dE ops.toList i.1) p.1||(xI ops p.1 i.1&&(p.2||rU (fS t i.1) p.1)))
def cZ (ops:Array Oper) (t:List (Nat×List Nat)):List (Nat×Bool)->Bool
 | []=>true
 | p::r=>r.all (jD ops t p)&&cZ ops t r
def OJ (ops:Array Oper) (ord:List (Nat×Bool)):Bool:=
 Nat.beq ord.length ops.size&&(List.range ops.size).all (λj=>rU (ord.map (·.1)) j)&&ord.all (λp=>Nat.blt p.1 ops.size&&(dE ops.toList p.1).all (λd=>Nat.blt d ops.size&&!(Nat.beq d p.1)))&&cZ ops (Ix ops.toList ord []) ord
def IC (h h':List ar) (K:Prop):List Nat->Prop
 | []=>K
 | id::r=>dx h id=dx h' id/\IC h h' K r
def ur (a:List Nat) (h h':List ar) (K:Prop):List (Nat×List Nat)->Prop
 | []=>K
 | (j,ids)::r=>match rU a j with
  | true=>ur a h h' K r
  | false=>IC h h' (ur a h h' K r) ids
def FE (P:Program) (T:sI) (st:Bool) (op:Op) (env:Env) (h:List ar) (G:PV->List ar->Prop):Prop:=
 match st with
 | true=>de T op env h (λv=>G v h)
 | false=>pop P T op env h G
def yq (P:Program) (T:sI) (all:List Oper) (st:Bool) (o:Oper) (F:Env->PV->List ar->Prop) (env:Env) (h:List ar):Prop:=
 match o.guard with
 | none=>FE P T st o.op env h (F env)
 | some (j,want)=>match(all[j]?).bind (·.dst)with
  | some t=>match env t with
   | .bool b=>eN b
     (match want with
      | true=>FE P T st o.op (tR env t (.bool true)) h (F (tR env t (.bool true)))
      | false=>F (tR env t (.bool true)) (.hJ []) h)
     (match want with
      | true=>F (tR env t (.bool false)) (.hJ []) h
      | false=>FE P T st o.op (tR env t (.bool false)) h (F (tR env t (.bool false))))
   | .hJ []=>F env (.hJ []) h
   | _=>False
  | none=>False
def fw (P:Program) (T:sI) (all:List Oper) (t:List (Nat×List Nat)) (K:Env->List ar->Prop) (l:List (Nat×Bool)):List (Nat×List Nat)->Env->List ar->Prop:=
 List.rec (motive:=λ_=>List (Nat×List Nat)->Env->List ar->Prop) (λ_ env h=>K env h) (λp _ b a env h=>match all[p.1]? with
  | some o=>match p.2 with
   | true=>yq P T all true o (λenv' v h'=>b ((p.1,qo env' o.op)::a) (eQ env' o.dst v) h') env h
   | false=>yq P T all false o (λenv' v h'=>ur (fS t p.1) h h' (b a (eQ env' o.dst v) h') a) env h
  | none=>False) l
def fwE (P:Program) (T:sI) (all:List Oper) (t:List (Nat×List Nat)) (E:List (Nat×List Nat)->Env->List ar->Prop) (l:List (Nat×Bool)):List (Nat×List Nat)->Env->List ar->Prop:=
 List.rec (motive:=λ_=>List (Nat×List Nat)->Env->List ar->Prop) (λa env h=>E a env h) (λp _ b a env h=>match all[p.1]? with
  | some o=>match p.2 with
   | true=>yq P T all true o (λenv' v h'=>b ((p.1,qo env' o.op)::a) (eQ env' o.dst v) h') env h
   | false=>yq P T all false o (λenv' v h'=>ur (fS t p.1) h h' (b a (eQ env' o.dst v) h') a) env h
  | none=>False) l
def Th (ops:Array Oper) (t:List (Nat×List Nat)) (ord:List (Nat×Bool)) (x y:Nat) (a b:List Nat):Bool:=
 Nat.beq a.length b.length&&ord.all (λp=>jD ops t p (x,false)&&jD ops t p (y,false)&&(dE ops.toList p.1).all (λd=>!(rU (x::a) d))&&!(rU (x::a) p.1))&&
  (x::a).all (λj=>rU (y::b) j)&&(y::b).all (λj=>rU (x::a) j)&&(dE ops.toList x).all (λd=>!(rU (x::a) d))&&!(rU a x)&&!(rU b y)&&
  a.all (λj=>Nat.beq j y||rU (fS t j) x||rU (fS t j) y)
abbrev uo:=List (List (Nat×Bool)×Nat×Nat×List (Nat×Bool))
def FF:uo->List (Nat×Bool)->List (Nat×Bool)
 | [],fin=>fin
 | c::r,fin=>c.1++(c.2.1,false)::FF r fin
def fwC (P:Program) (T:sI) (all:List Oper) (t:List (Nat×List Nat)) (K:Env->List ar->Prop) (fin:List (Nat×Bool)) (cs:uo):List (Nat×List Nat)->Env->List ar->Prop:=
 List.rec (motive:=λ_=>List (Nat×List Nat)->Env->List ar->Prop) (λa env h=>fw P T all t K fin a env h)
  (λc _ b a env h=>fwE P T all t (λa env h=>fwE P T all t b [(c.2.1,false)] a env h/\fw P T all t K ((c.2.2.1,false)::c.2.2.2) a env h) c.1 a env h) cs
def P0 (ops:Array Oper) (t:List (Nat×List Nat)) (fin:List (Nat×Bool)):uo->List (Nat×Bool)->Bool
 | [],pre=>cZ ops t (pre++fin)
 | c::r,pre=>Th ops t (pre++c.1) c.2.1 c.2.2.1 ((FF r fin).map (·.1)) (c.2.2.2.map (·.1))&&cZ ops t ((pre++c.1)++c.2.2.2)&&P0 ops t fin r (pre++c.1)
def Em (ops:Array Oper) (cs:uo) (fin:List (Nat×Bool)):Bool:=
 (λall=>(λt=>Nat.beq all.length ops.size&&(List.range ops.size).all (λj=>rU (all.map (·.1)) j)&&all.all (λp=>Nat.blt p.1 ops.size&&(dE ops.toList p.1).all (λd=>Nat.blt d ops.size&&!(Nat.beq d p.1)))&&
  P0 ops t fin cs []) (Ix ops.toList all [])) (FF cs fin)
inductive En (P:Program) (T:sI) (m:Nat) (ops:Array Oper) (K:Env->List ar->Prop) (env:Env) (h:List ar):Prop
 | quiet (hq:yU P T ops.toList h (λenv'=>K env' h) ops.toList env):En P T m ops K env h
 | NA (cs:uo) (fin:List (Nat×Bool)) (hc:Em ops cs fin=true) (hf:fwC P T ops.toList (Ix ops.toList (FF cs fin) []) K fin cs [] env h):En P T m ops K env h
 | float (ord:List (Nat×Bool)) (hc:OJ ops ord=true) (hf:fw P T ops.toList (Ix ops.toList ord []) K ord [] env h):En P T m ops K env h
def W9 (Q:XQ) (env:Env) (h:List ar):Prop:=Q .normal env h
def acr (Q:XQ) (h:List ar) (env:Env):Prop:=Q .normal env h
def vc (P:Program) (T:sI) (m:Nat) (c:Code):XQ->Env->List ar->Prop:=
 Code.rec (motive:=λ_=>XQ->Env->List ar->Prop)
  (λQ env h=>Q .normal env h)
  (λ_ ops d Q env h=>match d with
   | false=>xk P T ops.toList (Q .normal) ops.toList env h
   | true=>match ops.toList.all (λo=>GK o.op)with
    | true=>yU P T ops.toList h (acr Q h) ops.toList env
    | false=>En P T m ops (W9 Q) env h)
  (λ_ _ a b Q env h=>w9 m a b Q env h)
  (λc _ _ a b Q env h=>match ev env c with
   | .bool t=>eN t (a Q env h) (b Q env h)
   | _=>False)
  (λid _ e Q env h=>e (XQ.inBlock id Q) env h)
  (λ_ e Q env h=>uh m (λnext=>e (XQ.then next Q)) env h)
  (λ_ _ _ _ _ _ _ _ _=>False)
  (λid Q env h=>Q (.exit id) env h)
  (λ_ _ _ _ _=>False)
  (λ_ Q env h=>Q .normal env h)
  (λ_ _ _ _=>False)
  (λQ env h=>Q .ret env h)
  (λ_ _ _ _=>False) c
def codeOk (nt:Nat):Code->Bool
 | .region _ ops d=>ops.toList.all (λo=>match o.dst with | some t=>Nat.blt t nt | none=>true)&&(!d||Region.lexB .any ops)
 | .seq a b=>codeOk nt a&&codeOk nt b
 | .cond _ a b=>codeOk nt a&&codeOk nt b
 | .block _ c=>codeOk nt c
 | .loop c=>codeOk nt c
 | _=>true
def xK (T:sI) (env:Env) (h:List ar):List ResultVar->(List PV->Prop)->Prop
 | [],K=>K []
 | .tmp t::r,K=>xK T env h r (λvs=>K (env t::vs))
 | .cell t ty::r,K=>zK T ty (env t) h (λv=>xK T env h r (λvs=>K (v::vs)))
def oneOf:List PV->PV
 | [v]=>v
 | vs=>.hJ vs
inductive Ends (m:Nat) (R:PV->List ar->Prop):List ar->List PV->Prop
 | mk {h:List ar} {vs:List PV} (hn:vs.all mh=true) (k:List Nat) (res:PV) (η:List ar) (hk:rK (rq η k)=true) (hm:m<=k.length) (hz:Fz h η k (oneOf vs) res) (hh:mW h η k m 0 η k) (hR:R res η):Ends m R h vs
 | ex {h:List ar} {vs:List PV} (h1:List ar) (hx:Km h h1) (hk:Ends m R h1 vs):Ends m R h vs
 | ab {h:List ar} {vs:List PV} (id i j sub:Nat) (h1:(Nat->Prop)->List ar) (ha:∀F,G1 h id i j sub F (h1 F)) (hk:∀F,Ends m R (h1 F) vs):Ends m R h vs
def aad (T:sI) (rs:List ResultVar) (m:Nat) (R:PV->List ar->Prop):XQ
 | .ret,env,h=>xK T env h rs (Ends m R h)
 | .normal,env,h=>xK T env h rs (Ends m R h)
 | _,_,_=>False
def wD (args:List PV):Env:=λt=>args.getD t .jI
def ND (env env':Env) (op:Op):Prop:=∀x,x∈op.operands.toList->ev env x=ev env' x
def Zv (h h':List ar) (env:Env) (op:Op):Prop:=∀x,x∈op.operands.toList->∀id,id∈wm (ev env x)->dx h id=dx h' id
theorem ku {v:PV} {K:PV->Prop} (h:K v):force v K:=by cases v<;>exact h
theorem Ep {env env':Env} {sz:Nat} {fl:List (Nat×Nat×Bool)} {K:List PV->Prop}:∀(l:List (Nat×Operand)) (acc:List PV),(∀p,p∈l->ev env p.2=ev env' p.2)->tm env sz fl K l acc=tm env' sz fl K l acc
 | [],acc,_=>rfl
 | (k,x)::r,acc,hs=>by
  have e:=hs (k,x) ajq;simp only at e;unfold tm;rw[e];split
  ·congr 1;funext v;rw[Ep r _ (λp hp=>hs p (agm _ hp))]
  ·rfl
theorem Er {env env':Env} {sz:Nat} {K:List (List PV)->Prop}:∀(l:List (Nat×Operand)) (acc:List (List PV)),(∀p,p∈l->ev env p.2=ev env' p.2)->uN env sz K l acc=uN env' sz K l acc
 | [],acc,_=>rfl
 | (k,x)::r,acc,hs=>by
  have e:=hs (k,x) ajq;simp only at e;unfold uN;rw[e];congr 1;funext v;rw[Er r _ (λp hp=>hs p (agm _ hp))]
theorem NF {env env':Env} {o:Option Operand} (hs:∀x,o=some x->ev env x=ev env' x):o.map (ev env)=o.map (ev env'):=by
 cases o with
 | none=>rfl
 | some x=>simp [hs x rfl]
theorem Aj {T:sI} {env env':Env} {h:List ar} {K:PV->Prop} (op:Op) (hs:ND env env' op):de T op env h K=de T op env' h K:=by
 cases op with
 | move x=>simp only[de,hs x ajr]
 | assign x=>simp only[de,hs x ajr]
 | pick c a b=>simp only[de,hs c ajr,hs a ajr,hs b ajr]
 | binOp m t x y n=>simp only[de,hs x ajr,hs y ajr]
 | unOp u t x=>simp only[de,hs x ajr]
 | load t a=>simp only[de,hs a ajr]
 | convert s d x=>simp only[de,hs x ajr]
 | nilCheck x=>simp only[de,hs x ajr]
 | fieldAddr s x k=>simp only[de,hs x ajr]
 | field s x k=>simp only[de,hs x ajr]
 | build t parts=>
  have e:∀sz fl (K:List PV->Prop) z,tm env sz fl K parts.toList z=tm env' sz fl K parts.toList z:=λsz fl K z=>Ep _ _ (λp hp=>hs p.2 ajT);simp only[de,e]
 | indexAddr t x i=>simp only[de,hs x ajr,hs i ajr]
 | index t x i=>simp only[de,hs x ajr,hs i ajr]
 | extract x i=>simp only[de,hs x ajr]
 | lookup t x i ok=>simp only[de,hs x ajr,hs i ajr]
 | makeFunc fn first captured=>rfl
 | slice t x lo hi f=>
  have g:lo.map (ev env)=lo.map (ev env'):=NF (λy hy=>hs y ajS);have e2:hi.map (ev env)=hi.map (ev env'):=NF (λy hy=>hs y ajS);have j:f.map (ev env)=f.map (ev env'):=NF (λy hy=>hs y ajS);simp only[de,hs x ajr,g,e2,j]
 | call c=>
  obtain⟨callee,args,o⟩:=c;cases callee with
  | builtin b=>
   cases b with
   | len=>
    simp only[de];split
    ·rename_i x t l q;have e:=hs x (by simp [Op.operands,Call.operands];have:x∈args.toList:=(by rw[l];simp);simpa using this);rw[e]
    ·rfl
   | _=>rfl
  | _=>rfl
 | _=>rfl
theorem P2 {T:sI} {env:Env} {h h':List ar} {K:PV->Prop} (op:Op) (hs:Zv h h' env op):de T op env h K=de T op env h' K:=by
 cases op with
 | load t a=>
  have q:=hs a ajr;simp only[de];revert q;generalize ev env a=v;intro q;cases v with
  | bE id g i o=>simp only[zK,q id ajD]
  | _=>rfl
 | convert s d x=>
  have q:=hs x ajr;simp only[de];revert q;generalize ev env x=v;intro q
  have e:∀K,yC v h K=yC v h' K:=λK=>by
   cases v with
   | own id g i o=>simp only[yC,q id ajD]
   | _=>rfl
  generalize T.get s=ti;generalize T.get d=f;cases ti with
  | slice a b c z=>cases f with
   | str=>simp only[e]
   | _=>rfl
  | int k=>cases f<;>cases v<;>rfl
  | _=>rfl
 | nilCheck x=>
  have q:=hs x ajr;simp only[de];revert q;generalize ev env x=v;intro q;cases v with
  | bE id g i o=>simp only[q id ajD]
  | _=>rfl
 | fieldAddr s x k=>
  have q:=hs x ajr;simp only[de];revert q;generalize ev env x=v;intro q;cases v with
  | bE id g i o=>simp only[q id ajD]
  | _=>rfl
 | indexAddr t x i=>
  have q:=hs x ajr;simp only[de];revert q;generalize ev env x=v;generalize ev env i=u;generalize T.get t=ti;intro q;cases ti with
  | slice e sz b z=>cases v with
   | own id g o l=>cases u with
    | int k n=>simp only[q id ajD]
    | _=>rfl
   | gn a b c=>cases u<;>rfl
   | _=>rfl
  | _=>rfl
 | lookup t x i ok=>
  have q:=hs x ajr;simp only[de];revert q;generalize ev env x=v;generalize T.get t=ti;intro q;cases ti with
  | map k e z=>cases v with
   | ql id=>simp only[q id ajD]
   | _=>rfl
  | _=>cases v<;>rfl
 | slice t x lo hi m=>
  have q:=hs x ajr;simp only[de];revert q;generalize ev env x=v;generalize T.get t=ti;intro q;cases ti with
  | slice e sz b z=>cases v with
   | own id g o l=>simp only[q id ajD]
   | _=>rfl
  | str=>cases v<;>rfl
  | _=>rfl
 | call c=>
  obtain⟨callee,args,p⟩:=c;cases callee with
  | builtin b=>
   cases b with
   | len=>
    simp only[de];split
    ·rename_i x t j r;have q:=hs x (by simp [Op.operands,Call.operands];have:x∈args.toList:=(by rw[j];simp);simpa using this);revert q;generalize ev env x=v;generalize T.get t=ti;intro q;cases ti with
     | slice e sz b z=>cases v with
      | own id g o l=>simp only[q id ajD]
      | _=>rfl
     | map k e z=>cases v with
      | ql id=>simp only[q id ajD]
      | _=>rfl
     | str=>cases v<;>rfl
     | _=>rfl
    ·rfl
   | _=>rfl
  | _=>rfl
 | _=>rfl
def One (F:(PV->Prop)->Prop):Prop:=∀K,F K->∃v,K v/\∀a,a v->F a
theorem vi (v:PV):One (force v):=λK h=>⟨v,cG h,λa hk=>ku hk⟩
theorem bY (v:PV):One (λK=>K v):=λK h=>⟨v,h,λ_ hk=>hk⟩
theorem dA {A:Prop} {F:(PV->Prop)->Prop} (h:One F):One (λK=>A/\F K):=λK hk=>
 let⟨v,h1,h2⟩:=h K hk.2
 ⟨v,h1,λa b=>⟨hk.1,h2 a b⟩⟩
theorem jg {b:Bool} {F:(PV->Prop)->Prop} (h:One F):One (λK=>dX b (F K)):=λK hk=>by
 cases b with
 | true=>exact h K hk
 | false=>exact hk.elim
theorem xo {α:Type} {A:α->Prop} {F:α->(PV->Prop)->Prop} (h:∀c,One (F c)):One (λK=>∃c,A c/\F c K):=λK ⟨c,a,hk⟩=>
 let⟨v,h1,h2⟩:=h c K hk
 ⟨v,h1,λb d=>⟨c,a,h2 b d⟩⟩
theorem Es {F:(PV->Prop)->Prop} (h:One F):One (λK=>F (J0 K)):=λK hk=>by
 obtain⟨v,h1,h2⟩:=h _ hk;cases v with
 | gn sz n f=>
  obtain⟨b,i,c,e2,d⟩:=h1;exact⟨.gn sz b i,d,λe a=>h2 _ ⟨b,i,c,e2,a⟩⟩
 | own id g off n=>
  obtain⟨j,b,c,e2,d⟩:=h1;exact⟨.own id g j b,d,λe a=>h2 _ ⟨j,b,c,e2,a⟩⟩
 | str s=>
  obtain⟨k,c,d⟩:=h1;exact⟨.str k,d,λe a=>h2 _ ⟨k,c,a⟩⟩
 | _=>exact⟨_,h1,λe a=>h2 _ a⟩
theorem A9 {K:List PV->Prop}:∀(n:Nat) (l acc:List PV),n<=l.length->K (acc.reverse++l.take n)->GM K n l acc
 | 0,l,acc,_,h=>by unfold GM;simpa using h
 | n+1,[],acc,hl,_=>by simp at hl
 | n+1,c::r,acc,hl,h=>ku (A9 n r (c::acc) (by simp at hl;omega) ajC)
theorem Et (T:sI) (t:Nat) (cells:List PV):One (AQ T t cells):=λK hk=>by
 unfold AQ at hk ⊢;generalize T.get t=q1 at hk ⊢;cases q1 with
 | struct sz fl z=>
  obtain⟨h1,h2⟩:=tl _ _ _ hk;exact⟨_,h2,λb a=>A9 _ _ _ h1 a⟩
 | other=>exact hk.elim
 | _=>
  cases cells with
  | nil=>exact hk.elim
  | cons c r=>exact vi c K hk
theorem P3 (T:sI) (t:Nat) (a:PV) (h:List ar):One (zK T t a h):=λK hk=>by
 cases a with
 | fT cells=>exact Et T t cells K hk
 | bE id gen i off=>
  simp only[zK]at hk ⊢;generalize dx h id=q2 at hk ⊢;cases q2 with
  | row g sz n e f=>exact dA (xo (λc=>Et T t _)) K hk
  | dead=>exact hk.elim
 | _=>exact hk.elim
theorem Tn (ti:TI) (d:BinOp) (x y:PV):One (Pa ti d x y):=λK hk=>by
 cases x with
 | int k a=>cases y with
  | int g b=>
   cases d with
   | shl=>exact dA (bY _) K hk
   | shr=>exact dA (bY _) K hk
   | quo=>exact jg (dA (bY _)) K hk
   | rem=>exact jg (dA (bY _)) K hk
   | _=>exact jg (bY _) K hk
  | _=>exact hk.elim
 | bool a=>cases y with
  | bool b=>cases ti with
   | bool=>cases d with
    | eql=>exact bY _ K hk
    | neq=>exact bY _ K hk
    | _=>exact hk.elim
   | _=>exact hk.elim
  | _=>exact hk.elim
 | str a=>cases y with
  | str b=>cases d with
   | add=>exact dA (xo λc=>bY _) K hk
   | eql=>exact bY _ K hk
   | neq=>exact bY _ K hk
   | lss=>exact bY _ K hk
   | leq=>exact bY _ K hk
   | gtr=>exact bY _ K hk
   | geq=>exact bY _ K hk
   | _=>exact hk.elim
  | _=>exact hk.elim
 | agg xs=>cases y with
  | agg e=>cases ti with
   | struct sz fl z=>
    simp only[Pa]at hk ⊢;generalize Bi z=f at hk ⊢;cases f with
    | false=>exact hk.elim
    | true=>
     simp only[dX]at hk ⊢;generalize FU z xs e=q at hk ⊢;cases q with
     | none=>exact hk.elim
     | some b=>cases d<;>first | exact hk.elim | exact xo (λc=>bY _) K hk
   | _=>exact hk.elim
  | _=>exact hk.elim
 | _=>exact hk.elim
theorem yV (x:PV) (lo hi:Option PV):One (Dp x lo hi):=λK hk=>by
 cases x with
 | gn sz n f=>
  cases lo with
  | none=>cases hi with
   | none=>exact bY _ K hk
   | some u=>cases u<;>first | exact hk.elim | exact dA (bY _) K hk
  | some l=>cases l with
   | int k l=>cases hi with
    | none=>exact dA (bY _) K hk
    | some u=>cases u<;>first | exact hk.elim | exact dA (bY _) K hk
   | _=>cases hi<;>exact hk.elim
 | own id gen off len=>
  cases lo with
  | none=>cases hi with
   | none=>exact bY _ K hk
   | some u=>cases u<;>first | exact hk.elim | exact dA (bY _) K hk
  | some l=>cases l with
   | int k l=>cases hi with
    | none=>exact dA (bY _) K hk
    | some u=>cases u<;>first | exact hk.elim | exact dA (bY _) K hk
   | _=>cases hi<;>exact hk.elim
 | str s=>
  cases lo with
  | none=>cases hi with
   | none=>exact bY _ K hk
   | some u=>cases u<;>first | exact hk.elim | exact dA (bY _) K hk
  | some l=>cases l with
   | int k l=>cases hi with
    | none=>exact dA (bY _) K hk
    | some u=>cases u<;>first | exact hk.elim | exact dA (bY _) K hk
   | _=>cases hi<;>exact hk.elim
 | _=>exact hk.elim
theorem NG (v:PV) (h:List ar):One (λK=>yC v h (λs=>K (.str s))):=λK hk=>by
 cases v with
 | au=>exact bY _ K hk
 | gn sz n f=>exact jg (xo λs=>dA (bY _)) K hk
 | own id gen off n=>
  simp only[yC]at hk ⊢;generalize dx h id=q3 at hk ⊢;cases q3 with
  | row g sz n e f=>exact dA (jg (xo λs=>dA (bY _))) K hk
  | dead=>exact hk.elim
 | _=>exact hk.elim
theorem Eu (env:Env) (sz:Nat) (fl:List (Nat×Nat×Bool)):∀(l:List (Nat×Operand)) (acc:List PV),One (λK=>tm env sz fl (λcs=>K (.agg cs)) l acc)
 | [],acc=>bY _
 | (k,x)::r,acc=>λK hk=>by
  unfold tm at hk ⊢;generalize fl[k]? =q4 at hk ⊢;cases q4 with
  | none=>exact hk.elim
  | some p=>
   obtain⟨o,size,b⟩:=p;have h1:=cG hk;obtain⟨v,h2,h3⟩:=jg (Eu env sz fl r _) K h1;exact⟨v,h2,λa c=>ku (h3 a c)⟩
theorem To (ti:TI) (n:Nat) (f:Nat->List PV) (kv zv:PV) (ok:Bool):One (λK=>dX (nM ti kv kv).isSome (∃r b,Sf ti f n kv zv r b/\match ok with
  | true=>K (.hJ [r,.bool b])
  | false=>force r K)):=jg (λK hk=>by
 obtain⟨r,b,hm,c⟩:=hk;cases ok with
 | true=>exact⟨_,c,λd a=>⟨r,b,hm,a⟩⟩
 | false=>exact⟨_,cG c,λd a=>⟨r,b,hm,ku a⟩⟩)
theorem Lr (T:sI) (op:Op) (env:Env) (h:List ar):One (de T op env h):=λK hk=>by
 cases op with
 | move x=>exact vi _ K hk
 | assign x=>exact vi _ K hk
 | pick c a b=>
  simp only[de]at hk ⊢;generalize ev env c=v at hk ⊢;cases v with
  | bool t=>
   obtain⟨h1,h2⟩:=lZ hk;cases t with
   | true=>exact⟨_,cG (h1 rfl),λq l=>.mk (λ_=>ku l) (λh=>by cases h)⟩
   | false=>exact⟨_,cG (h2 rfl),λq l=>.mk (λh=>by cases h) (λ_=>ku l)⟩
  | _=>exact hk.elim
 | binOp S t x y U=>exact Tn _ _ _ _ K hk
 | unOp u t x=>
  simp only[de]at hk ⊢;generalize ev env x=v at hk ⊢;cases u<;>cases v<;>first | exact hk.elim | exact bY _ K hk
 | load t a=>exact P3 _ _ _ _ K hk
 | convert s d x=>
  simp only[de]at hk ⊢;generalize ev env x=v at hk ⊢;generalize T.get s=ti at hk ⊢;generalize T.get d=w at hk ⊢;cases ti with
  | int k=>cases w with
   | int V=>cases v<;>first | exact hk.elim | exact bY _ K hk
   | _=>cases v<;>exact hk.elim
  | slice e sz b z=>cases w with
   | str=>
    simp only at hk ⊢;generalize T.get e=N at hk ⊢;cases N with
    | int k=>cases k<;>first | exact hk.elim | exact NG _ _ K hk
    | _=>exact hk.elim
   | _=>cases v<;>exact hk.elim
  | _=>cases w<;>cases v<;>exact hk.elim
 | nilCheck x=>
  simp only[de]at hk ⊢;generalize ev env x=v at hk ⊢;cases v with
  | fT cs=>exact bY _ K hk
  | bE id gen i off=>
   simp only at hk ⊢;generalize dx h id=O at hk ⊢;cases O with
   | row g sz n e f=>exact dA (bY _) K hk
   | dead=>exact hk.elim
  | _=>exact hk.elim
 | fieldAddr s x k=>
  simp only[de]at hk ⊢;generalize ev env x=v at hk ⊢;generalize T.get s=A at hk ⊢;cases A with
  | struct sz fl z=>
   simp only at hk ⊢;generalize fl[k]? =B at hk ⊢;cases B with
   | none=>exact hk.elim
   | some p=>
    obtain⟨o,a,b⟩:=p;cases v with
    | fT cs=>exact bY _ K hk
    | bE id gen i off=>
     simp only at hk ⊢;generalize dx h id=C at hk ⊢;cases C with
     | row g sz n e f=>exact dA (bY _) K hk
     | dead=>exact hk.elim
    | _=>exact hk.elim
  | _=>exact hk.elim
 | field s x k=>
  simp only[de]at hk ⊢;generalize ev env x=v at hk ⊢;generalize T.get s=A at hk ⊢;cases A with
  | struct sz fl z=>
   simp only at hk ⊢;generalize fl[k]? =B at hk ⊢;cases B with
   | none=>exact hk.elim
   | some p=>
    obtain⟨o,a,b⟩:=p;cases v with
    | agg cs=>
     cases b with
     | true=>
      obtain⟨h1,h2⟩:=tl _ _ _ hk;exact⟨_,h2,λq l=>A9 _ _ _ h1 l⟩
     | false=>
      simp only at hk ⊢;generalize cs.drop o=C at hk ⊢;cases C with
      | nil=>exact hk.elim
      | cons c r=>exact vi c K hk
    | _=>exact hk.elim
  | _=>exact hk.elim
 | build t parts=>
  simp only[de]at hk ⊢;generalize T.get t=P at hk ⊢;cases P with
  | struct sz fl z=>exact Eu _ _ _ _ _ K hk
  | _=>exact hk.elim
 | indexAddr t x i=>
  simp only[de]at hk ⊢;generalize ev env x=v at hk ⊢;generalize ev env i=u at hk ⊢;generalize T.get t=D at hk ⊢;cases D with
  | slice e sz b z=>cases v with
   | gn Q n f=>cases u<;>first | exact hk.elim | exact jg (dA (xo λc=>bY _)) K hk
   | own id gen off len=>cases u with
    | int k n=>
     simp only at hk ⊢;generalize dx h id=E at hk ⊢;cases E with
     | row g sz n e f=>exact dA (jg (dA (xo λj=>bY _))) K hk
     | dead=>exact hk.elim
    | _=>exact hk.elim
   | _=>cases u<;>exact hk.elim
  | _=>cases v<;>cases u<;>exact hk.elim
 | index t x i=>
  simp only[de]at hk ⊢;generalize ev env x=v at hk ⊢;generalize ev env i=u at hk ⊢;generalize T.get t=F at hk ⊢;cases F with
  | str=>cases v with
   | str s=>cases u<;>first | exact hk.elim | exact dA (xo λc=>bY _) K hk
   | _=>cases u<;>exact hk.elim
  | _=>cases v<;>cases u<;>exact hk.elim
 | extract x i=>
  simp only[de]at hk ⊢;generalize ev env x=v at hk ⊢;cases v with
  | hJ vs=>
   simp only at hk ⊢;generalize vs[i]? =G at hk ⊢;cases G with
   | none=>exact hk.elim
   | some u=>exact vi _ K hk
  | _=>exact hk.elim
 | makeFunc fn first captured=>exact(show False from hk).elim
 | lookup t x i ok=>
  simp only[de]at hk ⊢;generalize ev env x=v at hk ⊢;generalize T.get t=H at hk ⊢;cases H with
  | map kt R zv=>cases v with
   | ql id=>
    simp only at hk ⊢;generalize dx h id=I at hk ⊢;cases I with
    | row g sz n e f=>
     obtain⟨u,h2,h3⟩:=To (T.get kt) n f (ev env i) zv ok K (cG hk);exact⟨u,h2,λq l=>ku (h3 q l)⟩
    | dead=>exact hk.elim
   | _=>exact hk.elim
  | _=>cases v<;>exact hk.elim
 | slice t x lo hi W=>
  simp only[de]at hk ⊢;generalize ev env x=v at hk ⊢;generalize T.get t=J at hk ⊢;cases J with
  | slice e sz b z=>cases v with
   | gn Q n f=>exact jg (dA (Es (yV _ _ _))) K hk
   | own id gen off len=>
    simp only at hk ⊢;generalize dx h id=L at hk ⊢;cases L with
    | row g sz n e f=>exact dA (jg (dA (Es (yV _ _ _)))) K hk
    | dead=>exact hk.elim
   | _=>exact hk.elim
  | str=>cases v with
   | str s=>exact jg (Es (yV _ _ _)) K hk
   | _=>exact hk.elim
  | _=>cases v<;>exact hk.elim
 | call c=>
  obtain⟨callee,args,X⟩:=c;cases callee with
  | builtin b=>
   cases b with
   | len=>
    simp only[de]at hk ⊢;split at hk
    ·rename_i x t Y Z;generalize ev env x=v at hk ⊢;generalize T.get t=M at hk ⊢;cases M with
     | slice e sz b z=>cases v with
      | gn a n f=>exact bY _ K hk
      | au=>exact bY _ K hk
      | own id gen off n=>
       simp only at hk ⊢;generalize dx h id=m at hk ⊢;cases m with
       | row g sz n e f=>exact dA (bY _) K hk
       | dead=>exact hk.elim
      | _=>exact hk.elim
     | str=>cases v<;>first | exact hk.elim | exact bY _ K hk
     | map kt R zv=>cases v with
      | ql id=>
       simp only at hk ⊢;generalize dx h id=m at hk ⊢;cases m with
       | row g sz n e f=>exact bY _ K hk
       | dead=>exact hk.elim
      | _=>exact hk.elim
     | _=>cases v<;>exact hk.elim
    ·exact hk.elim
   | _=>exact hk.elim
  | _=>exact hk.elim
 | _=>exact hk.elim
theorem tJ {v:PV} {K a:PV->Prop} (hk:∀v,K v->a v) (h:force v K):force v a:=ku (hk _ (cG h))
theorem eu {b:Bool} {K a:Prop} (hk:K->a) (h:dX b K):dX b a:=by cases b;exact h;exact hk h
theorem Bz {env:Env} {sz:Nat} {K a:List (List PV)->Prop} (hk:∀l,K l->a l):∀(l:List (Nat×Operand)) (acc:List (List PV)),uN env sz K l acc->uN env sz a l acc
 | [],acc,h=>hk _ h
 | (k,x)::r,acc,h=>tJ (λv h=>eu (Bz hk r _) h) h
theorem GN {x:PV} {h:List ar} {sz:Nat} {K a:Nat->(Nat->List PV)->Prop} (hk:∀n g,K n g->a n g) (hp:Nn x h sz K):Nn x h sz a:=by
 cases x with
 | au=>exact hk _ _ hp
 | gn b m g=>exact eu (hk _ _) hp
 | own id gen off m=>
  simp only[Nn]at hp ⊢;generalize dx h id=q at hp ⊢;cases q with
  | row g b n e f=>exact⟨hp.1,hp.2.1,eu (hk _ _) hp.2.2⟩
  | dead=>exact hp
 | str s=>exact eu (hk _ _) hp
 | _=>exact hp
theorem ID {e sz bytes:Nat} {s x:PV} {h:List ar} {K d:PV->List ar->Prop} (hk:∀v h',K v h'->d v h') (hp:xE e sz bytes s x h K):xE e sz bytes s x h d:=by
 cases s with
 | au=>
  simp only[xE]at hp ⊢;exact GN (λm g ⟨h,a,b,c,e2,h2⟩=>⟨h,a,b,c,e2,hk _ _ h2⟩) hp
 | own id gen off len=>
  simp only[xE]at hp ⊢;generalize dx h id=q at hp ⊢;cases q with
  | row g i n j f=>exact⟨hp.1,eu (GN (λm g ⟨h,a,b,c,e2,h2⟩=>⟨h,a,b,c,e2,hk _ _ h2⟩)) hp.2⟩
  | dead=>exact hp
 | _=>exact hp
theorem NH {e sz bytes:Nat} {s x:PV} {h:List ar} {K a:PV->List ar->Prop} (hk:∀v h',K v h'->a v h') (hp:Lg e sz bytes s x h K):Lg e sz bytes s x h a:=by
 unfold Lg at hp ⊢;split at hp
 ·split at hp
  ·exact⟨hp.1,eu (λq=>⟨q.1,hk _ _ q.2⟩) hp.2⟩
  ·exact hp
 ·split at hp
  ·split at hp
   ·exact⟨hp.1,hp.2.1,eu (λq=>⟨q.1,hk _ _ q.2⟩) hp.2.2⟩
   ·exact hp
  ·exact hp
 ·exact aiI
theorem Nq.mono {e sz bytes:Nat} {s x:PV} {h:List ar} {K a:PV->List ar->Prop} (hk:∀v h',K v h'->a v h') (hp:Nq e sz bytes s x h K):Nq e sz bytes s x h a:=by
 cases hp with
 | oY hp=>exact .oY (ID hk hp)
 | move hp=>exact .move (NH hk hp)
theorem vj {T:sI} {op:Op} {env:Env} {h:List ar} {K a:PV->Prop} (hk:∀v,K v->a v) (hp:de T op env h K):de T op env h a:=
 let⟨v,h1,h2⟩:=Lr T op env h K hp
 h2 a (hk v h1)
theorem Tp {P:Program} {T:sI} {env:Env} {h:List ar} {K A:PV->List ar->Prop} (hk:∀v h',K v h'->A v h') (op:Op) (hp:pop P T op env h K):pop P T op env h A:=by
 cases op with
 | store t a x=>
  simp only[pop]at hp ⊢;generalize ev env a=v at hp ⊢;cases v with
  | bE id gen i off=>
   simp only at hp ⊢;generalize dx h id=q at hp ⊢;cases q with
   | row g sz n e f=>exact⟨hp.1,tJ (λv h=>eu (λ⟨c,j,o,e2,h2⟩=>⟨c,j,o,e2,hk _ _ h2⟩) h) hp.2⟩
   | dead=>exact hp
  | _=>exact hp
 | box t x=>
  simp only[pop]at hp ⊢;exact tJ (λv h=>eu (hk _ _) h) hp
 | alloc t=>
  simp only[pop]at hp ⊢;generalize Dg (T.get t)=q at hp ⊢;cases q<;>first | exact hp | exact hk _ _ hp
 | makeSlice t l c=>
  simp only[pop]at hp ⊢;generalize T.get t=q at hp ⊢;generalize ev env l=u at hp ⊢;generalize ev env c=v at hp ⊢;cases q with
  | slice e sz b z=>cases u with
   | int k n=>cases v with
    | int D m=>(obtain⟨h,p,j,o,e2,h2⟩:=hp;exact⟨h,p,j,o,e2,hk _ _ h2⟩)
    | _=>exact hp
   | _=>cases v<;>exact hp
  | _=>cases u<;>cases v<;>exact hp
 | buildSlice t len parts=>
  simp only[pop]at hp ⊢;generalize T.get t=q at hp ⊢;cases q with
  | slice e sz b z=>exact eu (Bz (λ_ ⟨j,o,h2⟩=>⟨j,o,hk _ _ h2⟩) _ _) hp
  | _=>exact hp
 | convert s d x=>
  simp only[pop]at hp ⊢;split at hp
  ·split at hp
   ·exact let⟨j,o,h2⟩:=hp;⟨j,o,hk _ _ h2⟩
   ·exact hp
  ·exact vj (λv=>hk v h) hp
 | binOp E t x y ty=>
  simp only[pop]at hp ⊢;split at hp
  ·exact⟨λh0=>hk _ _ (hp.1 h0),hk _ _ hp.2⟩
  ·exact vj (λv=>hk v h) hp
 | makeMap t r=>
  cases r with
  | none=>
   simp only[pop]at hp ⊢;generalize T.get t=q at hp ⊢;cases q with
   | map k e z=>exact let⟨j,h2⟩:=hp;⟨j,hk _ _ h2⟩
   | _=>exact hp
  | some r=>exact hp
 | mapUpdate t m k x=>
  simp only[pop]at hp ⊢;generalize T.get t=q at hp ⊢;generalize ev env m=v at hp ⊢;cases q with
  | map kt F z=>cases v with
   | ql id=>
    simp only at hp ⊢;generalize dx h id=q2 at hp ⊢;cases q2 with
    | row g sz n e f=>exact tJ (λkv h=>tJ (λG h=>eu (λ⟨p,j,o,h2⟩=>⟨p,j,o,hk _ _ h2⟩) h) h) hp
    | dead=>exact hp
   | _=>exact hp
  | _=>cases v<;>exact hp
 | call c=>
  obtain⟨callee,args,H⟩:=c;cases callee with
  | value C=>
   simp only[pop]at hp ⊢;generalize ev env C=v at hp ⊢;cases v with
   | fn f=>exact eu (λ⟨R,h1,h2⟩=>⟨R,h1,λres h' w=>hk _ _ (h2 res h' w)⟩) hp
   | uP f df=>exact eu (λ⟨R,h1,h2⟩=>⟨R,h1,λres h' w=>hk _ _ (h2 res h' w)⟩) hp
   | _=>exact hp
  | builtin b=>
   cases b with
   | append=>
    simp only[pop]at hp ⊢;split at hp
    ·rename_i s x t tx I J;generalize T.get t=q at hp ⊢;generalize T.get tx=B at hp ⊢;cases q with
     | slice e sz b z=>cases B<;>first | exact hp | exact Nq.mono hk hp
     | _=>cases B<;>exact hp
    ·exact hp
   | len=>(simp only[pop]at hp ⊢;exact vj (λv=>hk v h) hp)
   | _=>exact hp
  | _=>exact hp
 | _=>(simp only[pop]at hp ⊢;exact vj (λv=>hk v h) hp)
theorem Tq {env env':Env} {args:Array Operand} (hs:∀x,x∈args.toList->ev env x=ev env' x):args.toList.map (ev env)=args.toList.map (ev env'):=
 List.map_congr_left hs
theorem VB {env env':Env} {l:List Operand} (hs:∀x,x∈l->ev env x=ev env' x):l.all (λx=>mh (ev env x))=l.all (λx=>mh (ev env' x)):=by
 induction l with
 | nil=>rfl
 | cons a r b=>simp only[ahu,hs a ajq,b (λx c=>hs x (agm _ c))]
theorem VD {P:Program} {T:sI} {env env':Env} {h:List ar} {K:PV->List ar->Prop} (op:Op) (hs:ND env env' op):pop P T op env h K=pop P T op env' h K:=by
 cases op with
 | store t a x=>simp only[pop,hs a ajr,hs x ajr]
 | box t x=>simp only[pop,hs x ajr]
 | alloc t=>rfl
 | makeSlice t l c=>simp only[pop,hs l ajr,hs c ajr]
 | buildSlice t len parts=>
  have e:∀sz (K:List (List PV)->Prop) z,uN env sz K parts.toList z=uN env' sz K parts.toList z:=λsz K z=>Er _ _ (λp hp=>hs p.2 ajT);simp only[pop,e]
 | convert s d x=>simp only[pop,de,hs x ajr]
 | binOp o t x y ty=>simp only[pop,de,hs x ajr,hs y ajr]
 | makeMap t r=>cases r<;>rfl
 | mapUpdate t m k x=>simp only[pop,hs m ajr,hs k ajr,hs x ajr]
 | call c=>
  obtain⟨callee,args,q⟩:=c;cases callee with
  | value j=>
   have n:=hs j (by simp [Op.operands,Call.operands]);have f:∀x,x∈args.toList->ev env x=ev env' x:=λx g=>hs x (by simp [Op.operands,Call.operands];right;simpa using g);simp only[pop,n,Tq f,VB f]
  | builtin b=>
   have f:∀x,x∈args.toList->ev env x=ev env' x:=λx g=>hs x (by simp [Op.operands,Call.operands];simpa using g);cases b with
   | append=>
    simp only[pop];split
    ·rename_i s x t tx i u;rw[f s (by rw[i];simp),f x (by rw[i];simp)]
    ·rfl
   | len=>(simp only[pop];exact Aj _ hs)
   | _=>rfl
  | _=>rfl
 | _=>(simp only[pop];exact Aj _ hs)
section
variable {P:Program}{T:sI}
def fs (P:Program) (T:sI) (all:List Oper) (st:Bool) (o:Oper) (G:PV->List ar->Prop) (env:Env) (h:List ar):Prop:=
 match o.guard with
 | none=>FE P T st o.op env h G
 | some (j,want)=>match(all[j]?).bind (·.dst)with
  | some t=>match env t with
   | .bool b=>match b==want with
    | true=>FE P T st o.op env h G
    | false=>G (.hJ []) h
   | .hJ []=>G (.hJ []) h
   | _=>False
  | none=>False
theorem Cy {env:Env} {t:Nat} {v:PV} (h:env t=v):tR env t v=env:=by
 funext j;unfold tR;cases hb:Nat.beq j t with
 | true=>rw[afM hb,<-h];rfl
 | false=>rfl
theorem GO {st:Bool} {op:Op} {env:Env} {h:List ar} {G a:PV->List ar->Prop} (hk:∀v h',G v h'->a v h') (hp:FE P T st op env h G):FE P T st op env h a:=by
 cases st with
 | true=>exact vj (λv=>hk v h) hp
 | false=>exact Tp hk _ hp
theorem ju {all:List Oper} {st:Bool} {o:Oper} {env:Env} {h:List ar} {G e:PV->List ar->Prop} (hk:∀v h',G v h'->e v h') (hp:fs P T all st o G env h):fs P T all st o e env h:=by
 unfold fs at hp ⊢;generalize o.guard=g at hp ⊢;cases g with
 | none=>exact GO hk hp
 | some q=>
  obtain⟨j,want⟩:=q;simp only at hp ⊢;generalize(all[j]?).bind (·.dst)=d at hp ⊢;cases d with
  | none=>exact hp
  | some t=>
   simp only at hp ⊢;generalize env t=v at hp ⊢;cases v with
   | bool b=>
    simp only at hp ⊢;generalize(b==want)=c at hp ⊢;cases c with
    | true=>exact GO hk hp
    | false=>exact hk _ _ hp
   | hJ l=>cases l with
    | nil=>exact hk _ _ hp
    | cons a r=>exact hp
   | _=>exact hp
theorem uu {all:List Oper} {st:Bool} {o:Oper} {F:Env->PV->List ar->Prop} {env:Env} {h:List ar} (hp:yq P T all st o F env h):fs P T all st o (F env) env h:=by
 unfold yq at hp;unfold fs;generalize o.guard=g at hp ⊢;cases g with
 | none=>exact hp
 | some q=>
  obtain⟨j,want⟩:=q;simp only at hp ⊢;generalize(all[j]?).bind (·.dst)=d at hp ⊢;cases d with
  | none=>exact hp
  | some t=>
   simp only at hp ⊢;generalize hv:env t=v at hp ⊢;cases v with
   | bool b=>
    simp only at hp ⊢;obtain⟨h1,h2⟩:=lZ hp;cases b with
    | true=>
     have h1:=h1 rfl;rw[Cy hv]at h1;cases want<;>exact h1
    | false=>
     have h2:=h2 rfl;rw[Cy hv]at h2;cases want<;>exact h2
   | hJ l=>cases l with
    | nil=>exact hp
    | cons a r=>exact hp
   | _=>exact hp
theorem Ak {env env':Env} {o:Oper} {ops:Array Oper} (hl:∀t,t∈o.looksAt ops->env t=env' t):ND env env' o.op:=λx a=>by
 cases x with
 | tmp t=>exact hl t (by unfold Oper.looksAt;rw[afY];left;rw[List.mem_filterMap];exact⟨_,a,rfl⟩)
 | _=>rfl
theorem vS {env env':Env} {o:Oper} {ops:Array Oper} (hl:∀t,t∈o.looksAt ops->env t=env' t) {j:Nat} {w:Bool} (hg:o.guard=some (j,w)) {t:Nat} (a:(ops.toList[j]?).bind (·.dst)=some t):env t=env' t:=
 hl t (by
  unfold Oper.looksAt;rw[afY,hg];right;have:ops.toList[j]? =ops[j]?:=by simp
  rw[this]at a;show t∈((ops[j]?).bind (·.dst)).toList;rw[a];simp)
theorem Tr {ops:Array Oper} {st:Bool} {o:Oper} {G:PV->List ar->Prop} {env env':Env} {h:List ar} (hl:∀t,t∈o.looksAt ops->env t=env' t) (hp:fs P T ops.toList st o G env h):fs P T ops.toList st o G env' h:=by
 have a:FE P T st o.op env h G=FE P T st o.op env' h G:=by
  cases st with
  | true=>exact Aj _ (Ak hl)
  | false=>exact VD _ (Ak hl)
 unfold fs at hp ⊢;cases hg:o.guard with
 | none=>rw[hg]at hp;simp only at hp ⊢;rw[<-a];exact hp
 | some q=>
  obtain⟨j,want⟩:=q;rw[hg]at hp;simp only at hp ⊢;cases hd:(ops.toList[j]?).bind (·.dst)with
  | none=>rw[hd]at hp;exact hp
  | some t=>
   rw[hd]at hp;simp only at hp ⊢;rw[<-vS hl hg hd,<-a];exact hp
theorem Al {α β:Type} {f g:α->List β}:∀(l:List α),(∀x,x∈l->f x=g x)->l.flatMap f=l.flatMap g
 | [],_=>rfl
 | a::r,h=>by rw[ahD,ahD,h a ajq,Al r (λx b=>h x (agm _ b))]
theorem Ev (env:Env) (op:Op):(∃x,op=.move x)\/qo env op=op.operands.toList.flatMap (λx=>wm (ev env x)):=by
 cases op<;>first | exact .inl ⟨_,rfl⟩ | exact .inr rfl
theorem NI {T:sI} {env:Env} {h h':List ar} {K:PV->Prop} {op:Op} (hi:∀id,id∈qo env op->dx h id=dx h' id):de T op env h K=de T op env h' K:=by
 rcases Ev env op with⟨x,rfl⟩ | e
 ·rfl
 ·exact P2 op (λx a id hid=>hi id (by rw[e,List.mem_flatMap];exact⟨x,a,hid⟩))
theorem Ew {env env':Env} {op:Op} (hs:∀x,x∈op.operands.toList->ev env x=ev env' x):qo env' op=qo env op:=by
 rcases Ev env op with⟨x,rfl⟩ | e
 ·rfl
 ·rcases Ev env' op with⟨x,rfl⟩ | a
  ·rfl
  ·rw[e,a];exact Al _ (λx b=>by rw[hs x b])
theorem IE {ops:Array Oper} {o:Oper} {G:PV->List ar->Prop} {env:Env} {h:List ar} (hp:fs P T ops.toList true o G env h):
  ∃v,G v h/\∀(env':Env) (h':List ar) (c:PV->List ar->Prop),(∀t,t∈o.looksAt ops->env t=env' t)->(∀id,id∈qo env o.op->dx h id=dx h' id)->c v h'->fs P T ops.toList true o c env' h':=by
 have run:de T o.op env h (λv=>G v h)->∃v,G v h/\∀(env':Env) (h':List ar) (c:PV->List ar->Prop),(∀t,t∈o.looksAt ops->env t=env' t)->(∀id,id∈qo env o.op->dx h id=dx h' id)->c v h'->de T o.op env' h' (λv=>c v h'):=λhs=>by
  obtain⟨v,h1,h2⟩:=Lr T o.op env h _ hs;refine⟨v,h1,λenv' h' c hl hi hg=>?_⟩;rw[<-Aj o.op (Ak hl),<-NI (op:=o.op) hi];exact h2 _ hg
 unfold fs at hp;cases hg:o.guard with
 | none=>
  rw[hg]at hp;obtain⟨v,h1,h2⟩:=run hp;refine⟨v,h1,λenv' h' c hl hi hk=>?_⟩;unfold fs;rw[hg];exact h2 env' h' c hl hi hk
 | some q=>
  obtain⟨j,want⟩:=q;rw[hg]at hp;simp only at hp;cases hd:(ops.toList[j]?).bind (·.dst)with
  | none=>rw[hd]at hp;exact hp.elim
  | some t=>
   rw[hd]at hp;simp only at hp;cases hv:env t with
   | bool b=>
    rw[hv]at hp;simp only at hp;cases hc:(b==want)with
    | true=>
     rw[hc]at hp;obtain⟨v,h1,h2⟩:=run hp;refine⟨v,h1,λenv' h' c hl hi hk=>?_⟩;unfold fs;rw[hg];simp only;rw[hd];simp only;rw[<-vS hl hg hd,hv];simp only;rw[hc];exact h2 env' h' c hl hi hk
    | false=>
     rw[hc]at hp;refine⟨_,hp,λenv' h' c hl hi hk=>?_⟩;unfold fs;rw[hg];simp only;rw[hd];simp only;rw[<-vS hl hg hd,hv];simp only;rw[hc];exact hk
   | hJ l=>
    rw[hv]at hp;cases l with
    | nil=>
     refine⟨_,hp,λenv' h' c hl hi hk=>?_⟩;unfold fs;rw[hg];simp only;rw[hd];simp only;rw[<-vS hl hg hd,hv];exact hk
    | cons a r=>exact hp.elim
   | _=>rw[hv]at hp;exact hp.elim
def Nv (P:Program) (T:sI) (all:List Oper) (t:List (Nat×List Nat)) (K:Env->List ar->Prop):List (Nat×Bool)->List (Nat×List Nat)->Env->List ar->Prop
 | [],_,env,h=>K env h
 | (i,st)::r,a,env,h=>∃o,all[i]? =some o/\fs P T all st o (λv h'=>match st with
   | true=>Nv P T all t K r ((i,qo env o.op)::a) (eQ env o.dst v) h'
   | false=>(∀j ids,(j,ids)∈a->rU (fS t i) j=false->∀id,id∈ids->dx h id=dx h' id)/\Nv P T all t K r a (eQ env o.dst v) h') env h
theorem Ao {h h':List ar} {K:Prop}:∀(ids:List Nat),IC h h' K ids->(∀id,id∈ids->dx h id=dx h' id)/\K
 | [],hk=>⟨λid hid=>by simp at hid,hk⟩
 | a::r,hk=>by
  obtain⟨h1,h2⟩:=Ao r hk.2;refine⟨λid hid=>?_,h2⟩;simp only[afW]at hid;rcases hid with rfl | hid
  ·exact hk.1
  ·exact h1 id hid
theorem su {c:List Nat} {h h':List ar} {K:Prop}:∀(e:List (Nat×List Nat)),ur c h h' K e->(∀j ids,(j,ids)∈e->rU c j=false->∀id,id∈ids->dx h id=dx h' id)/\K
 | [],hk=>⟨λj ids hj=>by simp at hj,hk⟩
 | (a,l)::r,hk=>by
  unfold ur at hk;cases d:rU c a with
  | true=>
   rw[d]at hk;obtain⟨h1,h2⟩:=su r hk;refine⟨λj ids hj b=>?_,h2⟩;simp only[afW]at hj;rcases hj with hj | hj
   ·injection hj with f e2;subst f;rw[d]at b;cases b
   ·exact h1 j ids hj b
  | false=>
   rw[d]at hk;obtain⟨q1,q2⟩:=Ao l hk;obtain⟨h1,h2⟩:=su r q2;refine⟨λj ids hj b=>?_,h2⟩;simp only[afW]at hj;rcases hj with hj | hj
   ·injection hj with f e2;subst e2;exact q1
   ·exact h1 j ids hj b
theorem vh {all:List Oper} {t:List (Nat×List Nat)} {K:Env->List ar->Prop}:∀(l:List (Nat×Bool)) (a:List (Nat×List Nat)) (env:Env) (h:List ar),fw P T all t K l a env h->Nv P T all t K l a env h
 | [],_,_,_,hp=>hp
 | (i,true)::r,a,env,h,hp=>by
  have hp:(match all[i]? with
   | some o=>yq P T all true o (λenv' v h'=>fw P T all t K r ((i,qo env' o.op)::a) (eQ env' o.dst v) h') env h
   | none=>False):=hp
  cases b:all[i]? with
  | none=>rw[b]at hp;exact hp.elim
  | some o=>
   rw[b]at hp;exact⟨o,b,ju (λv h' hk=>vh r _ _ _ hk) (uu hp)⟩
 | (i,false)::r,a,env,h,hp=>by
  have hp:(match all[i]? with
   | some o=>yq P T all false o (λenv' v h'=>ur (fS t i) h h' (fw P T all t K r a (eQ env' o.dst v) h') a) env h
   | none=>False):=hp
  cases b:all[i]? with
  | none=>rw[b]at hp;exact hp.elim
  | some o=>
   rw[b]at hp;refine⟨o,b,ju (λv h' hk=>?_) (uu hp)⟩;obtain⟨h1,h2⟩:=su _ hk;exact⟨h1,vh r _ _ _ h2⟩
theorem Ap {all:List Oper} {t:List (Nat×List Nat)} {K:Env->List ar->Prop}:∀(l:List (Nat×Bool)) (a b:List (Nat×List Nat)) (env:Env) (h:List ar),(∀x,x∈b->x∈a)->Nv P T all t K l a env h->Nv P T all t K l b env h
 | [],_,_,_,_,_,hp=>hp
 | (i,st)::r,a,b,env,h,hs,hp=>by
  obtain⟨o,d,hp⟩:=hp;refine⟨o,d,ju (λv h' hk=>?_) hp⟩;cases st with
  | true=>exact Ap r _ _ _ _ (λx c=>by simp only[afW]at c ⊢;exact c.imp id (hs x)) hk
  | false=>exact⟨λj ids hj=>hk.1 j ids (hs _ hj),Ap r _ _ _ _ hs hk.2⟩
theorem GP {env:Env} {d e:Option Nat} {u v:PV} (b:∀x,d=some x->e≠some x):eQ (eQ env d u) e v=eQ (eQ env e v) d u:=by
 cases d with
 | none=>rfl
 | some x=>
  cases e with
  | none=>rfl
  | some y=>
   have a:x≠y:=λhe=>b x rfl (by rw[he]);funext j;simp only[eQ,tR];cases h1:Nat.beq j y with
   | true=>
    have:=afM h1;subst this;cases h2:Nat.beq j x with
    | true=>exact absurd (afM h2).symm a
    | false=>rfl
   | false=>cases h2:Nat.beq j x<;>rfl
theorem xL {env:Env} {d:Option Nat} {v:PV} {l:List Nat} (a:∀x,d=some x->x∉l):∀t,t∈l->env t=eQ env d v t:=λt b=>by
 cases d with
 | none=>rfl
 | some x=>
  have:t≠x:=λhe=>a x rfl (he▸b);simp only[eQ,tR];cases h2:Nat.beq t x with
  | true=>exact absurd (afM h2) this
  | false=>rfl
theorem Lo {ops:Array Oper} {t:List (Nat×List Nat)} {K:Env->List ar->Prop} {i:Nat} {st:Bool} {b:Oper} (k:ops.toList[i]? =some b):
  ∀(l1 e:List (Nat×Bool)) (f:List (Nat×List Nat)) (env:Env) (h:List ar),(∀p,p∈l1->p.2=true/\rU (fS t i) p.1=false/\xI ops p.1 i=true)->Nv P T ops.toList t K (l1++(i,st)::e) f env h->
   fs P T ops.toList st b (λv h'=>(st=true->h'=h)/\(st=false->∀j ids,(j,ids)∈f->rU (fS t i) j=false->∀id,id∈ids->dx h id=dx h' id)/\Nv P T ops.toList t K (l1++e) f (eQ env b.dst v) h') env h
 | [],e,f,env,h,_,hp=>by
  obtain⟨o,c,hp⟩:=hp;rw[k]at c;injection c with c;subst c;cases st with
  | true=>
   obtain⟨v,h1,h2⟩:=IE hp;exact h2 env h _ (λ_ _=>rfl) (λ_ _=>rfl) ⟨λ_=>rfl,λhc=>Bool.noConfusion hc,Ap _ _ _ _ _ (λx g=>agm _ g) h1⟩
  | false=>exact ju (λv h' hk=>⟨λhc=>Bool.noConfusion hc,λ_=>hk.1,hk.2⟩) hp
 | (a,r)::l1,e,f,env,h,n,hp=>by
  obtain⟨h1,h2,h3⟩:=n (a,r) ajq;simp only at h1 h2 h3;subst h1;obtain⟨o,c,hp⟩:=hp
  have l:Oper.apart ops o b=true:=by
   unfold xI at h3;have s:ops[a]? =some o:=by simpa using c
   have e2:ops[i]? =some b:=by simpa using k
   rw[s,e2]at h3;exact h3
  obtain⟨w,y,z⟩:=Oper.apart_spec l;obtain⟨u,A,B⟩:=IE hp;have C:=Lo k l1 e _ _ h (λp hp=>n p (agm _ hp)) A;have m:=Tr (env':=env) (λx g=>(xL (λd hd=>w d hd) x g).symm) C;refine ju (λv h' hk=>⟨hk.1,λhc j ids hj=>hk.2.1 hc j ids (agm _ hj),?_⟩) m
  have D:∀id,id∈qo env o.op->dx h id=dx h' id:=λid hid=>by
   cases st with
   | true=>rw[hk.1 rfl]
   | false=>exact hk.2.1 rfl a _ ajq h2 id hid
  have q:∀x,x∈o.looksAt ops->env x=eQ env b.dst v x:=xL (λd hd=>z d hd);refine⟨o,c,B _ h' _ q D ?_⟩
  have E:qo (eQ env b.dst v) o.op=qo env o.op:=by
   exact Ew (Ak q)
  simp only;rw[E,GP (λx g=>(λhe=>y x he g):∀x,b.dst=some x->o.dst≠some x)];exact hk.2.2
def oQ (P:Program) (T:sI) (all:List Oper) (t:List (Nat×List Nat)) (E:List (Nat×List Nat)->Env->List ar->Prop):List (Nat×Bool)->List (Nat×List Nat)->Env->List ar->Prop
 | [],a,env,h=>E a env h
 | (i,st)::r,a,env,h=>∃o,all[i]? =some o/\fs P T all st o (λv h'=>match st with
   | true=>oQ P T all t E r ((i,qo env o.op)::a) (eQ env o.dst v) h'
   | false=>(∀j ids,(j,ids)∈a->rU (fS t i) j=false->∀id,id∈ids->dx h id=dx h' id)/\oQ P T all t E r a (eQ env o.dst v) h') env h
def wk (E:List (Nat×List Nat)->Env->List ar->Prop):Prop:=∀(a b:List (Nat×List Nat)) (env:Env) (h:List ar),(∀x,x∈b->x∈a)->E a env h->E b env h
theorem xM {all:List Oper} {t:List (Nat×List Nat)} {E:List (Nat×List Nat)->Env->List ar->Prop} (c:wk E):∀(l:List (Nat×Bool)) (a b:List (Nat×List Nat)) (env:Env) (h:List ar),(∀x,x∈b->x∈a)->oQ P T all t E l a env h->oQ P T all t E l b env h
 | [],a,b,_,_,hs,hp=>c a b _ _ hs hp
 | (i,st)::r,a,b,env,h,hs,hp=>by
  obtain⟨o,e,hp⟩:=hp;refine⟨o,e,ju (λv h' hk=>?_) hp⟩;cases st with
  | true=>exact xM c r _ _ _ _ (λx d=>by simp only[afW]at d ⊢;exact d.imp id (hs x)) hk
  | false=>exact⟨λj ids hj=>hk.1 j ids (hs _ hj),xM c r _ _ _ _ hs hk.2⟩
theorem xJ {ops:Array Oper} {t:List (Nat×List Nat)} {E:List (Nat×List Nat)->Env->List ar->Prop} (n:wk E) {i:Nat} {st:Bool} {b:Oper} (k:ops.toList[i]? =some b):
  ∀(l1 e:List (Nat×Bool)) (f:List (Nat×List Nat)) (env:Env) (h:List ar),(∀p,p∈l1->p.2=true/\rU (fS t i) p.1=false/\xI ops p.1 i=true)->oQ P T ops.toList t E (l1++(i,st)::e) f env h->
   fs P T ops.toList st b (λv h'=>(st=true->h'=h)/\(st=false->∀j ids,(j,ids)∈f->rU (fS t i) j=false->∀id,id∈ids->dx h id=dx h' id)/\oQ P T ops.toList t E (l1++e) f (eQ env b.dst v) h') env h
 | [],e,f,env,h,_,hp=>by
  obtain⟨o,c,hp⟩:=hp;rw[k]at c;injection c with c;subst c;cases st with
  | true=>
   obtain⟨v,h1,h2⟩:=IE hp;exact h2 env h _ (λ_ _=>rfl) (λ_ _=>rfl) ⟨λ_=>rfl,λhc=>Bool.noConfusion hc,xM n _ _ _ _ _ (λx g=>agm _ g) h1⟩
  | false=>exact ju (λv h' hk=>⟨λhc=>Bool.noConfusion hc,λ_=>hk.1,hk.2⟩) hp
 | (a,s)::l1,e,f,env,h,q,hp=>by
  obtain⟨h1,h2,h3⟩:=q (a,s) ajq;simp only at h1 h2 h3;subst h1;obtain⟨o,c,hp⟩:=hp
  have l:Oper.apart ops o b=true:=by
   unfold xI at h3;have w:ops[a]? =some o:=by simpa using c
   have e2:ops[i]? =some b:=by simpa using k
   rw[w,e2]at h3;exact h3
  obtain⟨y,z,A⟩:=Oper.apart_spec l;obtain⟨u,B,C⟩:=IE hp;have D:=xJ n k l1 e _ _ h (λp hp=>q p (agm _ hp)) B;have m:=Tr (env':=env) (λx g=>(xL (λd hd=>y d hd) x g).symm) D;refine ju (λv h' hk=>⟨hk.1,λhc j ids hj=>hk.2.1 hc j ids (agm _ hj),?_⟩) m
  have F:∀id,id∈qo env o.op->dx h id=dx h' id:=λid hid=>by
   cases st with
   | true=>rw[hk.1 rfl]
   | false=>exact hk.2.1 rfl a _ ajq h2 id hid
  have r:∀x,x∈o.looksAt ops->env x=eQ env b.dst v x:=xL (λd hd=>A d hd);refine⟨o,c,C _ h' _ r F ?_⟩
  have G:qo (eQ env b.dst v) o.op=qo env o.op:=by
   exact Ew (Ak r)
  simp only;rw[G,GP (λx g=>(λhe=>z x he g):∀x,b.dst=some x->o.dst≠some x)];exact hk.2.2
theorem xm {all:List Oper} {t:List (Nat×List Nat)} {E:List (Nat×List Nat)->Env->List ar->Prop} {b:List (Nat×Bool)}:∀(l:List (Nat×Bool)) (a:List (Nat×List Nat)) (env:Env) (h:List ar),oQ P T all t (λa env h=>oQ P T all t E b a env h) l a env h->oQ P T all t E (l++b) a env h
 | [],_,_,_,hp=>hp
 | (i,st)::r,a,env,h,hp=>by
  obtain⟨o,c,hp⟩:=hp;refine⟨o,c,ju (λv h' hk=>?_) hp⟩;cases st with
  | true=>exact xm r _ _ _ hk
  | false=>exact⟨hk.1,xm r _ _ _ hk.2⟩
theorem Ai {all:List Oper} {t:List (Nat×List Nat)} {E b:List (Nat×List Nat)->Env->List ar->Prop} (hi:∀a env h,E a env h->b a env h):∀(l:List (Nat×Bool)) (a:List (Nat×List Nat)) (env:Env) (h:List ar),oQ P T all t E l a env h->oQ P T all t b l a env h
 | [],_,_,_,hp=>hi _ _ _ hp
 | (i,st)::r,a,env,h,hp=>by
  obtain⟨o,c,hp⟩:=hp;refine⟨o,c,ju (λv h' hk=>?_) hp⟩;cases st with
  | true=>exact Ai hi r _ _ _ hk
  | false=>exact⟨hk.1,Ai hi r _ _ _ hk.2⟩
theorem xl {all:List Oper} {t:List (Nat×List Nat)} {K:Env->List ar->Prop} {b:List (Nat×Bool)}:∀(l:List (Nat×Bool)) (a:List (Nat×List Nat)) (env:Env) (h:List ar),oQ P T all t (λa env h=>Nv P T all t K b a env h) l a env h->Nv P T all t K (l++b) a env h
 | [],_,_,_,hp=>hp
 | (i,st)::r,a,env,h,hp=>by
  obtain⟨o,c,hp⟩:=hp;refine⟨o,c,ju (λv h' hk=>?_) hp⟩;cases st with
  | true=>exact xl r _ _ _ hk
  | false=>exact⟨hk.1,xl r _ _ _ hk.2⟩
theorem uq {all:List Oper} {t:List (Nat×List Nat)} {E c:List (Nat×List Nat)->Env->List ar->Prop} (hi:∀a env h,E a env h->c a env h):∀(l:List (Nat×Bool)) (a:List (Nat×List Nat)) (env:Env) (h:List ar),fwE P T all t E l a env h->oQ P T all t c l a env h
 | [],_,_,_,hp=>hi _ _ _ hp
 | (i,true)::r,a,env,h,hp=>by
  have hp:(match all[i]? with
   | some o=>yq P T all true o (λenv' v h'=>fwE P T all t E r ((i,qo env' o.op)::a) (eQ env' o.dst v) h') env h
   | none=>False):=hp
  cases b:all[i]? with
  | none=>rw[b]at hp;exact hp.elim
  | some o=>
   rw[b]at hp;exact⟨o,b,ju (λv h' hk=>uq hi r _ _ _ hk) (uu hp)⟩
 | (i,false)::r,a,env,h,hp=>by
  have hp:(match all[i]? with
   | some o=>yq P T all false o (λenv' v h'=>ur (fS t i) h h' (fwE P T all t E r a (eQ env' o.dst v) h') a) env h
   | none=>False):=hp
  cases b:all[i]? with
  | none=>rw[b]at hp;exact hp.elim
  | some o=>
   rw[b]at hp;refine⟨o,b,ju (λv h' hk=>?_) (uu hp)⟩;obtain⟨h1,h2⟩:=su _ hk;exact⟨h1,uq hi r _ _ _ h2⟩
theorem A7 {all:List Oper} {t:List (Nat×List Nat)} {K:Env->List ar->Prop} (l:List (Nat×Bool)):wk (λa env h=>Nv P T all t K l a env h):=λa b env h hs hp=>Ap l a b env h hs hp
theorem tI {all:List Oper} {t:List (Nat×List Nat)} {E:List (Nat×List Nat)->Env->List ar->Prop} (b:wk E) (l:List (Nat×Bool)):wk (λa env h=>oQ P T all t E l a env h):=λa c env h hs hp=>xM b l a c env h hs hp
theorem GI {E b:List (Nat×List Nat)->Env->List ar->Prop} (h1:wk E) (h2:wk b):wk (λa env h=>E a env h/\b a env h):=λa c env h hs hp=>⟨h1 a c env h hs hp.1,h2 a c env h hs hp.2⟩
end
theorem bz.mono {S S':Nat->Prop} {w w':World} (hw:∀b,S b->w'.heap[b]? =w.heap[b]?) (g:∀b,S b->S' b) {pv:PV} {v:Value} (h:bz S w pv v):bz S' w' pv v:=by
 induction h with
 | int k n=>exact .int k n
 | bool b=>exact .bool b
 | str s=>exact .str s
 | au=>exact .au
 | jq=>exact .jq
 | fn f=>exact .fn f
 | tM sz f a c=>exact .tM sz f a c
 | gn sz n f b off c d h1 h2 h3 h4 _ e=>
  exact .gn sz n f b off c d (g b h1) h2 h3 (λi j pv hi hj=>(World.cell?_of_block (w:=w) (hw b h1)).trans (h4 i j pv hi hj)) e
 | fT cs b off d h1 h4 _ e=>
  exact .fT cs b off d (g b h1) (λj pv hj=>(World.cell?_of_block (w:=w) (hw b h1)).trans (h4 j pv hj)) e
theorem lD.of_same {w w':World} {b k:Nat} (h:w'.heap[b]? =w.heap[b]?) (hc:lD w b k):lD w' b k:=by
 obtain⟨cur,e,z,h1,h2⟩:=hc;exact⟨cur,e,z,h.trans h1,h2⟩
theorem lD.least {w:World} {b k:Nat} (h:lD w b k):lD w b 0:=by
 obtain⟨cur,e,z,h1,h2⟩:=h;exact⟨cur,e,z,h1,agt _⟩
theorem oz.mono {S S':Nat->Prop} {w w':World} (hw:∀b,S b->w'.heap[b]? =w.heap[b]?) (r:∀b,S b->S' b) {pv:PV} {v:Value} (h:oz S w pv v):
  (∀sz n e f F,pv=.aV sz n e f F->∀b,F b->w'.heap[b]? =w.heap[b]?)->oz S' w' pv v:=by
 induction h with
 | nil sz e f F d=>exactλ_=>.nil sz e f F d
 | Lj sz n e f F b off c a cur s d hb hlen hc t u x y D g z A=>
  intro hk;have hk:=hk _ _ _ _ _ rfl
  exact .Lj sz n e f F b off c a cur s d ((hk b d).trans hb) hlen hc t u x (λi j pv hi hj=>(y i j pv hi hj).imp_left (λq=>q.mono hw r))
   (λi j k l m o B hi hj=>A i j k l m o B hi hj (λ_ _ _ _ _ he p C=>by
    injection he with _ _ _ _ he;subst he;exact hk p (g i j k l m o _ hi hj p C).1)) g z
inductive OG (G:PV->Prop):PV->Prop
 | mk (sz n:Nat) (e:TypeId) (f:Nat->List PV) (F:Nat->Prop) (h1:∀(i j:Nat) (pv:PV),i<n->(f i)[j]? =some pv->dM pv=false->G pv)
   (h2:∀(i j cA n':Nat) (e':TypeId) (f':Nat->List PV) (F':Nat->Prop),i<n->(f i)[j]? =some (.aV cA n' e' f' F')->OG G (.aV cA n' e' f' F')):OG G (.aV sz n e f F)
theorem oz.og {S S':Nat->Prop} {w:World} {G:PV->Prop} (r:∀pv v,G pv->bz S w pv v->bz S' w pv v) {pv:PV} {v:Value} (h:oz S w pv v):OG G pv->oz S' w pv v:=by
 induction h with
 | nil sz e f F d=>exactλ_=>.nil sz e f F d
 | Lj sz n e f F b off c a cur s d hb hlen hc t u x y C z A B=>
  intro hg;cases hg with
  | mk _ _ _ _ _ h1 h2=>
   exact .Lj sz n e f F b off c a cur s d hb hlen hc t u x (λi j pv hi hj=>by
    cases g:dM pv with
    | false=>exact(y i j pv hi hj).imp_left (λq=>r pv _ (h1 i j pv hi hj g) q)
    | true=>exact .inr (by cases pv<;>first | exact⟨_,_,_,_,_,rfl⟩ | cases g)) (λi j k l m o p hi hj=>B i j k l m o p hi hj (h2 i j k l m o p hi hj)) z A
theorem oz.all {S:Nat->Prop} {w:World} {pv:PV} {v:Value} (h:oz S w pv v):OG (λ_=>True) pv:=by
 induction h with
 | nil sz e f F d=>exact .mk sz 0 e f F (λ_ _ _ _ _ _=>trivial) (λi j _ _ _ _ _ hi=>absurd hi (agz _))
 | Lj sz n e f F b off c a cur k d hb hlen hc l m o p q r s g=>exact .mk sz n e f F (λ_ _ _ _ _ _=>trivial) g
theorem oz.one {S:Nat->Prop} {w:World} {pv:PV} {v:Value} (h:oz S w pv v):v.oneCell'=true:=by cases h<;>rfl
section
variable {μ μ':Mu}{h h':List ar}{S S':Nat->Prop}{w w':World}
theorem cD.my {pv:PV} {v:Value} (hp:bz S w pv v):cD μ h S w pv v:=by
 cases hp<;>first | exact .int _ _ | exact .bool _ | exact .str _ | exact .au | exact .jq | exact .fn _ | exact .tM _ _ _ _ | (rename_i h1 h2 h3 h4 h5 _;first | exact .gn _ _ _ _ _ _ _ ‹_› ‹_› ‹_› ‹_› ‹_›) | exact .fT _ _ _ _ ‹_› ‹_› ‹_›
theorem cD.fr (hf:Fr μ h S w μ' h' S' w') (hm:vz μ h S w) {pv:PV} {v:Value} (hc:cD μ h S w pv v):cD μ' h' S' w' pv v:=by
 have j:∀b,S b->w'.heap[b]? =w.heap[b]?:=λb hb=>hf.blocks b (hm.slt b hb) (λc=>hm.apart b c hb)
 have z:∀(id gen i off:Nat) (v:Value),cE μ h w id gen i off v->cE μ' h' w' id gen i off v:=λid gen i off v hc=>by
  unfold cE at hc ⊢;obtain⟨l,hc⟩:=hc;refine⟨l,?_⟩;cases c:h[id]? with
  | none=>rw[c]at hc;exact hc.elim
  | some o=>
   cases o with
   | dead=>rw[hf.dead id c];trivial
   | row g sz n e f=>
    rw[c]at hc;have hg:=hf.Dx id g sz n e f c;cases d:h'[id]? with
    | none=>rw[d]at hg;exact hg
    | some r=>
     cases r with
     | dead=>trivial
     | row q A B C D=>
      rw[d]at hg;obtain⟨hle,t⟩:=hg;obtain⟨x,hc⟩:=hc;refine⟨agq x hle,λhe=>?_⟩;have heq:q=g:=by omega
      obtain⟨hμ,rfl,rfl,rfl⟩:=t heq;obtain⟨h1,h2⟩:=hc ajo;refine⟨h1,?_⟩;rw[hμ];obtain⟨b,base,q1,q2,q3⟩:=h2;exact⟨b,base,q1,⟨hf.df b _ (.inl ⟨id,g,_,_,_,_,base,c,q1⟩) q2.1,q2.2⟩,q3⟩
 cases pv with
 | own id gen off len=>
  have hc:cf μ h w id gen off len v:=hc;show cf μ' h' w' id gen off len v;unfold cf at hc ⊢;obtain⟨l,hc⟩:=hc;refine⟨l,?_⟩;cases c:h[id]? with
  | none=>rw[c]at hc;exact hc.elim
  | some o=>
   cases o with
   | dead=>rw[hf.dead id c];trivial
   | row g sz n e f=>
    rw[c]at hc;have hg:=hf.Dx id g sz n e f c;cases d:h'[id]? with
    | none=>rw[d]at hg;exact hg
    | some r=>
     cases r with
     | dead=>trivial
     | row q A B C D=>
      rw[d]at hg;obtain⟨hle,t⟩:=hg;obtain⟨x,hc⟩:=hc;refine⟨agq x hle,λhe=>?_⟩;have heq:q=g:=by omega
      obtain⟨hμ,rfl,rfl,rfl⟩:=t heq;obtain⟨h1,h2⟩:=hc ajo;refine⟨h1,?_⟩;rw[hμ];cases y:μ id with
      | none=>rw[y]at h2;exact h2
      | some p=>
       obtain⟨b,base⟩:=p;rw[y]at h2;obtain⟨a,cap,h3,h4,h5,h6⟩:=h2;exact⟨a,cap,h3,h4,h5,hf.df b _ (.inl ⟨id,g,_,_,_,_,base,c,y⟩) h6⟩
 | bE id gen i off=>exact z _ _ _ _ _ hc
 | uP f df=>exact wy.mono (show tq μ h w f df v from hc) (λid g u hu=>z _ _ _ _ _ hu)
 | ql id=>
  have hc:gy μ h w id v:=hc;show gy μ' h' w' id v;unfold gy at hc ⊢;obtain⟨l,hc⟩:=hc;refine⟨l,?_⟩;cases c:h[id]? with
  | none=>rw[c]at hc;exact hc.elim
  | some o=>
   cases o with
   | dead=>rw[hf.dead id c];trivial
   | row g sz n e f=>
    rw[c]at hc;obtain⟨b,base,q1,q2,q3⟩:=hc;obtain⟨r1,m⟩:=hf.maps id g sz n e f b base c q1 q2;rcases m with m | ⟨⟨q,A,B,C,D,m⟩,E⟩
    ·rw[m];trivial
    ·rw[m];exact⟨b,base,E,r1,q3⟩
 | jI=>exact hc
 | aV sz n e f F=>exact hc
 | agg cs=>exact hc.elim
 | hJ cs=>exact hc.elim
 | int k n=>exact bz.mono j hf.sub hc
 | bool b=>exact bz.mono j hf.sub hc
 | str s=>exact bz.mono j hf.sub hc
 | au=>exact bz.mono j hf.sub hc
 | jq=>exact bz.mono j hf.sub hc
 | gn sz n f=>exact bz.mono j hf.sub hc
 | fT cs=>exact bz.mono j hf.sub hc
 | fn f=>exact bz.mono j hf.sub hc
theorem jG.fr (hf:Fr μ h S w μ' h' S' w') (hm:vz μ h S w) {pv:PV} {v:Value} (hc:jG μ h S w pv v):jG μ' h' S' w' pv v:=by
 cases pv with
 | agg cs=>
  obtain⟨vs,h1,h2,h3⟩:=hc;exact⟨vs,h1,h2,λj pv hj=>let⟨u,hu,a⟩:=h3 j pv hj;⟨u,hu,a.fr hf hm⟩⟩
 | int k n=>exact cD.fr (pv:=.int k n) hf hm hc
 | bool b=>exact cD.fr (pv:=.bool b) hf hm hc
 | str s=>exact cD.fr (pv:=.str s) hf hm hc
 | au =>exact cD.fr (pv:=.au) hf hm hc
 | jq=>exact cD.fr (pv:=.jq) hf hm hc
 | gn sz n f=>exact cD.fr (pv:=.gn sz n f) hf hm hc
 | fT cs=>exact cD.fr (pv:=.fT cs) hf hm hc
 | own id gen off len=>exact cD.fr (pv:=.own id gen off len) hf hm hc
 | bE id gen i off=>exact cD.fr (pv:=.bE id gen i off) hf hm hc
 | ql id=>exact cD.fr (pv:=.ql id) hf hm hc
 | uP f df=>exact cD.fr (pv:=.uP f df) hf hm hc
 | fn f=>exact cD.fr (pv:=.fn f) hf hm hc
 | jI=>trivial
 | aV sz n e f F=>exact cD.fr (pv:=.aV sz n e f F) hf hm hc
 | hJ cs=>exact(show False from hc).elim
theorem cw.fr (hf:Fr μ h S w μ' h' S' w') (hm:vz μ h S w) {pv:PV} {v:Value} (hc:cw μ h S w pv v):cw μ' h' S' w' pv v:=by
 cases pv with
 | hJ cs=>
  obtain⟨vs,h1,h2,h3⟩:=hc;exact⟨vs,h1,h2,λj pv hj=>let⟨u,hu,a⟩:=h3 j pv hj;⟨u,hu,a.fr hf hm⟩⟩
 | int k n=>exact jG.fr (pv:=.int k n) hf hm hc
 | bool b=>exact jG.fr (pv:=.bool b) hf hm hc
 | str s=>exact jG.fr (pv:=.str s) hf hm hc
 | au =>exact jG.fr (pv:=.au) hf hm hc
 | jq=>exact jG.fr (pv:=.jq) hf hm hc
 | gn sz n f=>exact jG.fr (pv:=.gn sz n f) hf hm hc
 | fT cs=>exact jG.fr (pv:=.fT cs) hf hm hc
 | own id gen off len=>exact jG.fr (pv:=.own id gen off len) hf hm hc
 | bE id gen i off=>exact jG.fr (pv:=.bE id gen i off) hf hm hc
 | ql id=>exact jG.fr (pv:=.ql id) hf hm hc
 | uP f df=>exact jG.fr (pv:=.uP f df) hf hm hc
 | fn f=>exact jG.fr (pv:=.fn f) hf hm hc
 | jI=>trivial
 | aV sz n e f F=>exact jG.fr (pv:=.aV sz n e f F) hf hm hc
 | agg cs=>exact jG.fr (pv:=.agg cs) hf hm hc
theorem bz.one {pv:PV} {v:Value} (hp:bz S w pv v):v.oneCell'=true:=by cases hp<;>rfl
theorem cD.one {pv:PV} {v:Value} (hc:cD μ h S w pv v):v.oneCell'=true:=by
 cases pv with
 | own id gen off len=>
  obtain⟨⟨a,l,c,rfl⟩,_⟩:=(show cf μ h w id gen off len v from hc);rfl
 | bE id gen i off=>
  obtain⟨⟨a,rfl⟩,_⟩:=(show cE μ h w id gen i off v from hc);rfl
 | ql id=>
  obtain⟨⟨a,rfl⟩,_⟩:=(show gy μ h w id v from hc);rfl
 | uP f df=>
  obtain⟨vs,rfl,_⟩:=(show tq μ h w f df v from hc);rfl
 | jI=>exact hc
 | aV sz n e f F=>exact hc
 | agg cs=>exact(show False from hc).elim
 | hJ cs=>exact(show False from hc).elim
 | int k n=>exact bz.one (show bz S w _ v from hc)
 | bool b=>exact bz.one (show bz S w _ v from hc)
 | str s=>exact bz.one (show bz S w _ v from hc)
 | au=>exact bz.one (show bz S w _ v from hc)
 | jq=>exact bz.one (show bz S w _ v from hc)
 | gn sz n f=>exact bz.one (show bz S w _ v from hc)
 | fT cs=>exact bz.one (show bz S w _ v from hc)
 | fn f=>exact bz.one (show bz S w _ v from hc)
theorem rH.c {pv:PV} {v:Value} (hc:rH μ h S w pv v):cD μ h S w pv v:=by
 cases pv with
 | aV sz n e f F=>exact oz.one (show oz S w (.aV sz n e f F) v from hc)
 | _=>exact hc
theorem cD.k {pv:PV} {v:Value} (hc:cD μ h S w pv v) (a:dM pv=false):rH μ h S w pv v:=by
 cases pv with
 | aV sz n e f F=>cases a
 | _=>exact hc
theorem rH.fr (hf:Fr μ h S w μ' h' S' w') (hm:vz μ h S w) {pv:PV} {v:Value} (a:∀sz n e f F,pv=.aV sz n e f F->∀b,F b->w'.heap[b]? =w.heap[b]?) (hc:rH μ h S w pv v):rH μ' h' S' w' pv v:=by
 cases pv with
 | aV sz n e f F=>exact oz.mono (λb hb=>hf.blocks b (hm.slt b hb) (λd=>hm.apart b d hb)) hf.sub (show oz S w (.aV sz n e f F) v from hc) a
 | _=>exact(cD.fr hf hm (rH.c hc)).k rfl
theorem zg {id i j b:Nat}:¬dD [] id i j b:=λ⟨_,_,_,_,_,_,_,_,_,_,h1,_⟩=>by simp at h1
theorem mz {μ:Mu} {b:Nat}:¬dc μ [] b:=λh=>by
 rcases h with⟨id,g,sz,n,e,f,base,h1,_⟩ | ⟨_,_,_,h1⟩
 ·simp at h1
 ·exact zg h1
theorem Fr.refl:Fr μ h S w μ h S w where
 len:=abF _
 blocks _ _ _:=rfl
 sub _ hb:=hb
 new _ hb:=.inl hb
 own _ hb:=.inl hb
 size:=abF _
 os:=rfl
 tape:=rfl
 output:=rfl
 Dx id g sz n e f hh:=by rw[hh];exact⟨abF _,λ_=>⟨rfl,rfl,rfl,rfl⟩⟩
 dead _ hh:=hh
 df _ _ _ hc:=hc
 maps id g sz n e f b base a hm hb:=⟨hb,.inr ⟨⟨g,sz,n,e,f,a⟩,hm⟩⟩
 yg b id i j hh hb:=hb
theorem Fr.trans {μ'':Mu} {t:List ar} {B:Nat->Prop} {C:World} (a:Fr μ h S w μ' h' S' w') (b:Fr μ' h' S' w' μ'' t B C):Fr μ h S w μ'' t B C where
 len:=agq a.len b.len
 blocks k hk D:=(b.blocks k (agc hk a.size) (λs=>by
  rcases a.own k s with h1 | h1
  ·exact D h1
  ·omega)).trans (a.blocks k hk D)
 sub k hk:=b.sub k (a.sub k hk)
 new k hk:=by
  rcases b.new k hk with h1 | h1 | h1
  ·exact a.new k h1
  ·rcases a.own k h1 with h2 | h2
   ·exact .inr (.inl h2)
   ·exact .inr (.inr h2)
  ·exact .inr (.inr (agq a.size h1))
 own k hk:=by
  rcases b.own k hk with h1 | h1
  ·exact a.own k h1
  ·exact .inr (agq a.size h1)
 size:=agq a.size b.size
 os:=b.os.trans a.os
 tape:=b.tape.trans a.tape
 output:=b.output.trans a.output
 Dx id g sz n e f hh:=by
  have h1:=a.Dx id g sz n e f hh;cases d:h'[id]? with
  | none=>rw[d]at h1;exact h1.elim
  | some F=>
   cases F with
   | dead=>rw[b.dead id d];trivial
   | row l o p q r=>
    rw[d]at h1;have h2:=b.Dx id l o p q r d;cases m:t[id]? with
    | none=>rw[m]at h2;exact h2
    | some u=>
     cases u with
     | dead=>trivial
     | row v E G H I=>
      rw[m]at h2;refine⟨agq h1.1 h2.1,λhe=>?_⟩;have J:l=g:=by have:=h1.1;have:=h2.1;omega
      have e2:v=l:=by omega
      obtain⟨K,L,M,N⟩:=h1.2 J;obtain⟨y1,y2,O,P⟩:=h2.2 e2;exact⟨y1.trans K,y2.trans L,O.trans M,P.trans N⟩
 dead id hh:=b.dead id (a.dead id hh)
 df k c s hc:=by
  have h1:=a.df k c s hc;by_cases h2:dc μ' h' k
  ·exact b.df k c h2 h1
  ·refine lD.of_same (b.blocks k ?_ h2) h1;obtain⟨cur,e,z,h3,_⟩:=h1;exact(afN.1 h3).1
 maps id g sz n e f k base s hm hb:=by
  obtain⟨h1,h2⟩:=a.maps id g sz n e f k base s hm hb;rcases h2 with h2 | ⟨⟨l,o,p,q,r,h2⟩,h3⟩
  ·refine⟨?_,.inl (b.dead id h2)⟩;by_cases h4:dc μ' h' k
   ·rcases h4 with⟨j,l,o,p,q,r,A,j1,j2⟩ | ⟨j,x,y,h4⟩
    ·exact(b.maps j l o p q r k A j1 j2 h1).1
    ·exact b.yg k j x y h4 h1
   ·obtain⟨es,c,h5⟩:=h1;exact⟨es,c,(b.blocks k (afN.1 h5).1 h4).trans h5⟩
  ·exact b.maps id l o p q r k base h2 h3 h1
 yg k id i j hh hb:=by
  have h1:=a.yg k id i j hh hb;by_cases h4:dc μ' h' k
  ·rcases h4 with⟨j,l,o,p,q,r,A,j1,j2⟩ | ⟨j,x,y,h4⟩
   ·exact(b.maps j l o p q r k A j1 j2 h1).1
   ·exact b.yg k j x y h4 h1
  ·obtain⟨es,c,h5⟩:=h1;exact⟨es,c,(b.blocks k (afN.1 h5).1 h4).trans h5⟩
structure da (w w':World):Prop where
 blocks:∀b,b<w.heap.size->w'.heap[b]? =w.heap[b]?
 size:w.heap.size<=w'.heap.size
 os:w'.os=w.os
 tape:w'.tape=w.tape
 output:w'.output=w.output
theorem da.refl (w:World):da w w:=⟨λ_ _=>rfl,abF _,rfl,rfl,rfl⟩
theorem da.trans {a b c:World} (x:da a b) (y:da b c):da a c:=
 ⟨λk hk=>(y.blocks k (agc hk x.size)).trans (x.blocks k hk),agq x.size y.size,y.os.trans x.os,y.tape.trans x.tape,y.output.trans x.output⟩
theorem da.cell {w w':World} (h:da w w') {a:Addr} {u:Value} (hc:w.cell? a=some u):w'.cell? a=some u:=
 (World.cell?_of_block (w:=w) (h.blocks a.block (World.block_lt_of_cell? _ _ hc))).trans hc
theorem da.drew (w:World):da w w.drew:=⟨λ_ _=>rfl,abF _,rfl,rfl,rfl⟩
theorem da.drewN (w:World) (n:Nat):da w (w.drewN n):=⟨λ_ _=>rfl,abF _,rfl,rfl,rfl⟩
theorem lD.lt {b k:Nat} (h:lD w b k):b<w.heap.size:=by
 obtain⟨cur,e,z,h1,_⟩:=h;exact(afN.1 h1).1
theorem Fr.zd (a:da w w'):Fr μ h S w μ h S w' where
 len:=abF _
 blocks b hb _:=a.blocks b hb
 sub _ hb:=hb
 new _ hb:=.inl hb
 own _ hb:=.inl hb
 size:=a.size
 os:=a.os
 tape:=a.tape
 output:=a.output
 Dx id g sz n e f hh:=by rw[hh];exact⟨abF _,λ_=>⟨rfl,rfl,rfl,rfl⟩⟩
 dead _ hh:=hh
 df b k _ hc:=lD.of_same (a.blocks b hc.lt) hc
 maps id g sz n e f b base d hm hb:=⟨let⟨es,c,h5⟩:=hb;⟨es,c,(a.blocks b (afN.1 h5).1).trans h5⟩,.inr ⟨⟨g,sz,n,e,f,d⟩,hm⟩⟩
 yg b id i j _ hb:=let⟨es,c,h5⟩:=hb;⟨es,c,(a.blocks b (afN.1 h5).1).trans h5⟩
theorem vz.AS (hm:vz μ h S w) (a:Fr μ h S w μ' h' S' w'):Qf S' w':=
 hm.known.oY (λb hb=>a.blocks b (hm.slt b hb) (λc=>hm.apart b c hb)) a.sub
theorem vz.agree (a:da w w') (hm:vz μ h S w):vz μ h S w':=
 ⟨hm.apart,λb hb=>agc (hm.lt b hb) a.size,λb hb=>agc (hm.slt b hb) a.size,hm.inj,hm.known.oY (λb hb=>a.blocks b (hm.slt b hb)) (λ_ hb=>hb),hm.hv,hm.hh⟩
theorem cW.agree (a:da w w') (hm:vz μ h S w) (hh:cW μ h S w):cW μ h S w':=by
 intro id g sz n e f c;obtain⟨h1,h2⟩:=hh id g sz n e f c;refine⟨h1,?_⟩;cases d:μ id with
 | none=>rw[d]at h2;exact h2
 | some p=>
  obtain⟨b,base⟩:=p;rw[d]at h2;obtain⟨o,h3,h4⟩:=h2;have l:b<w.heap.size:=(afN.1 h3).1;exact⟨o,(a.blocks b l).trans h3,h4.mono (λi j pv v hi hj m=>m.fr (Fr.zd a) hm (λq r s t u he k x=>a.blocks k (hm.lt k (.inr ⟨id,i,j,g,sz,n,e,f,q,r,s,t,u,c,hi,by rw[hj,he],x⟩))))⟩
end
end Go.Am
