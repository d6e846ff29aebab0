/- Texts of the proof, joined and shortened. -/
import Derived.WalkKit
import Derived.Deep.Draws
import Derived.Deep.Quiet
namespace Go.Am
open Go Go.RowKit
set_option linter.unusedVariables false
abbrev so:=@if_neg
abbrev An:=@if_pos
abbrev As:=@List.getElem?_eq_some_iff
abbrev Is:=@Bool.and_eq_true
abbrev abm:=@List.getElem?_eq_getElem
abbrev abn:=@Nat.le_refl
abbrev abo:=@Nat.eq_of_beq_eq_true
abbrev abp:=@List.length_cons
abbrev abq:=@Array.getElem?_eq_some_iff
abbrev abr:=@List.length_nil
abbrev abt:=@List.length_append
abbrev abu:=@List.getElem_mem
abbrev abv:=@List.getD_eq_getElem?_getD
abbrev abw:=@List.all_eq_true
abbrev abx:=@Nat.zero_add
abbrev aby:=@List.mem_append
abbrev abz:=@List.mem_cons_of_mem
abbrev abA:=@List.mem_of_getElem?
abbrev abB:=@Nat.mul_le_mul_right
abbrev abC:=@Nat.add_mul
abbrev abD:=@List.getElem?_map
abbrev abE:=@List.mem_cons
abbrev abF:=@List.map_cons
abbrev abG:=@Nat.lt_of_lt_of_le
abbrev abH:=@decide_eq_true_eq
abbrev abI:=@List.getElem?_append_right
abbrev abJ:=@Array.getElem?_toList
abbrev abK:=@List.getElem?_append_left
abbrev abL:=@List.getElem?_set_ne
abbrev abM:=@Array.getElem?_eq_getElem
abbrev abN:=@List.mem_map
abbrev abO:=@Nat.le_of_ble_eq_true
abbrev abP:=@Option.some.inj
abbrev abQ:=@List.mem_iff_getElem
abbrev abR:=@Nat.not_lt_zero
abbrev abS:=@List.append_assoc
abbrev abT:=@List.length_map
abbrev abU:=@Nat.lt_or_ge
abbrev abV:=@decide_eq_false
abbrev abW:=@Bool.not_eq_true'
abbrev abX:=@Array.getElem?_append_left
abbrev abY:=@Nat.zero_le
abbrev abZ:=@List.getElem?_eq_none
abbrev aca:=@List.drop_eq_getElem_cons
abbrev acb:=@List.mem_singleton
abbrev acd:=@decide_eq_true
abbrev ace:=@Nat.add_zero
abbrev acf:=@List.getElem?_drop
abbrev acg:=@Nat.le_trans
abbrev ach:=@List.length_take
abbrev aci:=@List.take_append_getElem
abbrev acj:=@List.nil_append
abbrev ack:=@beq_iff_eq
abbrev acm:=@List.getElem?_set_self
abbrev acn:=@Array.length_toList
abbrev aco:=@List.getElem?_take
abbrev acp:=@Nat.eq_zero_or_pos
abbrev acq:=@Int.toNat_natCast
abbrev acr:=@Bool.or_eq_true
abbrev acs:=@Array.eq_empty_of_size_eq_zero
abbrev acu:=@List.map_append
abbrev acv:=@List.eq_nil_of_length_eq_zero
abbrev acw:=@List.map_nil
abbrev acx:=@Nat.sub_self
abbrev acy:=@List.getElem_map
abbrev acz:=@List.cons_append
abbrev acA:=@List.getElem?_cons_succ
abbrev acB:=@Ne.symm
abbrev acC:=@List.drop_of_length_le
abbrev acD:=@Bool.false_eq_true
abbrev acE:=@List.getElem?_toArray
abbrev acF:=@List.mem_cons_self
abbrev acG:=@List.append_nil
abbrev acH:=@Nat.beq_refl
abbrev acI:=@List.take_length
abbrev acJ:=@List.getElem?_cons_zero
abbrev acK:=@List.all_cons
abbrev acL:=@Bool.true_and
abbrev acM:=@Array.size_append
abbrev acN:=@List.drop_zero
abbrev acO:=@if_true
abbrev acP:=@Option.getD_some
abbrev acQ:=@Nat.add_assoc
abbrev acR:=@Bool.and_true
abbrev acS:=@List.sum_cons
abbrev acT:=@Array.getElem?_push
abbrev acU:=@Bool.eq_iff_iff
abbrev acV:=@List.mem_or_eq_of_mem_set
abbrev acW:=@Array.getElem?_map
abbrev acX:=@Array.empty_append
abbrev acY:=@List.set_cons_zero
abbrev acZ:=@List.set_cons_succ
abbrev ada:=@Nat.lt_of_lt_of_eq
abbrev adb:=@Array.getElem?_push_size
abbrev ade:=@List.flatMap_cons
abbrev adf:=@List.getElem?_nil
abbrev adg:=@decide_eq_decide
abbrev adh:=@Array.getElem?_setIfInBounds_ne
abbrev adi:=@Option.map_some
abbrev adj:=@List.length_set
abbrev adk:=@List.nodup_cons
abbrev adl:=@List.mem_of_mem_take
abbrev adm:=@bne_iff_ne
abbrev adn:=@List.mem_range
abbrev ado:=@Bool.false_and
abbrev adp:=@if_false
abbrev adq:=@UInt8.toNat_ofNat'
abbrev adr:=@List.getElem_take
abbrev ads:=@Classical.not_not
abbrev adt:=@of_decide_eq_true
abbrev adu:=@List.reverse_nil
abbrev adv:=@List.map_toArray
abbrev adw:=@Option.bind_some
abbrev adx:=@List.length_drop
abbrev ady:=@Nat.le_of_eq
abbrev adz:=@List.drop_length
theorem adA {p:Prop} (h:p:=by
  obtain rfl:=si h;replace h:=gQ;exact eB h):p:=h
theorem adB {p:Prop} (h:p:=by
  obtain rfl:=si h;replace h:=iL;exact eB h):p:=h
theorem adC {p:Prop} (h:p:=by
  obtain rfl:=si iL;exact⟨rfl,_,rfl,(en [0] ⟨rfl,rfl⟩ nz np)⟩):p:=h
theorem adD {p:Prop} (h:p:=by
  obtain rfl:=si iL;exact⟨rfl,_,rfl,(en [0] ⟨rfl,rfl⟩ uN np)⟩):p:=h
theorem adE {p:Prop} (h:p:=by
  rintro _ _ ⟨l1,rfl,rfl,rfl⟩;replace h:=kr;exact .d ⟨rfl,l1,rfl,fP aw rfl,(eS h)⟩):p:=h
theorem adF {p:Prop} (h:p:=by
  rintro _ _ ⟨y1,rfl,rfl,rfl⟩;replace h:=kr;exact .d (eI h)):p:=h
theorem adG {p:Prop} (h:p:=by
  obtain rfl:=si h;replace h:=iL;exact eI h):p:=h
theorem adH {p:Prop} (h:p:=by
  obtain⟨dst,op,ty,pos,after,guard⟩:=o;subst hg;exact hp):p:=h
theorem adI {p:Prop} (h:p:=by
  rintro _ _ ⟨s1,rfl,rfl,rfl⟩;replace h:=kr;exact .d (eS h)):p:=h
theorem adJ {p:Prop} (h:p:=by
  obtain rfl:=si h;replace h:=SB;exact eB h):p:=h
theorem adK {p:Prop} (h:p:=by
  obtain rfl:=si h;exact⟨rfl,_,rfl,(en [0] ⟨rfl,rfl⟩ nz yH)⟩):p:=h
theorem adL {p:Prop} (h:p:=by
  obtain rfl:=si h;exact⟨rfl,_,rfl,(en [] ⟨rfl,rfl⟩ xa ⟨⟩)⟩):p:=h
theorem adM {p:Prop} (h:p:=by
  obtain rfl:=si h;exact⟨rfl,_,rfl,(en [0] ⟨rfl,rfl⟩ uN np)⟩):p:=h
theorem adN {p:Prop} (h:p:=by
  obtain rfl:=si h;exact⟨rfl,_,rfl,(en [] ⟨rfl,rfl⟩ yW ⟨⟩)⟩):p:=h
theorem adO {p:Prop} (h:p:=by
  obtain rfl:=si h;exact en [] ⟨rfl,rfl⟩ vt ⟨⟩):p:=h
theorem adP {p:Prop} (h:p:=by
  obtain rfl:=si h;exact⟨rfl,_,rfl,(en [0] ⟨rfl,rfl⟩ nz np)⟩):p:=h
theorem adQ {p:Prop} (h:p:=by
  obtain rfl:=si h;exact⟨rfl,_,rfl,(en [0] ⟨rfl,rfl⟩ sf rZ)⟩):p:=h
theorem adR {p:Prop} (h:p:=by
  obtain rfl:=si h;exact⟨rfl,_,rfl,(en [] ⟨rfl,rfl⟩ nz ⟨⟩)⟩):p:=h
theorem adS {p:Prop} (h:p:=by
  obtain rfl:=si h;exact⟨rfl,_,rfl,(en [] ⟨rfl,rfl⟩ Hi ⟨⟩)⟩):p:=h
theorem adT {p:Prop} (h:p:=by
  obtain rfl:=si h;exact⟨rfl,_,rfl,(en [0] ⟨rfl,rfl⟩ nz rZ)⟩):p:=h
theorem adU {p:Prop} (h:p:=by
  obtain rfl:=si h;exact⟨rfl,_,rfl,(en [0] ⟨rfl,rfl⟩ uN rZ)⟩):p:=h
theorem adV {p:Prop} (h:p:=by
  obtain rfl:=si h;exact⟨rfl,_,rfl,rfl,_,rfl,(en [] ⟨rfl,rfl⟩ Ns ⟨⟩)⟩):p:=h
theorem adW {p:Prop} (h:p:=by
  obtain rfl:=si h;exact en [0] ⟨rfl,rfl⟩ .i rZ):p:=h
theorem adX {p:Prop} (h:p:=by
  obtain rfl:=si h;exact en [] ⟨rfl,rfl⟩ Hd ⟨⟩):p:=h
theorem adY {p:Prop} (h:p:=by
  obtain rfl:=si h;exact adC):p:=h
theorem adZ {p:Prop} (h:p:=by
  obtain rfl:=si h;exact adD):p:=h
theorem aea {p:Prop} (h:p:=by
  obtain rfl:=si h;exact⟨rfl,_,rfl,(en [] ⟨rfl,rfl⟩ sf ⟨⟩)⟩):p:=h
theorem aeb {p:Prop} (h:p:=by
  obtain rfl:=si h;exact⟨rfl,_,rfl,(en [] ⟨rfl,rfl⟩ Np ⟨⟩)⟩):p:=h
theorem aec {p:Prop} (h:p:=by
  obtain rfl:=si h;exact⟨rfl,_,rfl,(en [] ⟨rfl,rfl⟩ Nq ⟨⟩)⟩):p:=h
theorem aed {p:Prop} (h:p:=by
  obtain rfl:=si h;exact en [] ⟨rfl,rfl⟩ Jq ⟨⟩):p:=h
theorem aee {p:Prop} (h:p:=by
  obtain rfl:=si h;exact en [0] ⟨(ax+1),rfl,rfl⟩ .o B7):p:=h
theorem aef {p:Prop} (h:p:=by
  obtain rfl:=si h;exact⟨rfl,_,rfl,(en [0,3] ⟨rfl,rfl⟩ GZ Me)⟩):p:=h
theorem aeg {p:Prop} (h:p:=by
  obtain rfl:=si h;exact⟨rfl,_,rfl,(en [0,2] ⟨rfl,rfl⟩ Mf Mg)⟩):p:=h
theorem aeh {p:Prop} (h:p:=by
  obtain rfl:=si h;exact⟨rfl,_,rfl,(en [0] ⟨rfl,rfl⟩ sf yH)⟩):p:=h
theorem aei {p:Prop} (h:p:=by
  obtain rfl:=si h;exact en [] ⟨rfl,rfl⟩ Mo ⟨⟩):p:=h
theorem aej {p:Prop} (h:p:=by
  replace h:=DH;exact adA):p:=h
theorem aek {p:Prop} (h:p:=by
  obtain rfl:=si h;exact en [0] ⟨rfl,rfl⟩ .s rZ):p:=h
theorem ael {p:Prop} (h:p:=by
  obtain rfl:=si h;exact en [] ⟨rfl,rfl⟩ .r ⟨⟩):p:=h
theorem aem {p:Prop} (h:p:=by exact ct ⟨_,si h,rfl,rfl⟩ (tk [] jQ ⟨⟩)):p:=h
theorem aen {p:Prop} (h:p:=by exact hp.elim):p:=h
theorem aeo {p:Prop} (h:p:=by exact .d (eS h)):p:=h
theorem aep {p:Prop} (h:p:=by exact .d (.d ⟨rfl,_,_,rfl,au,rfl,_,rfl,(en [] ⟨rfl,rfl⟩ Dw ⟨⟩)⟩)):p:=h
theorem aeq {p:Prop} (h:p:=by exact ct ⟨_,si h,rfl,rfl⟩ (tk [0] wK nY)):p:=h
theorem aer {p:Prop} (h:p:=by exact .d (eI h)):p:=h
theorem aes {p:Prop} (h:p:=by exact ct ⟨si h,rfl,rfl⟩ (tk [] ⟨⟩ ⟨⟩)):p:=h
theorem aet {p:Prop} (h:p:=by exact⟨_,hu,rfl,h1,abo h2,h4,λu=>by rw[show 9999=9998+1 from rfl,Instr.checkKey];simp [run_underlying hu]⟩):p:=h
theorem aeu {p:Prop} (h:p:=by exact .f (.f (.f (.f (.f (.f (.f (.f (ct ⟨si h,rfl,rfl⟩ (tk [0] tS nY)))))))))):p:=h
theorem aev {p:Prop} (h:p:=by exact ct ⟨_,si h,rfl,rfl⟩ (tk [0] AO ij)):p:=h
theorem aew {p:Prop} (h:p:=by exact⟨rfl,(.t ⟨rfl,_,rfl,(.t (.t (ct ⟨_,si h,rfl,rfl⟩ (tk [0,1] Cc r8))))⟩)⟩):p:=h
theorem aex {p:Prop} (h:p:=by exact ct ⟨_,si h,rfl,rfl⟩ (tk [] BW ⟨⟩)):p:=h
theorem aey {p:Prop} (h:p:=by exact lg (DO _ _ _ _ _ _ _ _ h rfl rfl) (tk [0,1,2,3] B4 Il)):p:=h
theorem aez {p:Prop} (h:p:=by exact⟨rfl,rfl⟩):p:=h
theorem aeA {p:Prop} (h:p:=by exact ct ⟨si h,rfl,rfl⟩ (tk [0] tS nY)):p:=h
theorem aeB {p:Prop} (h:p:=by exact .t (.t (.t (.t (.t (.t (.t (.t (.t (.t (.t (.t (.t (.t (eB h))))))))))))))):p:=h
theorem aeC {p:Prop} (h:p:=by exact hc.ok.inj i j _ _ _ _ _ _ _ _ _ _ _ _ _ hi hj kq jN):p:=h
theorem aeD {p:Prop} (h:p:=by exact lg (Ax _ _ h rfl) (tk [] tP ⟨⟩)):p:=h
theorem aeE {p:Prop} (h:p:=by exact ct ⟨_,si h,rfl,rfl⟩ (tk [0,1] GX GY)):p:=h
theorem aeF {p:Prop} (h:p:=by exact .f (.f (.f (ct ⟨_,si h,rfl,rfl⟩ (tk [0,1] Cc r8))))):p:=h
theorem aeG {p:Prop} (h:p:=by exact .f (.f (eB h))):p:=h
theorem aeH {p:Prop} (h:p:=by exact⟨abn _,λ_=>⟨rfl,rfl,rfl,rfl⟩⟩):p:=h
theorem aeI {p:Prop} (h:p:=by exact ct ⟨_,si h,rfl,rfl⟩ (tk [] wX ⟨⟩)):p:=h
theorem aeJ {p:Prop} (h:p:=by exact⟨_,_,_,_,_,_,_,_,_,_,q1,q2,q3,q4⟩):p:=h
theorem aeK {p:Prop} (h:p:=by exact ct ⟨si h,rfl,rfl⟩ (tk [] wX ⟨⟩)):p:=h
theorem aeL {p:Prop} (h:p:=by exact⟨_,rfl,.st hw s1 (Rz.text _)⟩):p:=h
theorem aeM {p:Prop} (h:p:=by exact⟨_,_,rfl,hc⟩):p:=h
theorem aeN {p:Prop} (h:p:=by exact⟨_,rfl,by omega,by omega⟩):p:=h
theorem aeO {p:Prop} (h:p:=by exact .inr ⟨_,_,_,q⟩):p:=h
theorem aeP {p:Prop} (h:p:=by omega):p:=h
theorem aeQ {p:Prop} (h:p:=by decide):p:=h
theorem aeR {p:Prop} (h:p:=by simp):p:=h
theorem aeS {p:Prop} (h:p:=by simp [Op.operands]):p:=h
theorem aeT {p:Prop} (h:p:=by simp only[abp,abr];omega):p:=h
theorem aeU {p:Prop} (h:p:=by simp;omega):p:=h
theorem aeV {p:Prop} (h:p:=by kernel_rfl):p:=h
theorem aeW {p:Prop} (h:p:=by simp only[abt,abp,abr];omega):p:=h
theorem aeX {p:Prop} (h:p:=by simp [Region.wanted,hg,hy]):p:=h
theorem aeY {p:Prop} (h:p:=by decide +kernel):p:=h
theorem aeZ {p:Prop} (h:p:=by simpa using hj):p:=h
theorem afa {p:Prop} (h:p:=by simp only[Nat.reduceAdd,Nat.reducePow];omega):p:=h
theorem afb {p:Prop} (h:p:=by simpa using h):p:=h
theorem afc {p:Prop} (h:p:=by simpa using hp):p:=h
theorem afd {p:Prop} (h:p:=by simp [oW]):p:=h
theorem afe {p:Prop} (h:p:=by rw[abt];simp;omega):p:=h
theorem aff {p:Prop} (h:p:=by rw[<-hf i hi];exact hj):p:=h
theorem afg {p:Prop} (h:p:=by simpa using hy):p:=h
theorem afh {p:Prop} (h:p:=by simpa using h2):p:=h
theorem afi {p:Prop} (h:p:=by simpa using h1):p:=h
theorem afj {p:Prop} (h:p:=by simp [Act.eval,Act.put]):p:=h
theorem afk {p:Prop} (h:p:=by simp [Region.wanted,hg,oE hs hj he]):p:=h
theorem afl {p:Prop} (h:p:=by rw[he];exact hu):p:=h
theorem afm {p:Prop} (h:p:=by simpa using q1):p:=h
theorem afn {p:Prop} (h:p:=by subst hy;simp [Op.operands]):p:=h
theorem afo {p:Prop} (h:p:=by rw[s1.ar];omega):p:=h
theorem afp {p:Prop} (h:p:=by simp [Op.operands];exact⟨p.1,by simpa using hp⟩):p:=h
end Go.Am
set_option linter.unusedVariables false
set_option linter.unusedSimpArgs false
namespace Go.Am
open Go
def B1:List Int:=[1,10,100,1000,10000,100000,1000000,10000000,100000000,1000000000,10000000000,100000000000,1000000000000,10000000000000,100000000000000,1000000000000000,10000000000000000,100000000000000000,1000000000000000000,10000000000000000000]
def AE:List (Nat×Array Value):=[(3,(B1.map λz=>Value.int .u64 z).toArray)]
def sh:List Nat:=[1,2]
def Gi:List Nat:=[0]
def Lt:Nat:=4294967295
end Go.Am
namespace Go.Am
open Go Go.RowKit
inductive PV where
 | int (k:IntKind) (n:Int)
 | bool (b:Bool)
 | str (s:List UInt8)
 | aF
 | fG
 | eD (sz n:Nat) (f:Nat->List PV)
 | ez (cells:List PV)
 | own (id gen off len:Nat)
 | aE (id gen i off:Nat)
 | kC (id:Nat)
 | lv (f:Nat) (bq:List (Nat×Nat))
 | fn (f:Nat)
 | agg (cs:List PV)
 | eC (vs:List PV)
 | gf
 | eM (sz n:Nat) (e:TypeId) (f:Nat->List PV) (F:Nat->Prop)
 deriving Inhabited
abbrev Env:=Nat->PV
inductive ai where
 | row (gen sz n:Nat) (e:TypeId) (f:Nat->List PV)
 | dead
 deriving Inhabited
inductive TI where
 | int (k:IntKind)
 | bool
 | str
 | slice (e sz bytes:Nat) (zero:List PV)
 | struct (sz:Nat) (fields:List (Nat×Nat×Bool)) (zero:List PV)
 | ptr (e:Nat)
 | map (k e:Nat) (zero:PV)
 | other
 deriving Inhabited
structure lS where
 get:Nat->TI
def mr (env:Env) (t:Nat) (v:PV):Env:=λj=>bif Nat.beq j t then v else env j
def dF (env:Env) (d:Option Nat) (v:PV):Env:=match d with | some t=>mr env t v | none=>env
def vQ (env:Env):List (Nat×PV)->Env
 | []=>env
 | (t,v)::r=>mr (vQ env r) t v
inductive dO (b:Bool) (T F:Prop):Prop
 | mk (ht:b=true->T) (hf:b=false->F):dO b T F
theorem iG {b:Bool} {T F:Prop} (h:dO b T F):(b=true->T)/\(b=false->F):=by cases h with | mk a b=>exact⟨a,b⟩
def cZ (b:Bool) (K:Prop):Prop:=match b with | true=>K | false=>False
theorem aW {b:Bool} {K:Prop} (h:cZ b K):b=true/\K:=by cases b;exact h.elim;exact⟨rfl,h⟩
def mY:IntKind->IntKind->Bool
 | .i8,.i8=>true
 | .i16,.i16=>true
 | .i32,.i32=>true
 | .i64,.i64=>true
 | .u8,.u8=>true
 | .u16,.u16=>true
 | .u32,.u32=>true
 | .u64,.u64=>true
 | _,_=>false
theorem dK {k a:IntKind} (h:mY k a=true):k=a:=by cases k<;>cases a<;>first | rfl | cases h
def Q9:Value->Option PV
 | .int k n=>some (.int k n)
 | .bool b=>some (.bool b)
 | .string s=>some (.str s.data.toList)
 | .slice none 0 0=>some .aF
 | .pointer none=>some .fG
 | _=>none
def HJ:List Value->Option (List PV)
 | []=>some []
 | v::r=>match Q9 v,HJ r with
  | some p,some l=>some (p::l)
  | _,_=>none
def Xv:Option (List PV)->PV
 | some l=>.agg l
 | none=>.gf
def ofValue:Value->PV
 | .int k n=>.int k n
 | .bool b=>.bool b
 | .string s=>.str s.data.toList
 | .slice none 0 0=>.aF
 | .pointer none=>.fG
 | .agg vs=>Xv (HJ vs.toList)
 | _=>.gf
inductive Iw:PV->PV->Prop
 | same (a:PV):Iw a a
 | nil (sz:Nat) (f:Nat->List PV):Iw .aF (.eD sz 0 f)
 | HS (sz:Nat) (e:TypeId) (f:Nat->List PV):Iw .aF (.eM sz 0 e f (λ_=>False))
def ny:List PV->List PV->Prop
 | [],[]=>True
 | a::l,b::r=>Iw a b/\ny l r
 | _,_=>False
def ev (env:Env):Operand->PV
 | .tmp t=>env t
 | .const v=>ofValue v
 | .func f=>.fn f
 | .global _=>.gf
abbrev Mu:=Nat->Option (Nat×Nat)
inductive aI (S:Nat->Prop) (w:World):PV->Value->Prop
 | int (k:IntKind) (n:Int):aI S w (.int k n) (.int k n)
 | bool (b:Bool):aI S w (.bool b) (.bool b)
 | str (s:List UInt8):aI S w (.str s) (.string ⟨⟨s⟩⟩)
 | aF:aI S w .aF (.slice none 0 0)
 | fG:aI S w .fG (.pointer none)
 | fn (f:Nat):aI S w (.fn f) (.func (.func f) #[] #[])
 | lM (sz:Nat) (f:Nat->List PV) (a:Option Addr) (c:Nat):aI S w (.eD sz 0 f) (.slice a 0 c)
 | eD (sz n:Nat) (f:Nat->List PV) (b off c:Nat) (vf:Nat->Nat->Value) (hS:S b) (hlen:∀i,i<n->(f i).length=sz) (hc:n<=c)
   (aJ:∀(i j:Nat) (pv:PV),i<n->(f i)[j]? =some pv->w.cell? ⟨b,off+i*sz+j,none⟩=some (vf i j))
   (jR:∀(i j:Nat) (pv:PV),i<n->(f i)[j]? =some pv->aI S w pv (vf i j)):aI S w (.eD sz n f) (.slice (some ⟨b,off,none⟩) n c)
 | ez (cs:List PV) (b off:Nat) (vf:Nat->Value) (hS:S b)
   (aJ:∀(j:Nat) (pv:PV),cs[j]? =some pv->w.cell? ⟨b,off+j,none⟩=some (vf j))
   (jR:∀(j:Nat) (pv:PV),cs[j]? =some pv->aI S w pv (vf j)):aI S w (.ez cs) (.pointer (some ⟨b,off,none⟩))
inductive jz (S:Nat->Prop) (w:World):PV->Value->Prop
 | nil (sz:Nat) (e:TypeId) (f:Nat->List PV) (F:Nat->Prop) (hF:∀b,¬F b):jz S w (.eM sz 0 e f F) (.slice none 0 0)
 | Dc (sz n:Nat) (e:TypeId) (f:Nat->List PV) (F:Nat->Prop) (b off c:Nat) (a:Addr) (cur:Array Value) (vf:Nat->Nat->Value) (hF:F b) (hb:w.heap[b]? =some (.cells cur e (0,0))) (hlen:∀i,i<n->(f i).length=sz) (hc:n<=c)
   (ha:0<c->a=⟨b,off,none⟩) (dN:off+c*sz<=cur.size)
   (aJ:∀(i j:Nat) (pv:PV),i<n->(f i)[j]? =some pv->cur[off+i*sz+j]? =some (vf i j))
   (jR:∀(i j:Nat) (pv:PV),i<n->(f i)[j]? =some pv->aI S w pv (vf i j)\/∃bw n' e' f' F',pv=.eM bw n' e' f' F')
   (p7:∀(i j bw n':Nat) (e':TypeId) (f':Nat->List PV) (F':Nat->Prop),i<n->(f i)[j]? =some (.eM bw n' e' f' F')->jz S w (.eM bw n' e' f' F') (vf i j))
   (zj:∀(i j bw n':Nat) (e':TypeId) (f':Nat->List PV) (F':Nat->Prop),i<n->(f i)[j]? =some (.eM bw n' e' f' F')->∀b',F' b'->F b'/\b'≠b)
   (Dd:∀(i j bw n':Nat) (e':TypeId) (f':Nat->List PV) (F':Nat->Prop) (i2 j2 lG n2:Nat) (e2:TypeId) (f2:Nat->List PV) (F2:Nat->Prop),i<n->(f i)[j]? =some (.eM bw n' e' f' F')->i2<n->(f i2)[j2]? =some (.eM lG n2 e2 f2 F2)->
    ∀b',F' b'->F2 b'->i=i2/\j=j2):jz S w (.eM sz n e f F) (.slice (some a) n c)
def iu (w:World) (b k:Nat):Prop:=∃cur e z,w.heap[b]? =some (.cells cur e z)/\k<=cur.size
def aN (μ:Mu) (h:List ai) (w:World) (id gen off len:Nat) (v:Value):Prop:=
 (∃a l c,v=.slice a l c)/\match h[id]? with
 | some (ai.row g sz n _ _)=>gen<=g/\(gen=g->off+len<=n/\match μ id with
  | none=>v=.slice none 0 0
  | some (b,base)=>∃a cap,v=.slice (some a) len cap/\len<=cap/\(0<cap->a=⟨b,base+off*sz,none⟩)/\iu w b (base+(off+cap)*sz))
 | some ai.dead=>True
 | none=>False
def bD (μ:Mu) (h:List ai) (w:World) (id gen i off:Nat) (v:Value):Prop:=
 (∃a,v=.pointer a)/\match h[id]? with
 | some (ai.row g sz n e _)=>gen<=g/\(gen=g->i<n/\∃b base,μ id=some (b,base)/\(iu w b 0/\(Nat.beq e Lt=true->base=0))/\v=.pointer (some ⟨b,base+i*sz+off,none⟩))
 | some ai.dead=>True
 | none=>False
def kG (w:World) (b:Nat):Prop:=∃es clock,w.heap[b]? =some (.map es clock)
def eL (μ:Mu) (h:List ai) (w:World) (id:Nat) (v:Value):Prop:=
 (∃a,v=.map a)/\match h[id]? with
 | some (ai.row _ _ _ _ _)=>∃b base,μ id=some (b,base)/\kG w b/\v=.map (some b)
 | some ai.dead=>True
 | none=>False
def o8 (O:Nat->Nat->Value->Prop) (f:Nat) (bq:List (Nat×Nat)) (v:Value):Prop:=
 ∃vs:Array Value,v=.func (.func f) #[] vs/\vs.size=bq.length/\∀(j:Nat) (p:Nat×Nat),bq[j]? =some p->∃u:Value,vs[j]? =some u/\O p.1 p.2 u
theorem o8.mono {O a:Nat->Nat->Value->Prop} {f:Nat} {bq:List (Nat×Nat)} {v:Value} (h:o8 O f bq v) (b:∀id g u,O id g u->a id g u):o8 a f bq v:=by
 obtain⟨vs,h1,h2,c⟩:=h;exact⟨vs,h1,h2,λj p hj=>let⟨u,q1,q2⟩:=c j p hj;⟨u,q1,b _ _ _ q2⟩⟩
def oz (σ:Nat->Nat) (bq:List (Nat×Nat)):List (Nat×Nat):=bq.map λp=>(σ p.1,p.2)
theorem o8.map {O:Nat->Nat->Value->Prop} {σ:Nat->Nat} {f:Nat} {bq:List (Nat×Nat)} {v:Value} (h:o8 (λid g u=>O (σ id) g u) f bq v):o8 O f (oz σ bq) v:=by
 obtain⟨vs,h1,h2,b⟩:=h;refine⟨vs,h1,by unfold oz;rw[abT];exact h2,λj p hj=>?_⟩;unfold oz at hj;rw[abD]at hj;cases a:bq[j]? with
 | none=>rw[a]at hj;cases hj
 | some q=>
  rw[a]at hj;injection hj with hj;subst hj;exact b j q a
theorem o8.WN {O:Nat->Nat->Value->Prop} {σ:Nat->Nat} {f:Nat} {bq:List (Nat×Nat)} {v:Value} (h:o8 O f (oz σ bq) v):o8 (λid g u=>O (σ id) g u) f bq v:=by
 obtain⟨vs,h1,h2,a⟩:=h;refine⟨vs,h1,by unfold oz at h2;rw[abT]at h2;exact h2,λj p hj=>?_⟩;obtain⟨u,q1,q2⟩:=a j (σ p.1,p.2) (by unfold oz;rw[abD,hj];rfl);exact⟨u,q1,q2⟩
def lr (μ:Mu) (h:List ai) (w:World) (f:Nat) (bq:List (Nat×Nat)) (v:Value):Prop:=o8 (λid g u=>bD μ h w id g 0 0 u) f bq v
def pZ:PV->Bool
 | .int _ _=>true
 | .bool _=>true
 | .str _=>true
 | .gf=>true
 | _=>false
def iq:PV->Bool
 | .agg cs=>cs.all pZ
 | v=>pZ v
def oS:PV->Value->Prop
 | .int k n,v=>v=.int k n
 | .bool b,v=>v=.bool b
 | .str s,v=>v=.string ⟨⟨s⟩⟩
 | _,v=>v.oneCell'=true
def mZ:PV->Value->Prop
 | .agg cs,v=>∃vs:Array Value,v=.agg vs/\vs.size=cs.length/\∀(j:Nat) (pv:PV),cs[j]? =some pv->∃u:Value,vs[j]? =some u/\oS pv u
 | .gf,_=>True
 | pv,v=>oS pv v
def rI (C:PV->Value->Prop) (base sz n:Nat) (e:TypeId) (f:Nat->List PV):Obj->Prop
 | .cells cur c z=>c=e/\z=(0,0)/\base+n*sz<=cur.size/\∀(i j:Nat) (pv:PV),i<n->(f i)[j]? =some pv->∃v:Value,cur[base+i*sz+j]? =some v/\C pv v
 | .map es _=>es.size=n/\∀i,i<n->∃(a b:PV) (en:MapEntry),f i=[a,b]/\iq a=true/\iq b=true/\es[i]? =some en/\mZ a en.key/\mZ b en.val
 | _=>False
theorem rI.mono {C a:PV->Value->Prop} {base sz n:Nat} {e:TypeId} {f:Nat->List PV} {o:Obj} (h:rI C base sz n e f o) (hc:∀(i j:Nat) (pv:PV) (v:Value),i<n->(f i)[j]? =some pv->C pv v->a pv v):rI a base sz n e f o:=by
 cases o with
 | cells cur d z=>
  obtain⟨h1,h2,b,h4⟩:=h;exact⟨h1,h2,b,λi j pv hi hj=>let⟨v,q1,q2⟩:=h4 i j pv hi hj;⟨v,q1,hc i j pv v hi hj q2⟩⟩
 | map es c=>exact h
 | _=>exact h.elim
def bp (μ:Mu) (h:List ai) (S:Nat->Prop) (w:World):PV->Value->Prop
 | .own id gen off len,v=>aN μ h w id gen off len v
 | .aE id gen i off,v=>bD μ h w id gen i off v
 | .kC id,v=>eL μ h w id v
 | .lv f bq,v=>lr μ h w f bq v
 | .gf,v=>v.oneCell'=true
 | .eM _ _ _ _ _,v=>v.oneCell'=true
 | .agg _,_=>False
 | .eC _,_=>False
 | pv,v=>aI S w pv v
def jM (μ:Mu) (h:List ai) (S:Nat->Prop) (w:World):PV->Value->Prop
 | .eM sz n e f F,v=>jz S w (.eM sz n e f F) v
 | pv,v=>bp μ h S w pv v
def gK (μ:Mu) (h:List ai) (S:Nat->Prop) (w:World):PV->Value->Prop
 | .agg cs,v=>∃vs:Array Value,v=.agg vs/\vs.size=cs.length/\∀(j:Nat) (pv:PV),cs[j]? =some pv->∃u:Value,vs[j]? =some u/\bp μ h S w pv u
 | .gf,_=>True
 | pv,v=>bp μ h S w pv v
def bg (μ:Mu) (h:List ai) (S:Nat->Prop) (w:World):PV->Value->Prop
 | .eC a,v=>∃vs:Array Value,v=.tuple vs/\vs.size=a.length/\∀(j:Nat) (pv:PV),a[j]? =some pv->∃u:Value,vs[j]? =some u/\gK μ h S w pv u
 | pv,v=>gK μ h S w pv v
def bC (μ:Mu) (h:List ai) (S:Nat->Prop) (w:World):Prop:=
 ∀(id g sz n:Nat) (e:TypeId) (f:Nat->List PV),h[id]? =some (ai.row g sz n e f)->(∀i,i<n->(f i).length=sz)/\match μ id with
  | none=>n=0
  | some (b,base)=>∃o:Obj,w.heap[b]? =some o/\rI (jM μ h S w) base sz n e f o
theorem bC.cells {μ:Mu} {h:List ai} {S:Nat->Prop} {w:World} {b base k sz n:Nat} {e:TypeId} {f:Nat->List PV} (hc:iu w b k) (a:∃o:Obj,w.heap[b]? =some o/\rI (jM μ h S w) base sz n e f o):
  ∃cur:Array Value,w.heap[b]? =some (.cells cur e (0,0))/\base+n*sz<=cur.size/\
    ∀(i j:Nat) (pv:PV),i<n->(f i)[j]? =some pv->∃v:Value,cur[base+i*sz+j]? =some v/\jM μ h S w pv v:=by
 obtain⟨cur,d,z,h1,_⟩:=hc;obtain⟨o,h2,c⟩:=a;obtain rfl:=abP (h1.symm.trans h2);obtain⟨rfl,rfl,q1,q2⟩:=c;exact⟨cur,h1,q1,q2⟩
theorem bC.xP {C:PV->Value->Prop} {w:World} {b base sz n:Nat} {e:TypeId} {f:Nat->List PV} (a:∃cur:Array Value,w.heap[b]? =some (.cells cur e (0,0))/\base+n*sz<=cur.size/\
    ∀(i j:Nat) (pv:PV),i<n->(f i)[j]? =some pv->∃v:Value,cur[base+i*sz+j]? =some v/\C pv v):∃o:Obj,w.heap[b]? =some o/\rI C base sz n e f o:=by
 obtain⟨cur,h1,h2,c⟩:=a;exact⟨_,h1,rfl,rfl,h2,c⟩
def wj (μ:Mu) (h:List ai) (b:Nat):Prop:=∃(id g sz n:Nat) (e:TypeId) (f:Nat->List PV) (base:Nat),h[id]? =some (ai.row g sz n e f)/\μ id=some (b,base)
def cw (h:List ai) (id i j b:Nat):Prop:=∃(g sz n:Nat) (e:TypeId) (f:Nat->List PV) (a c:Nat) (d:TypeId) (k:Nat->List PV) (F:Nat->Prop),h[id]? =some (ai.row g sz n e f)/\i<n/\(f i)[j]? =some (.eM a c d k F)/\F b
def bS (μ:Mu) (h:List ai) (b:Nat):Prop:=wj μ h b\/∃id i j,cw h id i j b
def GW (S:Nat->Prop) (w:World):Prop:=(∀p,p∈AE->S p.1/\∃t z,w.heap[p.1]? =some (.cells p.2 t z))/\(∀g,g∈sh->S g/\∃a p t z,w.heap[g]? =some (.cells #[.iface a p] t z))/\
 ∀g,g∈Gi->S g/\∃m t z,w.heap[g]? =some (.cells #[.int .i64 m] t z)
theorem GW.dS {S S':Nat->Prop} {w w':World} (h:GW S w) (a:∀b,S b->w'.heap[b]? =w.heap[b]?) (hs:∀b,S b->S' b):GW S' w':=
 ⟨λp hp=>⟨hs _ (h.1 p hp).1,by rw[a _ (h.1 p hp).1];exact(h.1 p hp).2⟩,λg hg=>⟨hs _ (h.2.1 g hg).1,by rw[a _ (h.2.1 g hg).1];exact(h.2.1 g hg).2⟩,
  λg hg=>⟨hs _ (h.2.2 g hg).1,by rw[a _ (h.2.2 g hg).1];exact(h.2.2 g hg).2⟩⟩
structure mT (μ:Mu) (h:List ai) (S:Nat->Prop) (w:World):Prop where
 apart:∀b,bS μ h b->¬S b
 lt:∀b,bS μ h b->b<w.heap.size
 slt:∀b,S b->b<w.heap.size
 inj:∀(i j g sz n:Nat) (e:TypeId) (f:Nat->List PV) (g' bw n':Nat) (e':TypeId) (f':Nat->List PV) (b o o':Nat),h[i]? =some (ai.row g sz n e f)->h[j]? =some (ai.row g' bw n' e' f')->μ i=some (b,o)->μ j=some (b,o')->i=j
 known:GW S w
 hv:∀b,wj μ h b->∀id i j,¬cw h id i j b
 hh:∀b id i j id' i' j',cw h id i j b->cw h id' i' j' b->id=id'/\i=i'/\j=j'
structure Fr (μ:Mu) (h:List ai) (S:Nat->Prop) (w:World) (μ':Mu) (h':List ai) (S':Nat->Prop) (w':World):Prop where
 len:h.length<=h'.length
 blocks:∀b,b<w.heap.size->¬bS μ h b->w'.heap[b]? =w.heap[b]?
 sub:∀b,S b->S' b
 new:∀b,S' b->S b\/bS μ h b\/w.heap.size<=b
 own:∀b,bS μ' h' b->bS μ h b\/w.heap.size<=b
 size:w.heap.size<=w'.heap.size
 os:w'.os=w.os
 tape:w'.tape=w.tape
 output:w'.output=w.output
 xQ:∀(id g sz n:Nat) (e:TypeId) (f:Nat->List PV),h[id]? =some (ai.row g sz n e f)->match h'[id]? with
  | some (ai.row g' bw n' e' _)=>g<=g'/\(g'=g->μ' id=μ id/\bw=sz/\n'=n/\e'=e)
  | some ai.dead=>True
  | none=>False
 dead:∀id:Nat,h[id]? =some ai.dead->h'[id]? =some ai.dead
 bq:∀b k,bS μ h b->iu w b k->iu w' b k
 maps:∀(id g sz n:Nat) (e:TypeId) (f:Nat->List PV) (b base:Nat),h[id]? =some (ai.row g sz n e f)->μ id=some (b,base)->kG w b->
  kG w' b/\(h'[id]? =some ai.dead\/((∃g' bw n' e' f',h'[id]? =some (ai.row g' bw n' e' f'))/\μ' id=some (b,base)))
 rb:∀b id i j,cw h id i j b->kG w b->kG w' b
def Tq (P:Program) (f:FuncId):Prop:=∃fn c,P.funcs[f]? =some fn/\fn.body=some c/\(fn.name== "runtime.NumGoroutine")=false
def ACall (P:Program) (f:FuncId) (args:List PV) (h:List ai) (R:PV->List ai->Prop):Prop:=
 Tq P f/\∀(w:World) (vs:Array Value) (μ:Mu) (S:Nat->Prop),bC μ h S w->mT μ h S w->vs.size=args.length->
  (∀(j:Nat) (pv:PV),args[j]? =some pv->∃v:Value,vs[j]? =some v/\gK μ h S w pv v)->
  Calls P f vs w (λe w'=>∃(v:Value) (res:PV) (h':List ai) (μ':Mu) (S':Nat->Prop),e=.returned v/\R res h'/\bg μ' h' S' w' res v/\bC μ' h' S' w'/\mT μ' h' S' w'/\Fr μ h S w μ' h' S' w')
def bn:PV->Bool
 | .int _ _=>true
 | .bool _=>true
 | .str _=>true
 | .aF=>true
 | .fG=>true
 | .eD _ _ _=>true
 | .ez _=>true
 | .fn _=>true
 | _=>false
def dL:PV->Bool
 | .eM _ _ _ _ _=>true
 | _=>false
inductive yb:PV->PV->Prop
 | mk (sz n:Nat) (e:TypeId) (f f':Nat->List PV) (F:Nat->Prop) (hl:∀i,i<n->(f' i).length=(f i).length) (hf:∀(i j:Nat) (pv pv':PV),i<n->(f i)[j]? =some pv->(f' i)[j]? =some pv'->dL pv=false->pv'=pv) (ho:∀(i j:Nat) (pv pv':PV),i<n->(f i)[j]? =some pv->(f' i)[j]? =some pv'->dL pv=true->yb pv pv')
   (hp:∀(i j:Nat) (pv':PV),i<n->(f' i)[j]? =some pv'->bn pv'=true):yb (.eM sz n e f F) (.eD sz n f')
inductive Fz (h η:List ai) (k:List Nat):PV->PV->Prop
 | int (k':IntKind) (n:Int):Fz h η k (.int k' n) (.int k' n)
 | bool (b:Bool):Fz h η k (.bool b) (.bool b)
 | str (s:List UInt8):Fz h η k (.str s) (.str s)
 | aF:Fz h η k .aF .aF
 | fG:Fz h η k .fG .fG
 | OY (sz:Nat) (f:Nat->List PV):Fz h η k .aF (.eD sz 0 f)
 | W7 (id id' g' bw:Nat) (e':TypeId) (f':Nat->List PV) (hk:k[id']? =some id) (ho:h[id]? =none) (hη:η[id']? =some (ai.row g' bw 0 e' f')):Fz h η k .aF (.own id' g' 0 0)
 | fn (f:Nat):Fz h η k (.fn f) (.fn f)
 | eD (sz n:Nat) (f f':Nat->List PV) (hf:∀i,i<n->f' i=f i):Fz h η k (.eD sz n f) (.eD sz n f')
 | ez (cs:List PV):Fz h η k (.ez cs) (.ez cs)
 | gf (pv:PV):Fz h η k pv .gf
 | eM (sz n:Nat) (e:TypeId) (f:Nat->List PV) (F:Nat->Prop):Fz h η k (.eM sz n e f F) (.eM sz n e f F)
 | HS (sz:Nat) (e:TypeId) (f:Nat->List PV):Fz h η k .aF (.eM sz 0 e f (λ_=>False))
 | own (id id' g g' sz bw n n' off len:Nat) (e e':TypeId) (f f':Nat->List PV) (hk:k[id']? =some id) (ho:h[id]? =some (ai.row g sz n e f)) (hη:η[id']? =some (ai.row g' bw n' e' f')) (hn:off+len<=n'):Fz h η k (.own id g off len) (.own id' g' off len)
 | aE (id id' g g' sz bw n n' i off:Nat) (e e':TypeId) (f f':Nat->List PV) (hk:k[id']? =some id) (ho:h[id]? =some (ai.row g sz n e f)) (hη:η[id']? =some (ai.row g' bw n' e' f')) (hn:i<n'):Fz h η k (.aE id g i off) (.aE id' g' i off)
 | kC (id id' g g' sz bw n n':Nat) (e e':TypeId) (f f':Nat->List PV) (hk:k[id']? =some id) (ho:h[id]? =some (ai.row g sz n e f)) (hη:η[id']? =some (ai.row g' bw n' e' f')):Fz h η k (.kC id) (.kC id')
 | lv (f:Nat) (bq tu:List (Nat×Nat)) (hl:tu.length=bq.length) (hc:∀(j:Nat) (p p':Nat×Nat),bq[j]? =some p->tu[j]? =some p'->k[p'.1]? =some p.1/\(∃sz n e f,h[p.1]? =some (ai.row p.2 sz n e f))/\∃sz n e f,η[p'.1]? =some (ai.row p'.2 sz n e f)/\0<n):Fz h η k (.lv f bq) (.lv f tu)
 | Yl (id g sz n off len:Nat) (e:TypeId) (f f':Nat->List PV) (hk:id∉k) (ho:h[id]? =some (ai.row g sz n e f)) (hl:∀i,i<len->(f' i).length=(f (off+i)).length)
   (hp:∀(i j:Nat) (pv':PV),i<len->(f' i)[j]? =some pv'->bn pv'=true)
   (hf:∀(i j:Nat) (pv pv':PV),i<len->(f (off+i))[j]? =some pv->(f' i)[j]? =some pv'->¬yb pv pv'->Fz h η k pv pv'):Fz h η k (.own id g off len) (.eD sz len f')
 | agg (cs zh:List PV) (hl:zh.length=cs.length) (hc:∀(j:Nat) (pv pv':PV),cs[j]? =some pv->zh[j]? =some pv'->Fz h η k pv pv'):Fz h η k (.agg cs) (.agg zh)
 | eC (cs zh:List PV) (hl:zh.length=cs.length) (hc:∀(j:Nat) (pv pv':PV),cs[j]? =some pv->zh[j]? =some pv'->Fz h η k pv pv'):Fz h η k (.eC cs) (.eC zh)
def rM (h η:List ai) (k:List Nat):List PV->List PV->Prop
 | [],[]=>True
 | a::l,b::r=>Fz h η k a b/\rM h η k l r
 | _,_=>False
def Ib:List Nat->Nat->Bool
 | [],_=>false
 | a::r,x=>match Nat.beq a x with
  | true=>true
  | false=>Ib r x
def kH:List Nat->Bool
 | []=>true
 | a::r=>match Ib r a with
  | true=>false
  | false=>kH r
def ky:List ai->List Nat->List Nat
 | .row _ _ _ _ _::r,i::is=>i::ky r is
 | .dead::r,_::is=>ky r is
 | _,_=>[]
def vO (h η:List ai) (k:List Nat) (m:Nat) (o:ai) (a id:Nat):Prop:=
 match o,h[id]? with
 | .row c d b j l,some (ai.row g sz n e f)=>(a<m->a=id/\c=g)/\d=sz/\(b=n\/m<=a/\sz≠2/\b<=n)/\j=e/\
   ∀i,i<b->rM h η k (f i) (l i)
 | .dead,_=>True
 | .row _ _ b _ _,none=>m<=a/\b=0
 | _,_=>False
def fC (l:List PV) (off:Nat):List PV->List PV
 | []=>l
 | c::r=>fC (l.set off c) (off+1) r
def cellsOf:PV->List PV
 | .agg cs=>cs
 | v=>[v]
def cF (h:List ai) (id:Nat):ai:=h.getD id .dead
def force (v:PV) (K:PV->Prop):Prop:=
 match v with
 | .int k n=>K (.int k n)
 | .bool b=>K (.bool b)
 | .str s=>K (.str s)
 | .aF=>K .aF
 | .fG=>K .fG
 | .eD sz n f=>K (.eD sz n f)
 | .ez cs=>K (.ez cs)
 | .own id gen off len=>K (.own id gen off len)
 | .aE id gen i off=>K (.aE id gen i off)
 | .kC id=>K (.kC id)
 | .lv f bq=>K (.lv f bq)
 | .fn f=>K (.fn f)
 | .agg cs=>K (.agg cs)
 | .eC vs=>K (.eC vs)
 | .gf=>K .gf
 | .eM sz n e f F=>K (.eM sz n e f F)
theorem bG {v:PV} {K:PV->Prop} (h:force v K):K v:=by cases v<;>exact h
def Ap (K:List PV->Prop):Nat->List PV->List PV->Prop
 | 0,_,acc=>K acc.reverse
 | _+1,[],_=>False
 | n+1,c::r,acc=>force c λv=>Ap K n r (v::acc)
theorem lU {K:List PV->Prop}:∀(n:Nat) (l acc:List PV),Ap K n l acc->n<=l.length/\K (acc.reverse++l.take n)
 | 0,l,acc,h=>⟨abY _,by simp only[List.take_zero,acG];exact h⟩
 | _+1,[],_,h=>h.elim
 | n+1,c::r,acc,h=>by
  obtain⟨h1,h2⟩:=lU n r (c::acc) (bG h);exact⟨by simp;omega,by simpa using h2⟩
def ur (T:lS) (t:Nat) (cells:List PV) (K:PV->Prop):Prop:=
 match T.get t with
 | .struct sz _ _=>Ap (λl=>K (.agg l)) sz cells []
 | .other=>False
 | _=>match cells with
  | c::_=>force c K
  | []=>False
def tj (T:lS) (t:Nat) (a:PV) (h:List ai) (K:PV->Prop):Prop:=
 match a with
 | .ez cells=>ur T t cells K
 | .aE id gen i off=>match cF h id with
  | .row g _ _ _ f=>g=gen/\∃c,f i=c/\ur T t (c.drop off) K
  | .dead=>False
 | _=>False
def tn (f:Nat->List PV) (i:Nat) (l:List PV):Nat->List PV:=λk=>bif Nat.beq k i then l else f k
def uW:List PV->Bool
 | []=>true
 | .int _ _::r=>uW r
 | .bool _::r=>uW r
 | .str _::r=>uW r
 | _=>false
def CC (g:Bool) (q:Bool):Option Bool->Option Bool
 | some c=>match g with
  | true=>some (q&&c)
  | false=>none
 | none=>none
def zM:List PV->List PV->List PV->Option Bool
 | [],[],[]=>some true
 | .int k _::z,.int d a::r,.int e b::c=>CC (mY k d&&mY k e) (a==b) (zM z r c)
 | .bool _::z,.bool a::r,.bool b::c=>CC true (a==b) (zM z r c)
 | .str _::z,.str a::r,.str b::c=>CC true (a==b) (zM z r c)
 | _,_,_=>none
def js (ti:TI) (a b:PV):Option Bool:=
 match ti,a,b with
 | .int k,.int c x,.int d y=>CC (mY k c&&mY k d) (x==y) (some true)
 | .str,.str x,.str y=>some (x==y)
 | .struct _ _ z,.agg xs,.agg e=>match uW z with
  | true=>zM z xs e
  | false=>none
 | _,_,_=>none
def zR (ti:TI) (f:Nat->List PV) (n:Nat) (b:PV):Prop:=∀j,j<n->∃a c,f j=[a,c]/\js ti b a=some false
def MAt (ti:TI) (f:Nat->List PV) (n:Nat) (a:PV) (i:Nat) (r:PV):Prop:=i<n/\zR ti f i a/\∃b,f i=[b,r]/\js ti a b=some true
def K6 (ti:TI) (f:Nat->List PV) (n:Nat) (a c r:PV) (b:Bool):Prop:=(b=true/\∃i,MAt ti f n a i r)\/(b=false/\r=c/\zR ti f n a)
def W6 (ti:TI) (f:Nat->List PV) (n:Nat) (a c:PV) (d:Nat) (b:Nat->List PV):Prop:=
 (∃i r,MAt ti f n a i r/\d=n/\b i=[a,c]/\∀j,j<n->j≠i->b j=f j)\/(zR ti f n a/\d=n+1/\b n=[a,c]/\∀j,j<n->b j=f j)
def HL (ti:TI) (d:BinOp) (x y:PV) (K:PV->Prop):Prop:=
 match x,y with
 | .int k a,.int e b=>
  match d with
  | .shl=>0<=b/\K (.int k (k.wrap (a*2 ^ min b.toNat k.bits)))
  | .shr=>0<=b/\K (.int k (a.fdiv (2 ^ min b.toNat k.bits)))
  | _=>cZ (mY k e)<|match d with
  | .and=>K (.int k (bits .and k a b))
  | .or=>K (.int k (bits .or k a b))
  | .xor=>K (.int k (bits .xor k a b))
  | .andNot=>K (.int k (bits .andNot k a b))
  | .add=>K (.int k (k.wrap (a+b)))
  | .sub=>K (.int k (k.wrap (a - b)))
  | .mul=>K (.int k (k.wrap (a*b)))
  | .quo=>b≠0/\K (.int k (k.wrap (a.tdiv b)))
  | .rem=>b≠0/\K (.int k (a.tmod b))
  | .eql=>K (.bool (a==b))
  | .neq=>K (.bool (a != b))
  | .lss=>K (.bool (decide (a<b)))
  | .leq=>K (.bool (decide (a<=b)))
  | .gtr=>K (.bool (decide (a>b)))
  | .geq=>K (.bool (decide (a>=b)))
  | _=>False
 | .bool a,.bool b=>match ti,d with
  | .bool,.eql=>K (.bool (a==b))
  | .bool,.neq=>K (.bool (!(a==b)))
  | _,_=>False
 | .str a,.str b=>match d with
  | .add=>a.length+b.length<=4611686018427387904/\∃s,a++b=s/\K (.str s)
  | .eql=>K (.bool (a==b))
  | .neq=>K (.bool (!(a==b)))
  | .lss=>K (.bool (Op.bytesLess a b))
  | .leq=>K (.bool (Op.bytesLess a b||a==b))
  | .gtr=>K (.bool !(Op.bytesLess a b||a==b))
  | .geq=>K (.bool !(Op.bytesLess a b))
  | _=>False
 | .agg xs,.agg f=>match ti with
  | .struct _ _ z=>cZ (uW z) (match zM z xs f with
   | some b=>match d with
    | .eql=>∃c,b=c/\K (.bool c)
    | .neq=>∃c,b=c/\K (.bool !c)
    | _=>False
   | none=>False)
  | _=>False
 | _,_=>False
def xJ (x:PV) (lo hi:Option PV) (K:PV->Prop):Prop:=
 match x with
 | .eD sz n f=>match lo,hi with
  | none,none=>K (.eD sz n f)
  | some (.int _ l),none=>(0<=l/\l<=n)/\K (.eD sz (n - l.toNat) (λi=>f (l.toNat+i)))
  | none,some (.int _ m)=>(0<=m/\m<=n)/\K (.eD sz m.toNat f)
  | some (.int _ l),some (.int _ m)=>(0<=l/\l<=m/\m<=n)/\K (.eD sz (m.toNat - l.toNat) (λi=>f (l.toNat+i)))
  | _,_=>False
 | .own id gen off len=>match lo,hi with
  | none,none=>K (.own id gen off len)
  | some (.int _ l),none=>(0<=l/\l<=len)/\K (.own id gen (off+l.toNat) (len - l.toNat))
  | none,some (.int _ m)=>(0<=m/\m<=len)/\K (.own id gen off m.toNat)
  | some (.int _ l),some (.int _ m)=>(0<=l/\l<=m/\m<=len)/\K (.own id gen (off+l.toNat) (m.toNat - l.toNat))
  | _,_=>False
 | .str s=>match lo,hi with
  | none,none=>K (.str s)
  | some (.int _ l),none=>(0<=l/\l<=s.length)/\K (.str (s.drop l.toNat))
  | none,some (.int _ m)=>(0<=m/\m<=s.length)/\K (.str (s.take m.toNat))
  | some (.int _ l),some (.int _ m)=>(0<=l/\l<=m/\m<=s.length)/\K (.str ((s.take m.toNat).drop l.toNat))
  | _,_=>False
 | _=>False
def CE (K:PV->Prop) (v:PV):Prop:=
 match v with
 | .eD sz n f=>∃a b,a=n/\(∀i,i<a->b i=f i)/\K (.eD sz a b)
 | .str s=>∃c,s=c/\K (.str c)
 | .own id g off n=>∃d a,d=off/\a=n/\K (.own id g d a)
 | v=>K v
def Na (n:Nat) (hi a:Option PV):Prop:=
 match a with
 | none=>True
 | some (.int _ q)=>match hi with
  | some (.int _ m)=>m<=q/\q<=n
  | _=>False
 | _=>False
def isByte:List PV->Bool
 | [.int .u8 _]=>true
 | _=>false
def byteOf:List PV->UInt8
 | [.int _ v]=>UInt8.ofNat v.toNat
 | _=>0
def rH (v:PV) (h:List ai) (K:List UInt8->Prop):Prop:=
 match v with
 | .aF=>K []
 | .eD sz n f=>cZ (Nat.beq sz 1) (∃s:List UInt8,s.length=n/\(∀i,i<n->f i=[.int .u8 (s.getD i 0).toNat])/\K s)
 | .own id gen off n=>match cF h id with
  | .row g sz _ _ f=>g=gen/\cZ (Nat.beq sz 1) (∃s:List UInt8,s.length=n/\(∀i,i<n->f (off+i)=[.int .u8 (s.getD i 0).toNat])/\K s)
  | .dead=>False
 | _=>False
def jI:PV->Bool
 | .agg _=>false
 | .eC _=>false
 | .gf=>false
 | .eM _ _ _ _ _=>false
 | _=>true
def storable:PV->Bool
 | .agg cs=>cs.all jI
 | v=>jI v
def lV (env:Env) (sz:Nat) (fl:List (Nat×Nat×Bool)) (K:List PV->Prop):List (Nat×Operand)->List PV->Prop
 | [],acc=>K acc
 | (k,x)::r,acc=>match fl[k]? with
  | some (o,size,_)=>force (ev env x) λv=>cZ (storable v&&Nat.beq (cellsOf v).length size&&Nat.ble (o+size) sz) (lV env sz fl K r (fC acc o (cellsOf v)))
  | none=>False
def p6 (env:Env) (K:List (Nat×Nat)->Prop):List Operand->List (Nat×Nat)->Prop
 | [],acc=>K acc.reverse
 | x::r,acc=>match ev env x with
  | .aE id gen 0 0=>p6 env K r ((id,gen)::acc)
  | _=>False
def bU (T:lS) (op:Op) (env:Env) (h:List ai) (K:PV->Prop):Prop:=
 match op with
 | .move x=>force (ev env x) K
 | .assign x=>force (ev env x) K
 | .pick c a b=>match ev env c with
  | .bool t=>dO t (force (ev env a) K) (force (ev env b) K)
  | _=>False
 | .binOp w t x y _=>HL (T.get t) w (ev env x) (ev env y) K
 | .unOp u _ x=>match u,ev env x with
  | .not,.bool b=>K (.bool !b)
  | .neg,.int k n=>K (.int k (k.wrap (0 - n)))
  | _,_=>False
 | .load t a=>tj T t (ev env a) h K
 | .convert s d x=>match T.get s,T.get d,ev env x with
  | .int _,.int k,.int _ n=>K (.int k (k.wrap n))
  | .slice e _ _ _,.str,v=>match T.get e with
   | .int .u8=>rH v h (λs=>K (.str s))
   | _=>False
  | _,_,_=>False
 | .nilCheck x=>match ev env x with
  | .ez cs=>K (.ez cs)
  | .aE id gen i off=>match cF h id with
   | .row g _ _ _ _=>g=gen/\K (.aE id gen i off)
   | .dead=>False
  | _=>False
 | .fieldAddr s x k=>match T.get s with
  | .struct _ fl _=>match fl[k]? with
   | some (o,_,_)=>match ev env x with
    | .ez cs=>K (.ez (cs.drop o))
    | .aE id gen i off=>match cF h id with
     | .row g _ _ _ _=>g=gen/\K (.aE id gen i (off+o))
     | .dead=>False
    | _=>False
   | none=>False
  | _=>False
 | .field s x k=>match T.get s with
  | .struct _ fl _=>match fl[k]? with
   | some (o,size,A)=>match ev env x with
    | .agg cs=>match A with
     | true=>Ap (λl=>K (.agg l)) size (cs.drop o) []
     | false=>match cs.drop o with
      | c::_=>force c K
      | []=>False
    | _=>False
   | none=>False
  | _=>False
 | .build t parts=>match T.get t with
  | .struct sz fl z=>lV env sz fl (λcs=>K (.agg cs)) parts.toList z
  | _=>False
 | .indexAddr t x i=>match T.get t,ev env x,ev env i with
  | .slice _ sz _ _,.eD m n f,.int _ i=>cZ (Nat.beq sz m) ((0<=i/\i<n)/\∃c,f i.toNat=c/\K (.ez c))
  | .slice _ sz _ _,.own id gen off len,.int _ i=>match cF h id with
   | .row g m _ B _=>g=gen/\cZ (Nat.beq sz m&&!Nat.beq B Lt) ((0<=i/\i<len)/\∃j,off+i.toNat=j/\K (.aE id gen j 0))
   | .dead=>False
  | _,_,_=>False
 | .index t x i=>match T.get t,ev env x,ev env i with
  | .str,.str s,.int _ i=>(0<=i/\i<s.length)/\∃c,s.getD i.toNat 0=c/\K (.int .u8 (c:UInt8).toNat)
  | _,_,_=>False
 | .lookup t x i ok=>match T.get t,ev env x with
  | .map kt _ C,.kC id=>match cF h id with
   | .row _ _ n _ f=>force (ev env i) λp=>cZ (js (T.get kt) p p).isSome (∃r b,K6 (T.get kt) f n p C r b/\match ok with
    | true=>K (.eC [r,.bool b])
    | false=>force r K)
   | .dead=>False
  | _,_=>False
 | .makeFunc fn first captured=>match fn with
  | .func f=>cZ first.isEmpty (p6 env (λbq=>K (.lv f bq)) captured.toList [])
  | _=>False
 | .extract x i=>match ev env x with
  | .eC vs=>match vs[i]? with
   | some v=>force v K
   | none=>False
  | _=>False
 | .slice t x lo hi q=>match T.get t,ev env x with
  | .slice _ sz _ _,.eD m n f=>cZ (Nat.beq sz m) (Na n (hi.map (ev env)) (q.map (ev env))/\xJ (.eD m n f) (lo.map (ev env)) (hi.map (ev env)) (CE K))
  | .slice _ sz _ _,.own id gen off len=>match cF h id with
   | .row g m _ _ _=>g=gen/\cZ (Nat.beq sz m) (Na len (hi.map (ev env)) (q.map (ev env))/\xJ (.own id gen off len) (lo.map (ev env)) (hi.map (ev env)) (CE K))
   | .dead=>False
  | .str,.str s=>cZ q.isNone (xJ (.str s) (lo.map (ev env)) (hi.map (ev env)) (CE K))
  | _,_=>False
 | .call ⟨.builtin .len,args,D⟩=>match args.toList,D.toList with
  | [x],[t]=>match T.get t,ev env x with
   | .slice _ _ _ _,.eD _ n _=>K (.int .i64 n)
   | .slice _ _ _ _,.aF=>K (.int .i64 0)
   | .slice _ _ _ _,.own id gen _ n=>match cF h id with
    | .row g _ _ _ _=>g=gen/\K (.int .i64 n)
    | .dead=>False
   | .str,.str s=>K (.int .i64 s.length)
   | .map _ _ _,.kC id=>match cF h id with
    | .row _ _ n _ _=>K (.int .i64 n)
    | .dead=>False
   | _,_=>False
  | _,_=>False
 | _=>False
def jf:TI->Nat
 | .struct sz _ _=>sz
 | .other=>0
 | _=>1
def xB:TI->Option (List PV)
 | .int k=>some [.int k 0]
 | .bool=>some [.bool false]
 | .str=>some [.str []]
 | .slice _ _ _ _=>some [.aF]
 | .struct _ _ z=>some z
 | _=>none
def u6 (len:Nat):Nat->List (Nat×Operand)->Bool
 | k,[]=>Nat.beq k len
 | k,(i,_)::r=>Nat.beq i k&&u6 len (k+1) r
def nv (env:Env) (sz:Nat) (K:List (List PV)->Prop):List (Nat×Operand)->List (List PV)->Prop
 | [],acc=>K acc.reverse
 | (_,x)::r,acc=>force (ev env x) λv=>cZ (storable v&&Nat.beq (cellsOf v).length sz) (nv env sz K r (cellsOf v::acc))
theorem u7 {env:Env} {sz:Nat} {K:List (List PV)->Prop}:∀(l:List (Nat×Operand)) (acc:List (List PV)),nv env sz K l acc->
  (∀p∈l,storable (ev env p.2)=true/\Nat.beq (cellsOf (ev env p.2)).length sz=true)/\K (acc.reverse++l.map λp=>cellsOf (ev env p.2))
 | [],acc,h=>⟨λp hp=>by simp at hp,by simp only[acw,acG];exact h⟩
 | (i,x)::r,acc,h=>by
  obtain⟨h1,h2⟩:=aW (bG h);simp only[Is]at h1;obtain⟨a,h4⟩:=u7 r _ h2;refine⟨λp hp=>?_,by simpa using h4⟩;simp only[abE]at hp;rcases hp with rfl | hp
  ·exact h1
  ·exact a p hp
def Xb:List PV->Bool
 | []=>true
 | .eM _ _ _ _ _::_=>false
 | _::r=>Xb r
def E4 (x:PV) (h:List ai) (sz:Nat) (K:Nat->(Nat->List PV)->Prop):Prop:=
 match x with
 | .aF=>K 0 (λ_=>[])
 | .eD a m g=>cZ (Nat.beq sz a) (K m g)
 | .own id gen off m=>match cF h id with
  | .row g a _ _ f=>g=gen/\(∀i,i<m->Xb (f (off+i))=true)/\cZ (Nat.beq sz a) (K m (λi=>f (off+i)))
  | .dead=>False
 | .str s=>cZ (Nat.beq sz 1)<|K s.length (λi=>[.int .u8 (s.getD i 0).toNat])
 | _=>False
def qu (e sz bytes:Nat) (s x:PV) (h:List ai) (K:PV->List ai->Prop):Prop:=
 match s with
 | .aF=>E4 x h sz λm g=>m*bytes<=140737488355328/\∃a b,a=m/\(∀i,i<a->ny (g i) (b i))/\K (.own h.length 0 0 a) (h++[.row 0 sz a e b])
 | .own id gen off len=>match cF h id with
  | .row g c _ d f=>g=gen/\cZ (Nat.beq sz c&&Nat.beq e d) (E4 x h sz λm q=>(len+m)*bytes<=140737488355328/\∃a b,a=len+m/\
    (∀i,i<a->ny (bif Nat.blt i len then f (off+i)else q (i - len)) (b i))/\
    K (.own id (gen+1) 0 a) (h.set id (.row (gen+1) sz a e b)))
  | .dead=>False
 | _=>False
def fjn (f:Nat->List PV) (n:Nat) (q:Nat->List PV):Nat->List PV:=λi=>bif Nat.blt i n then f i else q (i - n)
def C9 (e sz bytes:Nat) (s x:PV) (h:List ai) (K:PV->List ai->Prop):Prop:=
 match s,x with
 | .aF,.own a b 0 m=>match cF h a with
  | .row c lG _ _ q=>c=b/\cZ (Nat.beq sz lG) (m*bytes<=140737488355328/\K (.own h.length 1 0 m) (((h++[ai.row 0 sz 0 e (λ_=>[])]).set h.length (ai.row 1 sz m e q)).set a ai.dead))
  | .dead=>False
 | .own id gen 0 len,.own a b 0 m=>match cF h id with
  | .row g d _ i f=>match cF h a with
   | .row c lG _ _ q=>g=gen/\c=b/\cZ (Nat.beq sz d&&(Nat.beq e i&&(Nat.beq sz lG&&!Nat.beq a id))) ((len+m)*bytes<=140737488355328/\K (.own id (gen+1) 0 (len+m)) ((h.set id (ai.row (gen+1) sz (len+m) e (fjn f len q))).set a ai.dead))
   | .dead=>False
  | .dead=>False
 | _,_=>False
inductive E6 (e sz bytes:Nat) (s x:PV) (h:List ai) (K:PV->List ai->Prop):Prop
 | dS (hp:qu e sz bytes s x h K)
 | move (hp:C9 e sz bytes s x h K)
def kj:PV->Bool
 | .eC _=>false
 | _=>true
inductive vh (P:Program) (f:FuncId) (args:List PV) (h:List ai) (K:PV->List ai->Prop):Prop
 | mk (R:PV->List ai->Prop) (hA:ACall P f args h R) (hk:∀res h',R res h'->K res h')
def pop (P:Program) (T:lS) (op:Op) (env:Env) (h:List ai) (K:PV->List ai->Prop):Prop:=
 match op with
 | .store t a x=>match ev env a with
  | .aE id gen i off=>match cF h id with
   | .row g sz n e f=>g=gen/\force (ev env x) λv=>cZ (storable v&&Nat.ble 1 (jf (T.get t))&&Nat.beq (jf (T.get t)) (cellsOf v).length&&Nat.ble (off+(cellsOf v).length) sz)
     (∃c o,f i=c/\(∀j,j<n->ny (tn f i (fC c off (cellsOf v)) j) (o j))/\K .gf (h.set id (.row g sz n e o)))
   | .dead=>False
  | _=>False
 | .box t x=>force (ev env x) λv=>cZ (storable v&&Nat.beq (cellsOf v).length (jf (T.get t))) (K (.aE h.length 0 0 0) (h++[.row 0 (jf (T.get t)) 1 t (λ_=>cellsOf v)]))
 | .alloc t=>match xB (T.get t)with
  | some z=>K (.aE h.length 0 0 0) (h++[.row 0 (jf (T.get t)) 1 t (λ_=>z)])
  | none=>False
 | .makeSlice t l c=>match T.get t,ev env l,ev env c with
  | .slice e sz bytes zero,.int _ n,.int _ m=>(0<=n/\n<=m/\m<=4611686018427387904/\m.toNat*bytes<=140737488355328)/\∃q o,q=n.toNat/\(∀i,i<q->ny zero (o i))/\K (.own h.length 0 0 q) (h++[.row 0 sz q e o])
  | _,_,_=>False
 | .buildSlice t len parts=>match T.get t with
  | .slice e sz _ _=>cZ (u6 len 0 parts.toList&&Nat.ble (len*sz) 65536) (nv env sz (λcs=>∃o,(∀i,i<len->ny (cs.getD i []) (o i))/\K (.own h.length 0 0 len) (h++[.row 0 sz len e o])) parts.toList [])
  | _=>False
 | .convert s d x=>match T.get s,T.get d,ev env x with
  | .str,.slice e _ _ _,.str b=>match T.get e with
   | .int .u8=>∃o,(∀i,i<b.length->o i=[.int .u8 (b.getD i 0).toNat])/\K (.eD 1 b.length o) h
   | _=>False
  | _,_,_=>bU T (.convert s d x) env h (λv=>K v h)
 | .binOp w t x y ty=>match w,T.get t,ev env x,ev env y with
  | .eql,.slice _ _ _ _,.eD _ n _,.aF=>(n=0->K (.bool true) h)/\K (.bool false) h
  | _,_,_,_=>bU T (.binOp w t x y ty) env h (λv=>K v h)
 | .makeMap t none=>match T.get t with
  | .map _ _ _=>∃o,K (.kC h.length) (h++[.row 0 2 0 t o])
  | _=>False
 | .mapUpdate t m k x=>match T.get t,ev env m with
  | .map kt _ _,.kC id=>match cF h id with
   | .row g sz n e f=>force (ev env k) λr=>force (ev env x) λu=>cZ ((js (T.get kt) r r).isSome&&iq u&&storable u&&Nat.beq sz 2)
     (∃q o,W6 (T.get kt) f n r u q o/\K .gf (h.set id (.row (g+1) 2 q e o)))
   | .dead=>False
  | _,_=>False
 | .call ⟨.builtin .append,args,A⟩=>match args.toList,A.toList with
  | [s,x],[t,tx]=>match T.get t,T.get tx with
   | .slice e sz bytes _,.slice _ _ _ _=>E6 e sz bytes (ev env s) (ev env x) h K
   | .slice e sz bytes _,.str=>E6 e sz bytes (ev env s) (ev env x) h K
   | _,_=>False
  | _,_=>False
 | .call ⟨.value B,args,_⟩=>match ev env B with
  | .fn f=>cZ (args.toList.all (λx=>kj (ev env x))) (vh P f (args.toList.map (ev env)) h K)
  | .lv f bq=>cZ (args.toList.all (λx=>kj (ev env x))) (vh P f (args.toList.map (ev env)++bq.map λp=>.aE p.1 p.2 0 0) h K)
  | _=>False
 | op=>bU T op env h (λv=>K v h)
def qd (P:Program) (T:lS) (all:List Oper) (K:Env->List ai->Prop) (l:List Oper):Env->List ai->Prop:=
 List.rec (motive:=λ_=>Env->List ai->Prop) K (λo _ a env h=>match o.guard with
  | none=>pop P T o.op env h (λv h'=>a (dF env o.dst v) h')
  | some (j,want)=>match(all[j]?).bind (·.dst)with
   | some t=>match env t with
    | .bool b=>dO b
      (match want with
       | true=>pop P T o.op (mr env t (.bool true)) h (λv h'=>a (dF (mr env t (.bool true)) o.dst v) h')
       | false=>a (dF (mr env t (.bool true)) o.dst (.eC [])) h)
      (match want with
       | true=>a (dF (mr env t (.bool false)) o.dst (.eC [])) h
       | false=>pop P T o.op (mr env t (.bool false)) h (λv h'=>a (dF (mr env t (.bool false)) o.dst v) h'))
    | .eC []=>a (dF env o.dst (.eC [])) h
    | _=>False
   | none=>False) l
abbrev XQ:=Exit->Env->List ai->Prop
def XQ.then (next:Env->List ai->Prop) (Q:XQ):XQ
 | .normal,env,h=>next env h
 | e,env,h=>Q e env h
def XQ.inBlock (id:Nat) (Q:XQ):XQ
 | .exit a,env,h=>match Nat.beq a id with
  | true=>Q .normal env h
  | false=>Q (.exit a) env h
 | e,env,h=>Q e env h
def tv (h η:List ai) (k:List Nat) (env:Env):List (Nat×PV)->Prop
 | []=>True
 | (t,v)::r=>Fz h η k (env t) v/\tv h η k env r
def iB (h η:List ai) (k:List Nat) (m:Nat):Nat->List ai->List Nat->Prop
 | _,[],[]=>True
 | i,o::r,id::a=>vO h η k m o i id/\iB h η k m (i+1) r a
 | _,_,_=>False
def tw (m:Nat) (env:Env) (h:List ai) (σ:List (Nat×PV)) (η:List ai):Prop:=
 ∃k:List Nat,kH (ky η k)=true/\m<=k.length/\tv h η k env σ/\iB h η k m 0 η k
def lH:Env:=λ_=>.gf
def Fa (h h1:List ai):Prop:=∃(id g sz n:Nat) (e:TypeId) (f:Nat->List PV) (i j c a:Nat) (d:TypeId) (l:Nat->List PV) (F:Nat->Prop) (b:Nat->List PV),h[id]? =some (ai.row g sz n e f)/\i<n/\
 (f i)[j]? =some (.eM c a d l F)/\b i=(f i).set j (.own h.length 0 0 a)/\(∀k,k<n->k≠i->b k=f k)/\h1=h.set id (.row g sz n e b)++[.row 0 c a d l]
def Fb (h:List ai) (id i j sub:Nat) (F:Nat->Prop) (h1:List ai):Prop:=∃(g sz n:Nat) (e:TypeId) (f:Nat->List PV) (g2 lG n2:Nat) (e2:TypeId) (f2 a:Nat->List PV),h[id]? =some (ai.row g sz n e f)/\h[sub]? =some (ai.row g2 lG n2 e2 f2)/\
 id≠sub/\i<n/\(f i)[j]? =some (.own sub g2 0 n2)/\(∀k,k<n2->∀c,c∈f2 k->bn c=true\/dL c=true)/\a i=(f i).set j (.eM lG n2 e2 f2 F)/\(∀k,k<n->k≠i->a k=f k)/\
 h1=(h.set id (.row g sz n e a)).set sub .dead
inductive mJ (m:Nat) (body:(Env->List ai->Prop)->Env->List ai->Prop):Env->List ai->Prop
 | take {env:Env} {h:List ai} (σ:List (Nat×PV)) (η:List ai) (ht:tw m env h σ η) (hk:mJ m body (vQ lH σ) η):mJ m body env h
 | step {env:Env} {h:List ai} (N:Env->List ai->Prop) (hN:∀e h',N e h'->mJ m body e h') (hb:body N env h):mJ m body env h
 | ex {env:Env} {h:List ai} (h1:List ai) (hx:Fa h h1) (hk:mJ m body env h1):mJ m body env h
 | ab {env:Env} {h:List ai} (id i j sub:Nat) (h1:(Nat->Prop)->List ai) (ha:∀F,Fb h id i j sub F (h1 F)) (hk:∀F,mJ m body env (h1 F)):mJ m body env h
def aG (m:Nat) (body:(Env->List ai->Prop)->Env->List ai->Prop) (σ:List (Nat×PV)) (η:List ai):Prop:=mJ m body (vQ lH σ) η
inductive loopGo (m:Nat) (body:(Env->List ai->Prop)->Env->List ai->Prop) (env:Env):List ai->Prop
 | mk {h:List ai} (σ:List (Nat×PV)) (η:List ai) (ht:tw m env h σ η) (hk:aG m body σ η):loopGo m body env h
 | ex {h:List ai} (h1:List ai) (hx:Fa h h1) (hk:loopGo m body env h1):loopGo m body env h
 | ab {h:List ai} (id i j sub:Nat) (h1:(Nat->Prop)->List ai) (ha:∀F,Fb h id i j sub F (h1 F)) (hk:∀F,loopGo m body env (h1 F)):loopGo m body env h
theorem loopGo.to {m:Nat} {body:(Env->List ai->Prop)->Env->List ai->Prop} {env:Env} {h:List ai} (hg:loopGo m body env h):mJ m body env h:=by
 induction hg with
 | mk σ η c a=>exact .take σ η c a
 | ex h1 d a b=>exact .ex h1 d b
 | ab id i j sub h1 e a b=>exact .ab id i j sub h1 e b
theorem aG.enter {m:Nat} {body:(Env->List ai->Prop)->Env->List ai->Prop} {env:Env} {h:List ai} (σ:List (Nat×PV)) (η:List ai) (a:tw m env h σ η) (b:aG m body σ η):mJ m body env h:=.take σ η a b
theorem aG.round {m:Nat} {body:(Env->List ai->Prop)->Env->List ai->Prop} {σ:List (Nat×PV)} {η:List ai} (a:body (loopGo m body) (vQ lH σ) η):aG m body σ η:=
 .step (loopGo m body) (λ_ _ hg=>hg.to) a
inductive tz (m:Nat) (J:List (Nat×PV)->List ai->Prop) (env:Env):List ai->Prop
 | mk {h:List ai} (σ:List (Nat×PV)) (η:List ai) (ht:tw m env h σ η) (hj:J σ η):tz m J env h
 | ex {h:List ai} (h1:List ai) (hx:Fa h h1) (hk:tz m J env h1):tz m J env h
 | ab {h:List ai} (id i j sub:Nat) (h1:(Nat->Prop)->List ai) (ha:∀F,Fb h id i j sub F (h1 F)) (hk:∀F,tz m J env (h1 F)):tz m J env h
inductive qb (m:Nat) (A B:XQ->Env->List ai->Prop) (Q:XQ) (env:Env):List ai->Prop
 | direct {h:List ai} (hd:A (XQ.then (B Q) Q) env h):qb m A B Q env h
 | cut {h:List ai} (J:List (Nat×PV)->List ai->Prop) (ha:A (XQ.then (tz m J) Q) env h) (hb:∀σ η,J σ η->B Q (vQ lH σ) η):qb m A B Q env h
 | ex {h:List ai} (h1:List ai) (hx:Fa h h1) (hk:qb m A B Q env h1):qb m A B Q env h
 | ab {h:List ai} (id i j sub:Nat) (h1:(Nat->Prop)->List ai) (ha:∀F,Fb h id i j sub F (h1 F)) (hk:∀F,qb m A B Q env (h1 F)):qb m A B Q env h
def Al:Op->Bool
 | .call ⟨.value _,_,_⟩=>false
 | .call ⟨.builtin .append,_,_⟩=>false
 | .call ⟨.builtin .copy,_,_⟩=>false
 | .store _ _ _=>false
 | .box _ _=>false
 | .alloc _=>false
 | .makeSlice _ _ _=>false
 | .buildSlice _ _ _=>false
 | .makeMap _ _=>false
 | .mapUpdate _ _ _ _=>false
 | _=>true
def sg:PV->Bool
 | .int _ _=>true
 | .bool _=>true
 | .str _=>true
 | .aF=>true
 | _=>false
def Lj (P:Program) (b:PV) (args:List PV) (h:List ai) (K:PV->Prop):Prop:=
 match b with
 | .fn f=>cZ (args.all kj) (∃(a:List PV) (v:PV),rM h [] [] args a/\a.all kj=true/\ACall P f a [] (λres _=>res=v)/\cZ (sg v) (K v))
 | _=>False
def R3 (P:Program) (T:lS) (op:Op) (env:Env) (h:List ai) (K:PV->Prop):Prop:=
 match op with
 | .call ⟨.value a,args,_⟩=>Lj P (ev env a) (args.toList.map (ev env)) h K
 | op=>bU T op env h K
def rV (P:Program) (T:lS) (all:List Oper) (h:List ai) (K:Env->Prop) (l:List Oper):Env->Prop:=
 List.rec (motive:=λ_=>Env->Prop) K (λo _ a env=>match o.guard with
  | none=>R3 P T o.op env h (λv=>a (dF env o.dst v))
  | some (j,want)=>match(all[j]?).bind (·.dst)with
   | some t=>match env t with
    | .bool b=>dO b
      (match want with
       | true=>R3 P T o.op (mr env t (.bool true)) h (λv=>a (dF (mr env t (.bool true)) o.dst v))
       | false=>a (dF (mr env t (.bool true)) o.dst (.eC [])))
      (match want with
       | true=>a (dF (mr env t (.bool false)) o.dst (.eC []))
       | false=>R3 P T o.op (mr env t (.bool false)) h (λv=>a (dF (mr env t (.bool false)) o.dst v)))
    | .eC []=>a (dF env o.dst (.eC []))
    | _=>False
   | none=>False) l
def lx:List Nat->Nat->Bool
 | [],_=>false
 | a::r,x=>match Nat.beq a x with
  | true=>true
  | false=>lx r x
def oW:PV->List Nat
 | .own id _ _ _=>[id]
 | .aE id _ _ _=>[id]
 | .kC id=>[id]
 | .lv _ bq=>bq.map (·.1)
 | _=>[]
def kA (env:Env) (op:Op):List Nat:=match op with | .move _=>[] | _=>op.operands.toList.flatMap λx=>oW (ev env x)
def Ll (o:Oper):List Nat:=o.after.toList.filterMap λe=>match Region.binds .any e with | true=>some e.on | false=>none
def cJ (all:List Oper) (i:Nat):List Nat:=match all[i]? with | some o=>Ll o | none=>[]
def eA:List (Nat×List Nat)->Nat->List Nat
 | [],_=>[]
 | (j,A)::r,i=>match Nat.beq j i with | true=>A | false=>eA r i
def Xp:List Nat->List Nat->List Nat
 | [],acc=>acc
 | a::r,acc=>match lx acc a with | true=>Xp r acc | false=>Xp r (a::acc)
def BC (all:List Oper):List (Nat×Bool)->List (Nat×List Nat)->List (Nat×List Nat)
 | [],t=>t
 | (i,_)::r,t=>BC all r ((i,Xp (cJ all i++(cJ all i).flatMap (eA t)) [])::t)
def qA (ops:Array Oper) (i j:Nat):Bool:=match ops[i]?,ops[j]? with | some x,some y=>Oper.apart ops x y | _,_=>false
def gy (ops:Array Oper) (t:List (Nat×List Nat)) (p i:Nat×Bool):Bool:=
 !(Nat.beq p.1 i.1)&&!(lx (cJ ops.toList p.1) i.1)&&(lx (cJ ops.toList i.1) p.1||(qA ops p.1 i.1&&(p.2||lx (eA t i.1) p.1)))
def bV (ops:Array Oper) (t:List (Nat×List Nat)):List (Nat×Bool)->Bool
 | []=>true
 | p::r=>r.all (gy ops t p)&&bV ops t r
def GN (ops:Array Oper) (ord:List (Nat×Bool)):Bool:=
 Nat.beq ord.length ops.size&&(List.range ops.size).all (λj=>lx (ord.map (·.1)) j)&&ord.all (λp=>Nat.blt p.1 ops.size&&(cJ ops.toList p.1).all (λd=>Nat.blt d ops.size&&!(Nat.beq d p.1)))&&bV ops (BC ops.toList ord []) ord
def BH (h h':List ai) (K:Prop):List Nat->Prop
 | []=>K
 | id::r=>cF h id=cF h' id/\BH h h' K r
def mN (a:List Nat) (h h':List ai) (K:Prop):List (Nat×List Nat)->Prop
 | []=>K
 | (j,ids)::r=>match lx a j with
  | true=>mN a h h' K r
  | false=>BH h h' (mN a h h' K r) ids
def zk (P:Program) (T:lS) (st:Bool) (op:Op) (env:Env) (h:List ai) (G:PV->List ai->Prop):Prop:=
 match st with
 | true=>bU T op env h (λv=>G v h)
 | false=>pop P T op env h G
def rk (P:Program) (T:lS) (all:List Oper) (st:Bool) (o:Oper) (F:Env->PV->List ai->Prop) (env:Env) (h:List ai):Prop:=
 match o.guard with
 | none=>zk P T st o.op env h (F env)
 | some (j,want)=>match(all[j]?).bind (·.dst)with
  | some t=>match env t with
   | .bool b=>dO b
     (match want with
      | true=>zk P T st o.op (mr env t (.bool true)) h (F (mr env t (.bool true)))
      | false=>F (mr env t (.bool true)) (.eC []) h)
     (match want with
      | true=>F (mr env t (.bool false)) (.eC []) h
      | false=>zk P T st o.op (mr env t (.bool false)) h (F (mr env t (.bool false))))
   | .eC []=>F env (.eC []) h
   | _=>False
  | none=>False
def fw (P:Program) (T:lS) (all:List Oper) (t:List (Nat×List Nat)) (K:Env->List ai->Prop) (l:List (Nat×Bool)):List (Nat×List Nat)->Env->List ai->Prop:=
 List.rec (motive:=λ_=>List (Nat×List Nat)->Env->List ai->Prop) (λ_ env h=>K env h) (λp _ b a env h=>match all[p.1]? with
  | some o=>match p.2 with
   | true=>rk P T all true o (λenv' v h'=>b ((p.1,kA env' o.op)::a) (dF env' o.dst v) h') env h
   | false=>rk P T all false o (λenv' v h'=>mN (eA t p.1) h h' (b a (dF env' o.dst v) h') a) env h
  | none=>False) l
def Xw (P:Program) (T:lS) (all:List Oper) (t:List (Nat×List Nat)) (E:List (Nat×List Nat)->Env->List ai->Prop) (l:List (Nat×Bool)):List (Nat×List Nat)->Env->List ai->Prop:=
 List.rec (motive:=λ_=>List (Nat×List Nat)->Env->List ai->Prop) (λa env h=>E a env h) (λp _ b a env h=>match all[p.1]? with
  | some o=>match p.2 with
   | true=>rk P T all true o (λenv' v h'=>b ((p.1,kA env' o.op)::a) (dF env' o.dst v) h') env h
   | false=>rk P T all false o (λenv' v h'=>mN (eA t p.1) h h' (b a (dF env' o.dst v) h') a) env h
  | none=>False) l
def Ln (ops:Array Oper) (t:List (Nat×List Nat)) (ord:List (Nat×Bool)) (x y:Nat) (a b:List Nat):Bool:=
 Nat.beq a.length b.length&&ord.all (λp=>gy ops t p (x,false)&&gy ops t p (y,false)&&(cJ ops.toList p.1).all (λd=>!(lx (x::a) d))&&!(lx (x::a) p.1))&&
  (x::a).all (λj=>lx (y::b) j)&&(y::b).all (λj=>lx (x::a) j)&&(cJ ops.toList x).all (λd=>!(lx (x::a) d))&&!(lx a x)&&!(lx b y)&&
  a.all (λj=>Nat.beq j y||lx (eA t j) x||lx (eA t j) y)
abbrev mL:=List (List (Nat×Bool)×Nat×Nat×List (Nat×Bool))
def zl:mL->List (Nat×Bool)->List (Nat×Bool)
 | [],fin=>fin
 | c::r,fin=>c.1++(c.2.1,false)::zl r fin
def fwC (P:Program) (T:lS) (all:List Oper) (t:List (Nat×List Nat)) (K:Env->List ai->Prop) (fin:List (Nat×Bool)) (cs:mL):List (Nat×List Nat)->Env->List ai->Prop:=
 List.rec (motive:=λ_=>List (Nat×List Nat)->Env->List ai->Prop) (λa env h=>fw P T all t K fin a env h)
  (λc _ b a env h=>Xw P T all t (λa env h=>Xw P T all t b [(c.2.1,false)] a env h/\fw P T all t K ((c.2.2.1,false)::c.2.2.2) a env h) c.1 a env h) cs
def Ic (ops:Array Oper) (t:List (Nat×List Nat)) (fin:List (Nat×Bool)):mL->List (Nat×Bool)->Bool
 | [],pre=>bV ops t (pre++fin)
 | c::r,pre=>Ln ops t (pre++c.1) c.2.1 c.2.2.1 ((zl r fin).map (·.1)) (c.2.2.2.map (·.1))&&bV ops t ((pre++c.1)++c.2.2.2)&&Ic ops t fin r (pre++c.1)
def yw (ops:Array Oper) (cs:mL) (fin:List (Nat×Bool)):Bool:=
 (λall=>(λt=>Nat.beq all.length ops.size&&(List.range ops.size).all (λj=>lx (all.map (·.1)) j)&&all.all (λp=>Nat.blt p.1 ops.size&&(cJ ops.toList p.1).all (λd=>Nat.blt d ops.size&&!(Nat.beq d p.1)))&&
  Ic ops t fin cs []) (BC ops.toList all [])) (zl cs fin)
inductive yx (P:Program) (T:lS) (m:Nat) (ops:Array Oper) (K:Env->List ai->Prop) (env:Env) (h:List ai):Prop
 | quiet (hq:rV P T ops.toList h (λenv'=>K env' h) ops.toList env):yx P T m ops K env h
 | KM (cs:mL) (fin:List (Nat×Bool)) (hc:yw ops cs fin=true) (hf:fwC P T ops.toList (BC ops.toList (zl cs fin) []) K fin cs [] env h):yx P T m ops K env h
 | float (ord:List (Nat×Bool)) (hc:GN ops ord=true) (hf:fw P T ops.toList (BC ops.toList ord []) K ord [] env h):yx P T m ops K env h
def O7 (Q:XQ) (env:Env) (h:List ai):Prop:=Q .normal env h
def Xx (Q:XQ) (h:List ai) (env:Env):Prop:=Q .normal env h
def vc (P:Program) (T:lS) (m:Nat) (c:Code):XQ->Env->List ai->Prop:=
 Code.rec (motive:=λ_=>XQ->Env->List ai->Prop)
  (λQ env h=>Q .normal env h)
  (λ_ ops d Q env h=>match d with
   | false=>qd P T ops.toList (Q .normal) ops.toList env h
   | true=>match ops.toList.all (λo=>Al o.op)with
    | true=>rV P T ops.toList h (Xx Q h) ops.toList env
    | false=>yx P T m ops (O7 Q) env h)
  (λ_ _ a b Q env h=>qb m a b Q env h)
  (λc _ _ a b Q env h=>match ev env c with
   | .bool t=>dO t (a Q env h) (b Q env h)
   | _=>False)
  (λid _ e Q env h=>e (XQ.inBlock id Q) env h)
  (λ_ e Q env h=>mJ m (λnext=>e (XQ.then next Q)) env h)
  (λ_ _ _ _ _ _ _ _ _=>False)
  (λid Q env h=>Q (.exit id) env h)
  (λ_ _ _ _ _=>False)
  (λ_ Q env h=>Q .normal env h)
  (λ_ _ _ _=>False)
  (λQ env h=>Q .ret env h)
  (λ_ _ _ _=>False) c
def codeOk (nt:Nat):Code->Bool
 | .region _ ops d=>ops.toList.all (λo=>match o.dst with | some t=>Nat.blt t nt | none=>true)&&(!d||Region.lexB .any ops)
 | .seq a b=>codeOk nt a&&codeOk nt b
 | .cond _ a b=>codeOk nt a&&codeOk nt b
 | .block _ c=>codeOk nt c
 | .loop c=>codeOk nt c
 | _=>true
def qC (T:lS) (env:Env) (h:List ai):List ResultVar->(List PV->Prop)->Prop
 | [],K=>K []
 | .tmp t::r,K=>qC T env h r (λvs=>K (env t::vs))
 | .cell t ty::r,K=>tj T ty (env t) h (λv=>qC T env h r (λvs=>K (v::vs)))
def oneOf:List PV->PV
 | [v]=>v
 | vs=>.eC vs
inductive Ends (m:Nat) (R:PV->List ai->Prop):List ai->List PV->Prop
 | mk {h:List ai} {vs:List PV} (hn:vs.all kj=true) (k:List Nat) (res:PV) (η:List ai) (hk:kH (ky η k)=true) (hm:m<=k.length) (hz:Fz h η k (oneOf vs) res) (hh:iB h η k m 0 η k) (hR:R res η):Ends m R h vs
 | ex {h:List ai} {vs:List PV} (h1:List ai) (hx:Fa h h1) (hk:Ends m R h1 vs):Ends m R h vs
 | ab {h:List ai} {vs:List PV} (id i j sub:Nat) (h1:(Nat->Prop)->List ai) (ha:∀F,Fb h id i j sub F (h1 F)) (hk:∀F,Ends m R (h1 F) vs):Ends m R h vs
def Xd (T:lS) (rs:List ResultVar) (m:Nat) (R:PV->List ai->Prop):XQ
 | .ret,env,h=>qC T env h rs (Ends m R h)
 | .normal,env,h=>qC T env h rs (Ends m R h)
 | _,_,_=>False
def qc (args:List PV):Env:=λt=>args.getD t .gf
def Fl (env env':Env) (op:Op):Prop:=∀x,x∈op.operands.toList->ev env x=ev env' x
def Sd (h h':List ai) (env:Env) (op:Op):Prop:=∀x,x∈op.operands.toList->∀id,id∈oW (ev env x)->cF h id=cF h' id
theorem gO {v:PV} {K:PV->Prop} (h:K v):force v K:=by cases v<;>exact h
theorem yz {env env':Env} {sz:Nat} {fl:List (Nat×Nat×Bool)} {K:List PV->Prop}:∀(l:List (Nat×Operand)) (acc:List PV),(∀p,p∈l->ev env p.2=ev env' p.2)->lV env sz fl K l acc=lV env' sz fl K l acc
 | [],acc,_=>rfl
 | (k,x)::r,acc,hs=>by
  have e:=hs (k,x) aeR;simp only at e;unfold lV;rw[e];split
  ·congr 1;funext v;rw[yz r _ (λp hp=>hs p (abz _ hp))]
  ·rfl
theorem yA {env env':Env} {sz:Nat} {K:List (List PV)->Prop}:∀(l:List (Nat×Operand)) (acc:List (List PV)),(∀p,p∈l->ev env p.2=ev env' p.2)->nv env sz K l acc=nv env' sz K l acc
 | [],acc,_=>rfl
 | (k,x)::r,acc,hs=>by
  have e:=hs (k,x) aeR;simp only at e;unfold nv;rw[e];congr 1;funext v;rw[yA r _ (λp hp=>hs p (abz _ hp))]
theorem Fm {env env':Env} {o:Option Operand} (hs:∀x,o=some x->ev env x=ev env' x):o.map (ev env)=o.map (ev env'):=by
 cases o with
 | none=>rfl
 | some x=>simp [hs x rfl]
theorem Aq {env env':Env} {K:List (Nat×Nat)->Prop}:∀(l:List Operand) (acc:List (Nat×Nat)),(∀x,x∈l->ev env x=ev env' x)->p6 env K l acc=p6 env' K l acc
 | [],_,_=>rfl
 | x::r,acc,hs=>by
  unfold p6;rw[hs x aeR];split
  ·exact Aq r _ (λy hy=>hs y (abz _ hy))
  ·rfl
theorem tI {T:lS} {env env':Env} {h:List ai} {K:PV->Prop} (op:Op) (hs:Fl env env' op):bU T op env h K=bU T op env' h K:=by
 cases op with
 | move x=>simp only[bU,hs x aeS]
 | assign x=>simp only[bU,hs x aeS]
 | pick c a b=>simp only[bU,hs c aeS,hs a aeS,hs b aeS]
 | binOp m t x y n=>simp only[bU,hs x aeS,hs y aeS]
 | unOp u t x=>simp only[bU,hs x aeS]
 | load t a=>simp only[bU,hs a aeS]
 | convert s d x=>simp only[bU,hs x aeS]
 | nilCheck x=>simp only[bU,hs x aeS]
 | fieldAddr s x k=>simp only[bU,hs x aeS]
 | field s x k=>simp only[bU,hs x aeS]
 | build t parts=>
  have e:∀sz fl (K:List PV->Prop) z,lV env sz fl K parts.toList z=lV env' sz fl K parts.toList z:=λsz fl K z=>yz _ _ (λp hp=>hs p.2 afp);simp only[bU,e]
 | indexAddr t x i=>simp only[bU,hs x aeS,hs i aeS]
 | index t x i=>simp only[bU,hs x aeS,hs i aeS]
 | extract x i=>simp only[bU,hs x aeS]
 | lookup t x i ok=>simp only[bU,hs x aeS,hs i aeS]
 | makeFunc fn first captured=>
  have e:∀(K:List (Nat×Nat)->Prop) acc,p6 env K captured.toList acc=p6 env' K captured.toList acc:=λK acc=>Aq _ _ (λx f=>hs x (by simp [Op.operands];right;simpa using f));simp only[bU,e]
 | slice t x lo hi g=>
  have j:lo.map (ev env)=lo.map (ev env'):=Fm (λy hy=>hs y afn);have e2:hi.map (ev env)=hi.map (ev env'):=Fm (λy hy=>hs y afn);have l:g.map (ev env)=g.map (ev env'):=Fm (λy hy=>hs y afn);simp only[bU,hs x aeS,j,e2,l]
 | call c=>
  obtain⟨callee,args,o⟩:=c;cases callee with
  | builtin b=>
   cases b with
   | len=>
    simp only[bU];split
    ·rename_i x t f q;have e:=hs x (by simp [Op.operands,Call.operands];have:x∈args.toList:=(by rw[f];simp);simpa using this);rw[e]
    ·rfl
   | _=>rfl
  | _=>rfl
 | _=>rfl
theorem Ig {T:lS} {env:Env} {h h':List ai} {K:PV->Prop} (op:Op) (hs:Sd h h' env op):bU T op env h K=bU T op env h' K:=by
 cases op with
 | load t a=>
  have q:=hs a aeS;simp only[bU];revert q;generalize ev env a=v;intro q;cases v with
  | aE id g i o=>simp only[tj,q id afd]
  | _=>rfl
 | convert s d x=>
  have q:=hs x aeS;simp only[bU];revert q;generalize ev env x=v;intro q
  have e:∀K,rH v h K=rH v h' K:=λK=>by
   cases v with
   | own id g i o=>simp only[rH,q id afd]
   | _=>rfl
  generalize T.get s=ti;generalize T.get d=f;cases ti with
  | slice a b c z=>cases f with
   | str=>simp only[e]
   | _=>rfl
  | int k=>cases f<;>cases v<;>rfl
  | _=>rfl
 | nilCheck x=>
  have q:=hs x aeS;simp only[bU];revert q;generalize ev env x=v;intro q;cases v with
  | aE id g i o=>simp only[q id afd]
  | _=>rfl
 | fieldAddr s x k=>
  have q:=hs x aeS;simp only[bU];revert q;generalize ev env x=v;intro q;cases v with
  | aE id g i o=>simp only[q id afd]
  | _=>rfl
 | indexAddr t x i=>
  have q:=hs x aeS;simp only[bU];revert q;generalize ev env x=v;generalize ev env i=u;generalize T.get t=ti;intro q;cases ti with
  | slice e sz b z=>cases v with
   | own id g o l=>cases u with
    | int k n=>simp only[q id afd]
    | _=>rfl
   | eD a b c=>cases u<;>rfl
   | _=>rfl
  | _=>rfl
 | lookup t x i ok=>
  have q:=hs x aeS;simp only[bU];revert q;generalize ev env x=v;generalize T.get t=ti;intro q;cases ti with
  | map k e z=>cases v with
   | kC id=>simp only[q id afd]
   | _=>rfl
  | _=>cases v<;>rfl
 | slice t x lo hi m=>
  have q:=hs x aeS;simp only[bU];revert q;generalize ev env x=v;generalize T.get t=ti;intro q;cases ti with
  | slice e sz b z=>cases v with
   | own id g o l=>simp only[q id afd]
   | _=>rfl
  | str=>cases v<;>rfl
  | _=>rfl
 | call c=>
  obtain⟨callee,args,p⟩:=c;cases callee with
  | builtin b=>
   cases b with
   | len=>
    simp only[bU];split
    ·rename_i x t j r;have q:=hs x (by simp [Op.operands,Call.operands];have:x∈args.toList:=(by rw[j];simp);simpa using this);revert q;generalize ev env x=v;generalize T.get t=ti;intro q;cases ti with
     | slice e sz b z=>cases v with
      | own id g o l=>simp only[q id afd]
      | _=>rfl
     | map k e z=>cases v with
      | kC id=>simp only[q id afd]
      | _=>rfl
     | str=>cases v<;>rfl
     | _=>rfl
    ·rfl
   | _=>rfl
  | _=>rfl
 | _=>rfl
def One (F:(PV->Prop)->Prop):Prop:=∀K,F K->∃v,K v/\∀a,a v->F a
theorem nV (v:PV):One (force v):=λK h=>⟨v,bG h,λb a=>gO a⟩
theorem aO (v:PV):One (λK=>K v):=λK h=>⟨v,h,λ_ a=>a⟩
theorem cz {A:Prop} {F:(PV->Prop)->Prop} (h:One F):One (λK=>A/\F K):=λK a=>
 let⟨v,h1,h2⟩:=h K a.2
 ⟨v,h1,λb c=>⟨a.1,h2 b c⟩⟩
theorem ff {b:Bool} {F:(PV->Prop)->Prop} (h:One F):One (λK=>cZ b (F K)):=λK a=>by
 cases b with
 | true=>exact h K a
 | false=>exact a.elim
theorem qh {α:Type} {A:α->Prop} {F:α->(PV->Prop)->Prop} (h:∀c,One (F c)):One (λK=>∃c,A c/\F c K):=λK ⟨c,a,b⟩=>
 let⟨v,h1,h2⟩:=h c K b
 ⟨v,h1,λd e=>⟨c,a,h2 d e⟩⟩
theorem yB {F:(PV->Prop)->Prop} (h:One F):One (λK=>F (CE K)):=λK l=>by
 obtain⟨v,h1,h2⟩:=h _ l;cases v with
 | eD sz n f=>
  obtain⟨b,i,c,e2,d⟩:=h1;exact⟨.eD sz b i,d,λe a=>h2 _ ⟨b,i,c,e2,a⟩⟩
 | own id g off n=>
  obtain⟨j,b,c,e2,d⟩:=h1;exact⟨.own id g j b,d,λe a=>h2 _ ⟨j,b,c,e2,a⟩⟩
 | str s=>
  obtain⟨k,c,d⟩:=h1;exact⟨.str k,d,λe a=>h2 _ ⟨k,c,a⟩⟩
 | _=>exact⟨_,h1,λe a=>h2 _ a⟩
theorem uL {K:List PV->Prop}:∀(n:Nat) (l acc:List PV),n<=l.length->K (acc.reverse++l.take n)->Ap K n l acc
 | 0,l,acc,_,h=>by unfold Ap;simpa using h
 | n+1,[],acc,a,_=>by simp at a
 | n+1,c::r,acc,a,h=>gO (uL n r (c::acc) (by simp at a;omega) afb)
theorem yC (T:lS) (t:Nat) (cells:List PV):One (ur T t cells):=λK a=>by
 unfold ur at a ⊢;generalize T.get t=q1 at a ⊢;cases q1 with
 | struct sz fl z=>
  obtain⟨h1,h2⟩:=lU _ _ _ a;exact⟨_,h2,λd b=>uL _ _ _ h1 b⟩
 | other=>exact a.elim
 | _=>
  cases cells with
  | nil=>exact a.elim
  | cons c r=>exact nV c K a
theorem Ih (T:lS) (t:Nat) (a:PV) (h:List ai):One (tj T t a h):=λK b=>by
 cases a with
 | ez cells=>exact yC T t cells K b
 | aE id gen i off=>
  simp only[tj]at b ⊢;generalize cF h id=q2 at b ⊢;cases q2 with
  | row g sz n e f=>exact cz (qh (λc=>yC T t _)) K b
  | dead=>exact b.elim
 | _=>exact b.elim
theorem Lu (ti:TI) (e:BinOp) (x y:PV):One (HL ti e x y):=λK d=>by
 cases x with
 | int k a=>cases y with
  | int h b=>
   cases e with
   | shl=>exact cz (aO _) K d
   | shr=>exact cz (aO _) K d
   | quo=>exact ff (cz (aO _)) K d
   | rem=>exact ff (cz (aO _)) K d
   | _=>exact ff (aO _) K d
  | _=>exact d.elim
 | bool a=>cases y with
  | bool b=>cases ti with
   | bool=>cases e with
    | eql=>exact aO _ K d
    | neq=>exact aO _ K d
    | _=>exact d.elim
   | _=>exact d.elim
  | _=>exact d.elim
 | str a=>cases y with
  | str b=>cases e with
   | add=>exact cz (qh λc=>aO _) K d
   | eql=>exact aO _ K d
   | neq=>exact aO _ K d
   | lss=>exact aO _ K d
   | leq=>exact aO _ K d
   | gtr=>exact aO _ K d
   | geq=>exact aO _ K d
   | _=>exact d.elim
  | _=>exact d.elim
 | agg xs=>cases y with
  | agg f=>cases ti with
   | struct sz fl z=>
    simp only[HL]at d ⊢;generalize uW z=g at d ⊢;cases g with
    | false=>exact d.elim
    | true=>
     simp only[cZ]at d ⊢;generalize zM z xs f=q at d ⊢;cases q with
     | none=>exact d.elim
     | some b=>cases e<;>first | exact d.elim | exact qh (λc=>aO _) K d
   | _=>exact d.elim
  | _=>exact d.elim
 | _=>exact d.elim
theorem rW (x:PV) (lo hi:Option PV):One (xJ x lo hi):=λK a=>by
 cases x with
 | eD sz n f=>
  cases lo with
  | none=>cases hi with
   | none=>exact aO _ K a
   | some u=>cases u<;>first | exact a.elim | exact cz (aO _) K a
  | some l=>cases l with
   | int k l=>cases hi with
    | none=>exact cz (aO _) K a
    | some u=>cases u<;>first | exact a.elim | exact cz (aO _) K a
   | _=>cases hi<;>exact a.elim
 | own id gen off len=>
  cases lo with
  | none=>cases hi with
   | none=>exact aO _ K a
   | some u=>cases u<;>first | exact a.elim | exact cz (aO _) K a
  | some l=>cases l with
   | int k l=>cases hi with
    | none=>exact cz (aO _) K a
    | some u=>cases u<;>first | exact a.elim | exact cz (aO _) K a
   | _=>cases hi<;>exact a.elim
 | str s=>
  cases lo with
  | none=>cases hi with
   | none=>exact aO _ K a
   | some u=>cases u<;>first | exact a.elim | exact cz (aO _) K a
  | some l=>cases l with
   | int k l=>cases hi with
    | none=>exact cz (aO _) K a
    | some u=>cases u<;>first | exact a.elim | exact cz (aO _) K a
   | _=>cases hi<;>exact a.elim
 | _=>exact a.elim
theorem Fo (v:PV) (h:List ai):One (λK=>rH v h (λs=>K (.str s))):=λK a=>by
 cases v with
 | aF=>exact aO _ K a
 | eD sz n f=>exact ff (qh λs=>cz (aO _)) K a
 | own id gen off n=>
  simp only[rH]at a ⊢;generalize cF h id=q3 at a ⊢;cases q3 with
  | row g sz n e f=>exact cz (ff (qh λs=>cz (aO _))) K a
  | dead=>exact a.elim
 | _=>exact a.elim
theorem yD (env:Env) (sz:Nat) (fl:List (Nat×Nat×Bool)):∀(l:List (Nat×Operand)) (acc:List PV),One (λK=>lV env sz fl (λcs=>K (.agg cs)) l acc)
 | [],acc=>aO _
 | (k,x)::r,acc=>λK a=>by
  unfold lV at a ⊢;generalize fl[k]? =q4 at a ⊢;cases q4 with
  | none=>exact a.elim
  | some p=>
   obtain⟨o,size,b⟩:=p;have h1:=bG a;obtain⟨v,h2,c⟩:=ff (yD env sz fl r _) K h1;exact⟨v,h2,λd e=>gO (c d e)⟩
theorem Ar {env:Env} (f:Nat):∀(l:List Operand) (acc:List (Nat×Nat)),One (λK=>p6 env (λbq=>K (.lv f bq)) l acc)
 | [],_=>aO _
 | x::r,acc=>λK a=>by
  unfold p6 at a ⊢;generalize ev env x=v at a ⊢;split at a
  ·exact Ar f r _ K a
  ·exact a.elim
theorem Lv (ti:TI) (n:Nat) (f:Nat->List PV) (a e:PV) (ok:Bool):One (λK=>cZ (js ti a a).isSome (∃r b,K6 ti f n a e r b/\match ok with
  | true=>K (.eC [r,.bool b])
  | false=>force r K)):=ff (λK g=>by
 obtain⟨r,b,hm,d⟩:=g;cases ok with
 | true=>exact⟨_,d,λh c=>⟨r,b,hm,c⟩⟩
 | false=>exact⟨_,bG d,λh c=>⟨r,b,hm,gO c⟩⟩)
theorem Dj (T:lS) (op:Op) (env:Env) (h:List ai):One (bU T op env h):=λK l=>by
 cases op with
 | move x=>exact nV _ K l
 | assign x=>exact nV _ K l
 | pick c a b=>
  simp only[bU]at l ⊢;generalize ev env c=v at l ⊢;cases v with
  | bool t=>
   obtain⟨h1,h2⟩:=iG l;cases t with
   | true=>exact⟨_,bG (h1 rfl),λw m=>.mk (λ_=>gO m) (λh=>by cases h)⟩
   | false=>exact⟨_,bG (h2 rfl),λw m=>.mk (λh=>by cases h) (λ_=>gO m)⟩
  | _=>exact l.elim
 | binOp W t x y X=>exact Lu _ _ _ _ K l
 | unOp u t x=>
  simp only[bU]at l ⊢;generalize ev env x=v at l ⊢;cases u<;>cases v<;>first | exact l.elim | exact aO _ K l
 | load t a=>exact Ih _ _ _ _ K l
 | convert s d x=>
  simp only[bU]at l ⊢;generalize ev env x=v at l ⊢;generalize T.get s=ti at l ⊢;generalize T.get d=A at l ⊢;cases ti with
  | int k=>cases A with
   | int Y=>cases v<;>first | exact l.elim | exact aO _ K l
   | _=>cases v<;>exact l.elim
  | slice e sz b z=>cases A with
   | str=>
    simp only at l ⊢;generalize T.get e=H at l ⊢;cases H with
    | int k=>cases k<;>first | exact l.elim | exact Fo _ _ K l
    | _=>exact l.elim
   | _=>cases v<;>exact l.elim
  | _=>cases A<;>cases v<;>exact l.elim
 | nilCheck x=>
  simp only[bU]at l ⊢;generalize ev env x=v at l ⊢;cases v with
  | ez cs=>exact aO _ K l
  | aE id gen i off=>
   simp only at l ⊢;generalize cF h id=I at l ⊢;cases I with
   | row g sz n e f=>exact cz (aO _) K l
   | dead=>exact l.elim
  | _=>exact l.elim
 | fieldAddr s x k=>
  simp only[bU]at l ⊢;generalize ev env x=v at l ⊢;generalize T.get s=B at l ⊢;cases B with
  | struct sz fl z=>
   simp only at l ⊢;generalize fl[k]? =C at l ⊢;cases C with
   | none=>exact l.elim
   | some p=>
    obtain⟨o,a,b⟩:=p;cases v with
    | ez cs=>exact aO _ K l
    | aE id gen i off=>
     simp only at l ⊢;generalize cF h id=D at l ⊢;cases D with
     | row g sz n e f=>exact cz (aO _) K l
     | dead=>exact l.elim
    | _=>exact l.elim
  | _=>exact l.elim
 | field s x k=>
  simp only[bU]at l ⊢;generalize ev env x=v at l ⊢;generalize T.get s=B at l ⊢;cases B with
  | struct sz fl z=>
   simp only at l ⊢;generalize fl[k]? =C at l ⊢;cases C with
   | none=>exact l.elim
   | some p=>
    obtain⟨o,a,b⟩:=p;cases v with
    | agg cs=>
     cases b with
     | true=>
      obtain⟨h1,h2⟩:=lU _ _ _ l;exact⟨_,h2,λw m=>uL _ _ _ h1 m⟩
     | false=>
      simp only at l ⊢;generalize cs.drop o=D at l ⊢;cases D with
      | nil=>exact l.elim
      | cons c r=>exact nV c K l
    | _=>exact l.elim
  | _=>exact l.elim
 | build t parts=>
  simp only[bU]at l ⊢;generalize T.get t=J at l ⊢;cases J with
  | struct sz fl z=>exact yD _ _ _ _ _ K l
  | _=>exact l.elim
 | indexAddr t x i=>
  simp only[bU]at l ⊢;generalize ev env x=v at l ⊢;generalize ev env i=u at l ⊢;generalize T.get t=L at l ⊢;cases L with
  | slice e sz b z=>cases v with
   | eD M n f=>cases u<;>first | exact l.elim | exact ff (cz (qh λc=>aO _)) K l
   | own id gen off len=>cases u with
    | int k n=>
     simp only at l ⊢;generalize cF h id=N at l ⊢;cases N with
     | row g sz n e f=>exact cz (ff (cz (qh λj=>aO _))) K l
     | dead=>exact l.elim
    | _=>exact l.elim
   | _=>cases u<;>exact l.elim
  | _=>cases v<;>cases u<;>exact l.elim
 | index t x i=>
  simp only[bU]at l ⊢;generalize ev env x=v at l ⊢;generalize ev env i=u at l ⊢;generalize T.get t=O at l ⊢;cases O with
  | str=>cases v with
   | str s=>cases u<;>first | exact l.elim | exact cz (qh λc=>aO _) K l
   | _=>cases u<;>exact l.elim
  | _=>cases v<;>cases u<;>exact l.elim
 | extract x i=>
  simp only[bU]at l ⊢;generalize ev env x=v at l ⊢;cases v with
  | eC vs=>
   simp only at l ⊢;generalize vs[i]? =P at l ⊢;cases P with
   | none=>exact l.elim
   | some u=>exact nV _ K l
  | _=>exact l.elim
 | makeFunc fn first captured=>
  cases fn with
  | func f=>exact ff (Ar f _ _) K l
  | _=>exact l.elim
 | lookup t x i ok=>
  simp only[bU]at l ⊢;generalize ev env x=v at l ⊢;generalize T.get t=E at l ⊢;cases E with
  | map kt Q G=>cases v with
   | kC id=>
    simp only at l ⊢;generalize cF h id=F at l ⊢;cases F with
    | row g sz n e f=>
     obtain⟨u,h2,R⟩:=Lv (T.get kt) n f (ev env i) G ok K (bG l);exact⟨u,h2,λw m=>gO (R w m)⟩
    | dead=>exact l.elim
   | _=>exact l.elim
  | _=>cases v<;>exact l.elim
 | slice t x lo hi Z=>
  simp only[bU]at l ⊢;generalize ev env x=v at l ⊢;generalize T.get t=S at l ⊢;cases S with
  | slice e sz b z=>cases v with
   | eD M n f=>exact ff (cz (yB (rW _ _ _))) K l
   | own id gen off len=>
    simp only at l ⊢;generalize cF h id=U at l ⊢;cases U with
    | row g sz n e f=>exact cz (ff (cz (yB (rW _ _ _)))) K l
    | dead=>exact l.elim
   | _=>exact l.elim
  | str=>cases v with
   | str s=>exact ff (yB (rW _ _ _)) K l
   | _=>exact l.elim
  | _=>cases v<;>exact l.elim
 | call c=>
  obtain⟨callee,args,ts⟩:=c;cases callee with
  | builtin b=>
   cases b with
   | len=>
    simp only[bU]at l ⊢;split at l
    ·rename_i x t hx ht;generalize ev env x=v at l ⊢;generalize T.get t=V at l ⊢;cases V with
     | slice e sz b z=>cases v with
      | eD a n f=>exact aO _ K l
      | aF=>exact aO _ K l
      | own id gen off n=>
       simp only at l ⊢;generalize cF h id=q at l ⊢;cases q with
       | row g sz n e f=>exact cz (aO _) K l
       | dead=>exact l.elim
      | _=>exact l.elim
     | str=>cases v<;>first | exact l.elim | exact aO _ K l
     | map kt Q G=>cases v with
      | kC id=>
       simp only at l ⊢;generalize cF h id=q at l ⊢;cases q with
       | row g sz n e f=>exact aO _ K l
       | dead=>exact l.elim
      | _=>exact l.elim
     | _=>cases v<;>exact l.elim
    ·exact l.elim
   | _=>exact l.elim
  | _=>exact l.elim
 | _=>exact l.elim
theorem mi {v:PV} {K a:PV->Prop} (b:∀v,K v->a v) (h:force v K):force v a:=gO (b _ (bG h))
theorem dy {b:Bool} {K a:Prop} (c:K->a) (h:cZ b K):cZ b a:=by cases b;exact h;exact c h
theorem vm {env:Env} {sz:Nat} {K a:List (List PV)->Prop} (b:∀l,K l->a l):∀(l:List (Nat×Operand)) (acc:List (List PV)),nv env sz K l acc->nv env sz a l acc
 | [],acc,h=>b _ h
 | (k,x)::r,acc,h=>mi (λv h=>dy (vm b r _) h) h
theorem Au {x:PV} {h:List ai} {sz:Nat} {K b:Nat->(Nat->List PV)->Prop} (a:∀n g,K n g->b n g) (hp:E4 x h sz K):E4 x h sz b:=by
 cases x with
 | aF=>exact a _ _ hp
 | eD c m g=>exact dy (a _ _) hp
 | own id gen off m=>
  simp only[E4]at hp ⊢;generalize cF h id=q at hp ⊢;cases q with
  | row g c n e f=>exact⟨hp.1,hp.2.1,dy (a _ _) hp.2.2⟩
  | dead=>exact hp
 | str s=>exact dy (a _ _) hp
 | _=>exact hp
theorem BI {e sz bytes:Nat} {s x:PV} {h:List ai} {K d:PV->List ai->Prop} (i:∀v h',K v h'->d v h') (hp:qu e sz bytes s x h K):qu e sz bytes s x h d:=by
 cases s with
 | aF=>
  simp only[qu]at hp ⊢;exact Au (λm g ⟨h,a,b,c,e2,h2⟩=>⟨h,a,b,c,e2,i _ _ h2⟩) hp
 | own id gen off len=>
  simp only[qu]at hp ⊢;generalize cF h id=q at hp ⊢;cases q with
  | row g j n k f=>exact⟨hp.1,dy (Au (λm g ⟨h,a,b,c,e2,h2⟩=>⟨h,a,b,c,e2,i _ _ h2⟩)) hp.2⟩
  | dead=>exact hp
 | _=>exact hp
theorem Fp {e sz bytes:Nat} {s x:PV} {h:List ai} {K a:PV->List ai->Prop} (b:∀v h',K v h'->a v h') (hp:C9 e sz bytes s x h K):C9 e sz bytes s x h a:=by
 unfold C9 at hp ⊢;split at hp
 ·split at hp
  ·exact⟨hp.1,dy (λq=>⟨q.1,b _ _ q.2⟩) hp.2⟩
  ·exact hp
 ·split at hp
  ·split at hp
   ·exact⟨hp.1,hp.2.1,dy (λq=>⟨q.1,b _ _ q.2⟩) hp.2.2⟩
   ·exact hp
  ·exact hp
 ·exact aen
theorem E6.mono {e sz bytes:Nat} {s x:PV} {h:List ai} {K a:PV->List ai->Prop} (b:∀v h',K v h'->a v h') (hp:E6 e sz bytes s x h K):E6 e sz bytes s x h a:=by
 cases hp with
 | dS hp=>exact .dS (BI b hp)
 | move hp=>exact .move (Fp b hp)
theorem nW {T:lS} {op:Op} {env:Env} {h:List ai} {K a:PV->Prop} (b:∀v,K v->a v) (hp:bU T op env h K):bU T op env h a:=
 let⟨v,h1,h2⟩:=Dj T op env h K hp
 h2 a (b v h1)
theorem Lw {P:Program} {T:lS} {env:Env} {h:List ai} {K B:PV->List ai->Prop} (j:∀v h',K v h'->B v h') (op:Op) (hp:pop P T op env h K):pop P T op env h B:=by
 cases op with
 | store t a x=>
  simp only[pop]at hp ⊢;generalize ev env a=v at hp ⊢;cases v with
  | aE id gen i off=>
   simp only at hp ⊢;generalize cF h id=q at hp ⊢;cases q with
   | row g sz n e f=>exact⟨hp.1,mi (λv h=>dy (λ⟨c,o,p,e2,h2⟩=>⟨c,o,p,e2,j _ _ h2⟩) h) hp.2⟩
   | dead=>exact hp
  | _=>exact hp
 | box t x=>
  simp only[pop]at hp ⊢;exact mi (λv h=>dy (j _ _) h) hp
 | alloc t=>
  simp only[pop]at hp ⊢;generalize xB (T.get t)=q at hp ⊢;cases q<;>first | exact hp | exact j _ _ hp
 | makeSlice t l c=>
  simp only[pop]at hp ⊢;generalize T.get t=q at hp ⊢;generalize ev env l=u at hp ⊢;generalize ev env c=v at hp ⊢;cases q with
  | slice e sz b z=>cases u with
   | int k n=>cases v with
    | int E m=>(obtain⟨h,w,o,p,e2,h2⟩:=hp;exact⟨h,w,o,p,e2,j _ _ h2⟩)
    | _=>exact hp
   | _=>cases v<;>exact hp
  | _=>cases u<;>cases v<;>exact hp
 | buildSlice t len parts=>
  simp only[pop]at hp ⊢;generalize T.get t=q at hp ⊢;cases q with
  | slice e sz b z=>exact dy (vm (λ_ ⟨o,p,h2⟩=>⟨o,p,j _ _ h2⟩) _ _) hp
  | _=>exact hp
 | convert s d x=>
  simp only[pop]at hp ⊢;split at hp
  ·split at hp
   ·exact let⟨o,p,h2⟩:=hp;⟨o,p,j _ _ h2⟩
   ·exact hp
  ·exact nW (λv=>j v h) hp
 | binOp F t x y ty=>
  simp only[pop]at hp ⊢;split at hp
  ·exact⟨λh0=>j _ _ (hp.1 h0),j _ _ hp.2⟩
  ·exact nW (λv=>j v h) hp
 | makeMap t r=>
  cases r with
  | none=>
   simp only[pop]at hp ⊢;generalize T.get t=q at hp ⊢;cases q with
   | map k e z=>exact let⟨o,h2⟩:=hp;⟨o,j _ _ h2⟩
   | _=>exact hp
  | some r=>exact hp
 | mapUpdate t m k x=>
  simp only[pop]at hp ⊢;generalize T.get t=q at hp ⊢;generalize ev env m=v at hp ⊢;cases q with
  | map kt G z=>cases v with
   | kC id=>
    simp only at hp ⊢;generalize cF h id=q2 at hp ⊢;cases q2 with
    | row g sz n e f=>exact mi (λH h=>mi (λI h=>dy (λ⟨w,o,p,h2⟩=>⟨w,o,p,j _ _ h2⟩) h) h) hp
    | dead=>exact hp
   | _=>exact hp
  | _=>cases v<;>exact hp
 | call c=>
  obtain⟨callee,args,J⟩:=c;cases callee with
  | value D=>
   simp only[pop]at hp ⊢;generalize ev env D=v at hp ⊢;cases v with
   | fn f=>exact dy (λ⟨R,h1,h2⟩=>⟨R,h1,λres h' A=>j _ _ (h2 res h' A)⟩) hp
   | lv f bq=>exact dy (λ⟨R,h1,h2⟩=>⟨R,h1,λres h' A=>j _ _ (h2 res h' A)⟩) hp
   | _=>exact hp
  | builtin b=>
   cases b with
   | append=>
    simp only[pop]at hp ⊢;split at hp
    ·rename_i s x t tx L M;generalize T.get t=q at hp ⊢;generalize T.get tx=C at hp ⊢;cases q with
     | slice e sz b z=>cases C<;>first | exact hp | exact E6.mono j hp
     | _=>cases C<;>exact hp
    ·exact hp
   | len=>(simp only[pop]at hp ⊢;exact nW (λv=>j v h) hp)
   | _=>exact hp
  | _=>exact hp
 | _=>(simp only[pop]at hp ⊢;exact nW (λv=>j v h) hp)
theorem Lx {env env':Env} {args:Array Operand} (hs:∀x,x∈args.toList->ev env x=ev env' x):args.toList.map (ev env)=args.toList.map (ev env'):=
 List.map_congr_left hs
theorem N6 {env env':Env} {l:List Operand} (hs:∀x,x∈l->ev env x=ev env' x):l.all (λx=>kj (ev env x))=l.all (λx=>kj (ev env' x)):=by
 induction l with
 | nil=>rfl
 | cons a r b=>simp only[acK,hs a aeR,b (λx c=>hs x (abz _ c))]
theorem N7 {P:Program} {T:lS} {env env':Env} {h:List ai} {K:PV->List ai->Prop} (op:Op) (hs:Fl env env' op):pop P T op env h K=pop P T op env' h K:=by
 cases op with
 | store t a x=>simp only[pop,hs a aeS,hs x aeS]
 | box t x=>simp only[pop,hs x aeS]
 | alloc t=>rfl
 | makeSlice t l c=>simp only[pop,hs l aeS,hs c aeS]
 | buildSlice t len parts=>
  have e:∀sz (K:List (List PV)->Prop) z,nv env sz K parts.toList z=nv env' sz K parts.toList z:=λsz K z=>yA _ _ (λp hp=>hs p.2 afp);simp only[pop,e]
 | convert s d x=>simp only[pop,bU,hs x aeS]
 | binOp o t x y ty=>simp only[pop,bU,hs x aeS,hs y aeS]
 | makeMap t r=>cases r<;>rfl
 | mapUpdate t m k x=>simp only[pop,hs m aeS,hs k aeS,hs x aeS]
 | call c=>
  obtain⟨callee,args,q⟩:=c;cases callee with
  | value j=>
   have n:=hs j (by simp [Op.operands,Call.operands]);have f:∀x,x∈args.toList->ev env x=ev env' x:=λx g=>hs x (by simp [Op.operands,Call.operands];right;simpa using g);simp only[pop,n,Lx f,N6 f]
  | builtin b=>
   have f:∀x,x∈args.toList->ev env x=ev env' x:=λx g=>hs x (by simp [Op.operands,Call.operands];simpa using g);cases b with
   | append=>
    simp only[pop];split
    ·rename_i s x t tx i u;rw[f s (by rw[i];simp),f x (by rw[i];simp)]
    ·rfl
   | len=>(simp only[pop];exact tI _ hs)
   | _=>rfl
  | _=>rfl
 | _=>(simp only[pop];exact tI _ hs)
section
variable {P:Program}{T:lS}
def fs (P:Program) (T:lS) (all:List Oper) (st:Bool) (o:Oper) (G:PV->List ai->Prop) (env:Env) (h:List ai):Prop:=
 match o.guard with
 | none=>zk P T st o.op env h G
 | some (j,want)=>match(all[j]?).bind (·.dst)with
  | some t=>match env t with
   | .bool b=>match b==want with
    | true=>zk P T st o.op env h G
    | false=>G (.eC []) h
   | .eC []=>G (.eC []) h
   | _=>False
  | none=>False
theorem wv {env:Env} {t:Nat} {v:PV} (h:env t=v):mr env t v=env:=by
 funext j;unfold mr;cases a:Nat.beq j t with
 | true=>rw[abo a,<-h];rfl
 | false=>rfl
theorem Av {st:Bool} {op:Op} {env:Env} {h:List ai} {G a:PV->List ai->Prop} (b:∀v h',G v h'->a v h') (hp:zk P T st op env h G):zk P T st op env h a:=by
 cases st with
 | true=>exact nW (λv=>b v h) hp
 | false=>exact Lw b _ hp
theorem gn {all:List Oper} {st:Bool} {o:Oper} {env:Env} {h:List ai} {G f:PV->List ai->Prop} (e:∀v h',G v h'->f v h') (hp:fs P T all st o G env h):fs P T all st o f env h:=by
 unfold fs at hp ⊢;generalize o.guard=g at hp ⊢;cases g with
 | none=>exact Av e hp
 | some q=>
  obtain⟨j,want⟩:=q;simp only at hp ⊢;generalize(all[j]?).bind (·.dst)=d at hp ⊢;cases d with
  | none=>exact hp
  | some t=>
   simp only at hp ⊢;generalize env t=v at hp ⊢;cases v with
   | bool b=>
    simp only at hp ⊢;generalize(b==want)=c at hp ⊢;cases c with
    | true=>exact Av e hp
    | false=>exact e _ _ hp
   | eC l=>cases l with
    | nil=>exact e _ _ hp
    | cons a r=>exact hp
   | _=>exact hp
theorem mO {all:List Oper} {st:Bool} {o:Oper} {F:Env->PV->List ai->Prop} {env:Env} {h:List ai} (hp:rk P T all st o F env h):fs P T all st o (F env) env h:=by
 unfold rk at hp;unfold fs;generalize o.guard=g at hp ⊢;cases g with
 | none=>exact hp
 | some q=>
  obtain⟨j,want⟩:=q;simp only at hp ⊢;generalize(all[j]?).bind (·.dst)=d at hp ⊢;cases d with
  | none=>exact hp
  | some t=>
   simp only at hp ⊢;generalize hv:env t=v at hp ⊢;cases v with
   | bool b=>
    simp only at hp ⊢;obtain⟨h1,h2⟩:=iG hp;cases b with
    | true=>
     have h1:=h1 rfl;rw[wv hv]at h1;cases want<;>exact h1
    | false=>
     have h2:=h2 rfl;rw[wv hv]at h2;cases want<;>exact h2
   | eC l=>cases l with
    | nil=>exact hp
    | cons a r=>exact hp
   | _=>exact hp
theorem tJ {env env':Env} {o:Oper} {ops:Array Oper} (a:∀t,t∈o.looksAt ops->env t=env' t):Fl env env' o.op:=λx b=>by
 cases x with
 | tmp t=>exact a t (by unfold Oper.looksAt;rw[aby];left;rw[List.mem_filterMap];exact⟨_,b,rfl⟩)
 | _=>rfl
theorem oJ {env env':Env} {o:Oper} {ops:Array Oper} (b:∀t,t∈o.looksAt ops->env t=env' t) {j:Nat} {w:Bool} (hg:o.guard=some (j,w)) {t:Nat} (a:(ops.toList[j]?).bind (·.dst)=some t):env t=env' t:=
 b t (by
  unfold Oper.looksAt;rw[aby,hg];right;have:ops.toList[j]? =ops[j]?:=by simp
  rw[this]at a;show t∈((ops[j]?).bind (·.dst)).toList;rw[a];simp)
theorem Ly {ops:Array Oper} {st:Bool} {o:Oper} {G:PV->List ai->Prop} {env env':Env} {h:List ai} (a:∀t,t∈o.looksAt ops->env t=env' t) (hp:fs P T ops.toList st o G env h):fs P T ops.toList st o G env' h:=by
 have b:zk P T st o.op env h G=zk P T st o.op env' h G:=by
  cases st with
  | true=>exact tI _ (tJ a)
  | false=>exact N7 _ (tJ a)
 unfold fs at hp ⊢;cases hg:o.guard with
 | none=>rw[hg]at hp;simp only at hp ⊢;rw[<-b];exact hp
 | some q=>
  obtain⟨j,want⟩:=q;rw[hg]at hp;simp only at hp ⊢;cases hd:(ops.toList[j]?).bind (·.dst)with
  | none=>rw[hd]at hp;exact hp
  | some t=>
   rw[hd]at hp;simp only at hp ⊢;rw[<-oJ a hg hd,<-b];exact hp
theorem tK {α β:Type} {f g:α->List β}:∀(l:List α),(∀x,x∈l->f x=g x)->l.flatMap f=l.flatMap g
 | [],_=>rfl
 | a::r,h=>by rw[ade,ade,h a aeR,tK r (λx b=>h x (abz _ b))]
theorem yE (env:Env) (op:Op):(∃x,op=.move x)\/kA env op=op.operands.toList.flatMap (λx=>oW (ev env x)):=by
 cases op<;>first | exact .inl ⟨_,rfl⟩ | exact .inr rfl
theorem Fq {T:lS} {env:Env} {h h':List ai} {K:PV->Prop} {op:Op} (hi:∀id,id∈kA env op->cF h id=cF h' id):bU T op env h K=bU T op env h' K:=by
 rcases yE env op with⟨x,rfl⟩ | e
 ·rfl
 ·exact Ig op (λx a id hid=>hi id (by rw[e,List.mem_flatMap];exact⟨x,a,hid⟩))
theorem yF {env env':Env} {op:Op} (hs:∀x,x∈op.operands.toList->ev env x=ev env' x):kA env' op=kA env op:=by
 rcases yE env op with⟨x,rfl⟩ | e
 ·rfl
 ·rcases yE env' op with⟨x,rfl⟩ | a
  ·rfl
  ·rw[e,a];exact tK _ (λx b=>by rw[hs x b])
theorem BJ {ops:Array Oper} {o:Oper} {G:PV->List ai->Prop} {env:Env} {h:List ai} (hp:fs P T ops.toList true o G env h):
  ∃v,G v h/\∀(env':Env) (h':List ai) (c:PV->List ai->Prop),(∀t,t∈o.looksAt ops->env t=env' t)->(∀id,id∈kA env o.op->cF h id=cF h' id)->c v h'->fs P T ops.toList true o c env' h':=by
 have run:bU T o.op env h (λv=>G v h)->∃v,G v h/\∀(env':Env) (h':List ai) (c:PV->List ai->Prop),(∀t,t∈o.looksAt ops->env t=env' t)->(∀id,id∈kA env o.op->cF h id=cF h' id)->c v h'->bU T o.op env' h' (λv=>c v h'):=λhs=>by
  obtain⟨v,h1,h2⟩:=Dj T o.op env h _ hs;refine⟨v,h1,λenv' h' c d hi hg=>?_⟩;rw[<-tI o.op (tJ d),<-Fq (op:=o.op) hi];exact h2 _ hg
 unfold fs at hp;cases hg:o.guard with
 | none=>
  rw[hg]at hp;obtain⟨v,h1,h2⟩:=run hp;refine⟨v,h1,λenv' h' c d hi e=>?_⟩;unfold fs;rw[hg];exact h2 env' h' c d hi e
 | some q=>
  obtain⟨j,want⟩:=q;rw[hg]at hp;simp only at hp;cases hd:(ops.toList[j]?).bind (·.dst)with
  | none=>rw[hd]at hp;exact hp.elim
  | some t=>
   rw[hd]at hp;simp only at hp;cases hv:env t with
   | bool b=>
    rw[hv]at hp;simp only at hp;cases hc:(b==want)with
    | true=>
     rw[hc]at hp;obtain⟨v,h1,h2⟩:=run hp;refine⟨v,h1,λenv' h' c d hi e=>?_⟩;unfold fs;rw[hg];simp only;rw[hd];simp only;rw[<-oJ d hg hd,hv];simp only;rw[hc];exact h2 env' h' c d hi e
    | false=>
     rw[hc]at hp;refine⟨_,hp,λenv' h' c d hi e=>?_⟩;unfold fs;rw[hg];simp only;rw[hd];simp only;rw[<-oJ d hg hd,hv];simp only;rw[hc];exact e
   | eC l=>
    rw[hv]at hp;cases l with
    | nil=>
     refine⟨_,hp,λenv' h' c d hi e=>?_⟩;unfold fs;rw[hg];simp only;rw[hd];simp only;rw[<-oJ d hg hd,hv];exact e
    | cons a r=>exact hp.elim
   | _=>rw[hv]at hp;exact hp.elim
def Fe (P:Program) (T:lS) (all:List Oper) (t:List (Nat×List Nat)) (K:Env->List ai->Prop):List (Nat×Bool)->List (Nat×List Nat)->Env->List ai->Prop
 | [],_,env,h=>K env h
 | (i,st)::r,a,env,h=>∃o,all[i]? =some o/\fs P T all st o (λv h'=>match st with
   | true=>Fe P T all t K r ((i,kA env o.op)::a) (dF env o.dst v) h'
   | false=>(∀j ids,(j,ids)∈a->lx (eA t i) j=false->∀id,id∈ids->cF h id=cF h' id)/\Fe P T all t K r a (dF env o.dst v) h') env h
theorem tL {h h':List ai} {K:Prop}:∀(ids:List Nat),BH h h' K ids->(∀id,id∈ids->cF h id=cF h' id)/\K
 | [],b=>⟨λid hid=>by simp at hid,b⟩
 | a::r,b=>by
  obtain⟨h1,h2⟩:=tL r b.2;refine⟨λid hid=>?_,h2⟩;simp only[abE]at hid;rcases hid with rfl | hid
  ·exact b.1
  ·exact h1 id hid
theorem lJ {d:List Nat} {h h':List ai} {K:Prop}:∀(f:List (Nat×List Nat)),mN d h h' K f->(∀j ids,(j,ids)∈f->lx d j=false->∀id,id∈ids->cF h id=cF h' id)/\K
 | [],b=>⟨λj ids hj=>by simp at hj,b⟩
 | (a,l)::r,b=>by
  unfold mN at b;cases e:lx d a with
  | true=>
   rw[e]at b;obtain⟨h1,h2⟩:=lJ r b;refine⟨λj ids hj c=>?_,h2⟩;simp only[abE]at hj;rcases hj with hj | hj
   ·injection hj with g e2;subst g;rw[e]at c;cases c
   ·exact h1 j ids hj c
  | false=>
   rw[e]at b;obtain⟨q1,q2⟩:=tL l b;obtain⟨h1,h2⟩:=lJ r q2;refine⟨λj ids hj c=>?_,h2⟩;simp only[abE]at hj;rcases hj with hj | hj
   ·injection hj with g e2;subst e2;exact q1
   ·exact h1 j ids hj c
theorem nU {all:List Oper} {t:List (Nat×List Nat)} {K:Env->List ai->Prop}:∀(l:List (Nat×Bool)) (a:List (Nat×List Nat)) (env:Env) (h:List ai),fw P T all t K l a env h->Fe P T all t K l a env h
 | [],_,_,_,hp=>hp
 | (i,true)::r,a,env,h,hp=>by
  have hp:(match all[i]? with
   | some o=>rk P T all true o (λenv' v h'=>fw P T all t K r ((i,kA env' o.op)::a) (dF env' o.dst v) h') env h
   | none=>False):=hp
  cases b:all[i]? with
  | none=>rw[b]at hp;exact hp.elim
  | some o=>
   rw[b]at hp;exact⟨o,b,gn (λv h' c=>nU r _ _ _ c) (mO hp)⟩
 | (i,false)::r,a,env,h,hp=>by
  have hp:(match all[i]? with
   | some o=>rk P T all false o (λenv' v h'=>mN (eA t i) h h' (fw P T all t K r a (dF env' o.dst v) h') a) env h
   | none=>False):=hp
  cases b:all[i]? with
  | none=>rw[b]at hp;exact hp.elim
  | some o=>
   rw[b]at hp;refine⟨o,b,gn (λv h' c=>?_) (mO hp)⟩;obtain⟨h1,h2⟩:=lJ _ c;exact⟨h1,nU r _ _ _ h2⟩
theorem tM {all:List Oper} {t:List (Nat×List Nat)} {K:Env->List ai->Prop}:∀(l:List (Nat×Bool)) (a b:List (Nat×List Nat)) (env:Env) (h:List ai),(∀x,x∈b->x∈a)->Fe P T all t K l a env h->Fe P T all t K l b env h
 | [],_,_,_,_,_,hp=>hp
 | (i,st)::r,a,b,env,h,hs,hp=>by
  obtain⟨o,e,hp⟩:=hp;refine⟨o,e,gn (λv h' c=>?_) hp⟩;cases st with
  | true=>exact tM r _ _ _ _ (λx d=>by simp only[abE]at d ⊢;exact d.imp id (hs x)) c
  | false=>exact⟨λj ids hj=>c.1 j ids (hs _ hj),tM r _ _ _ _ hs c.2⟩
theorem Aw {env:Env} {d e:Option Nat} {u v:PV} (b:∀x,d=some x->e≠some x):dF (dF env d u) e v=dF (dF env e v) d u:=by
 cases d with
 | none=>rfl
 | some x=>
  cases e with
  | none=>rfl
  | some y=>
   have a:x≠y:=λhe=>b x rfl (by rw[he]);funext j;simp only[dF,mr];cases h1:Nat.beq j y with
   | true=>
    have:=abo h1;subst this;cases h2:Nat.beq j x with
    | true=>exact absurd (abo h2).symm a
    | false=>rfl
   | false=>cases h2:Nat.beq j x<;>rfl
theorem qD {env:Env} {d:Option Nat} {v:PV} {l:List Nat} (a:∀x,d=some x->x∉l):∀t,t∈l->env t=dF env d v t:=λt b=>by
 cases d with
 | none=>rfl
 | some x=>
  have:t≠x:=λhe=>a x rfl (he▸b);simp only[dF,mr];cases h2:Nat.beq t x with
  | true=>exact absurd (abo h2) this
  | false=>rfl
theorem Df {ops:Array Oper} {t:List (Nat×List Nat)} {K:Env->List ai->Prop} {i:Nat} {st:Bool} {b:Oper} (m:ops.toList[i]? =some b):
  ∀(l1 f:List (Nat×Bool)) (g:List (Nat×List Nat)) (env:Env) (h:List ai),(∀p,p∈l1->p.2=true/\lx (eA t i) p.1=false/\qA ops p.1 i=true)->Fe P T ops.toList t K (l1++(i,st)::f) g env h->
   fs P T ops.toList st b (λv h'=>(st=true->h'=h)/\(st=false->∀j ids,(j,ids)∈g->lx (eA t i) j=false->∀id,id∈ids->cF h id=cF h' id)/\Fe P T ops.toList t K (l1++f) g (dF env b.dst v) h') env h
 | [],f,g,env,h,_,hp=>by
  obtain⟨o,e,hp⟩:=hp;rw[m]at e;injection e with e;subst e;cases st with
  | true=>
   obtain⟨v,h1,h2⟩:=BJ hp;exact h2 env h _ (λ_ _=>rfl) (λ_ _=>rfl) ⟨λ_=>rfl,λhc=>Bool.noConfusion hc,tM _ _ _ _ _ (λx k=>abz _ k) h1⟩
  | false=>exact gn (λv h' c=>⟨λhc=>Bool.noConfusion hc,λ_=>c.1,c.2⟩) hp
 | (a,w)::l1,f,g,env,h,r,hp=>by
  obtain⟨h1,h2,l⟩:=r (a,w) aeR;simp only at h1 h2 l;subst h1;obtain⟨o,e,hp⟩:=hp
  have n:Oper.apart ops o b=true:=by
   unfold qA at l;have y:ops[a]? =some o:=by simpa using e
   have e2:ops[i]? =some b:=by simpa using m
   rw[y,e2]at l;exact l
  obtain⟨z,A,B⟩:=Oper.apart_spec n;obtain⟨u,C,D⟩:=BJ hp;have E:=Df m l1 f _ _ h (λp hp=>r p (abz _ hp)) C;have q:=Ly (env':=env) (λx k=>(qD (λd hd=>z d hd) x k).symm) E;refine gn (λv h' c=>⟨c.1,λhc j ids hj=>c.2.1 hc j ids (abz _ hj),?_⟩) q
  have F:∀id,id∈kA env o.op->cF h id=cF h' id:=λid hid=>by
   cases st with
   | true=>rw[c.1 rfl]
   | false=>exact c.2.1 rfl a _ aeR h2 id hid
  have s:∀x,x∈o.looksAt ops->env x=dF env b.dst v x:=qD (λd hd=>B d hd);refine⟨o,e,D _ h' _ s F ?_⟩
  have G:kA (dF env b.dst v) o.op=kA env o.op:=by
   exact yF (tJ s)
  simp only;rw[G,Aw (λx k=>(λhe=>A x he k):∀x,b.dst=some x->o.dst≠some x)];exact c.2.2
def jO (P:Program) (T:lS) (all:List Oper) (t:List (Nat×List Nat)) (E:List (Nat×List Nat)->Env->List ai->Prop):List (Nat×Bool)->List (Nat×List Nat)->Env->List ai->Prop
 | [],a,env,h=>E a env h
 | (i,st)::r,a,env,h=>∃o,all[i]? =some o/\fs P T all st o (λv h'=>match st with
   | true=>jO P T all t E r ((i,kA env o.op)::a) (dF env o.dst v) h'
   | false=>(∀j ids,(j,ids)∈a->lx (eA t i) j=false->∀id,id∈ids->cF h id=cF h' id)/\jO P T all t E r a (dF env o.dst v) h') env h
def oV (E:List (Nat×List Nat)->Env->List ai->Prop):Prop:=∀(a b:List (Nat×List Nat)) (env:Env) (h:List ai),(∀x,x∈b->x∈a)->E a env h->E b env h
theorem qE {all:List Oper} {t:List (Nat×List Nat)} {E:List (Nat×List Nat)->Env->List ai->Prop} (c:oV E):∀(l:List (Nat×Bool)) (a b:List (Nat×List Nat)) (env:Env) (h:List ai),(∀x,x∈b->x∈a)->jO P T all t E l a env h->jO P T all t E l b env h
 | [],a,b,_,_,hs,hp=>c a b _ _ hs hp
 | (i,st)::r,a,b,env,h,hs,hp=>by
  obtain⟨o,f,hp⟩:=hp;refine⟨o,f,gn (λv h' d=>?_) hp⟩;cases st with
  | true=>exact qE c r _ _ _ _ (λx e=>by simp only[abE]at e ⊢;exact e.imp id (hs x)) d
  | false=>exact⟨λj ids hj=>d.1 j ids (hs _ hj),qE c r _ _ _ _ hs d.2⟩
theorem qB {ops:Array Oper} {t:List (Nat×List Nat)} {E:List (Nat×List Nat)->Env->List ai->Prop} (r:oV E) {i:Nat} {st:Bool} {b:Oper} (m:ops.toList[i]? =some b):
  ∀(l1 f:List (Nat×Bool)) (g:List (Nat×List Nat)) (env:Env) (h:List ai),(∀p,p∈l1->p.2=true/\lx (eA t i) p.1=false/\qA ops p.1 i=true)->jO P T ops.toList t E (l1++(i,st)::f) g env h->
   fs P T ops.toList st b (λv h'=>(st=true->h'=h)/\(st=false->∀j ids,(j,ids)∈g->lx (eA t i) j=false->∀id,id∈ids->cF h id=cF h' id)/\jO P T ops.toList t E (l1++f) g (dF env b.dst v) h') env h
 | [],f,g,env,h,_,hp=>by
  obtain⟨o,e,hp⟩:=hp;rw[m]at e;injection e with e;subst e;cases st with
  | true=>
   obtain⟨v,h1,h2⟩:=BJ hp;exact h2 env h _ (λ_ _=>rfl) (λ_ _=>rfl) ⟨λ_=>rfl,λhc=>Bool.noConfusion hc,qE r _ _ _ _ _ (λx k=>abz _ k) h1⟩
  | false=>exact gn (λv h' c=>⟨λhc=>Bool.noConfusion hc,λ_=>c.1,c.2⟩) hp
 | (a,y)::l1,f,g,env,h,s,hp=>by
  obtain⟨h1,h2,l⟩:=s (a,y) aeR;simp only at h1 h2 l;subst h1;obtain⟨o,e,hp⟩:=hp
  have n:Oper.apart ops o b=true:=by
   unfold qA at l;have z:ops[a]? =some o:=by simpa using e
   have e2:ops[i]? =some b:=by simpa using m
   rw[z,e2]at l;exact l
  obtain⟨A,B,C⟩:=Oper.apart_spec n;obtain⟨u,D,F⟩:=BJ hp;have G:=qB r m l1 f _ _ h (λp hp=>s p (abz _ hp)) D;have q:=Ly (env':=env) (λx k=>(qD (λd hd=>A d hd) x k).symm) G;refine gn (λv h' c=>⟨c.1,λhc j ids hj=>c.2.1 hc j ids (abz _ hj),?_⟩) q
  have H:∀id,id∈kA env o.op->cF h id=cF h' id:=λid hid=>by
   cases st with
   | true=>rw[c.1 rfl]
   | false=>exact c.2.1 rfl a _ aeR h2 id hid
  have w:∀x,x∈o.looksAt ops->env x=dF env b.dst v x:=qD (λd hd=>C d hd);refine⟨o,e,F _ h' _ w H ?_⟩
  have I:kA (dF env b.dst v) o.op=kA env o.op:=by
   exact yF (tJ w)
  simp only;rw[I,Aw (λx k=>(λhe=>B x he k):∀x,b.dst=some x->o.dst≠some x)];exact c.2.2
theorem qf {all:List Oper} {t:List (Nat×List Nat)} {E:List (Nat×List Nat)->Env->List ai->Prop} {c:List (Nat×Bool)}:∀(l:List (Nat×Bool)) (a:List (Nat×List Nat)) (env:Env) (h:List ai),jO P T all t (λa env h=>jO P T all t E c a env h) l a env h->jO P T all t E (l++c) a env h
 | [],_,_,_,hp=>hp
 | (i,st)::r,a,env,h,hp=>by
  obtain⟨o,d,hp⟩:=hp;refine⟨o,d,gn (λv h' b=>?_) hp⟩;cases st with
  | true=>exact qf r _ _ _ b
  | false=>exact⟨b.1,qf r _ _ _ b.2⟩
theorem tH {all:List Oper} {t:List (Nat×List Nat)} {E c:List (Nat×List Nat)->Env->List ai->Prop} (hi:∀a env h,E a env h->c a env h):∀(l:List (Nat×Bool)) (a:List (Nat×List Nat)) (env:Env) (h:List ai),jO P T all t E l a env h->jO P T all t c l a env h
 | [],_,_,_,hp=>hi _ _ _ hp
 | (i,st)::r,a,env,h,hp=>by
  obtain⟨o,d,hp⟩:=hp;refine⟨o,d,gn (λv h' b=>?_) hp⟩;cases st with
  | true=>exact tH hi r _ _ _ b
  | false=>exact⟨b.1,tH hi r _ _ _ b.2⟩
theorem qe {all:List Oper} {t:List (Nat×List Nat)} {K:Env->List ai->Prop} {c:List (Nat×Bool)}:∀(l:List (Nat×Bool)) (a:List (Nat×List Nat)) (env:Env) (h:List ai),jO P T all t (λa env h=>Fe P T all t K c a env h) l a env h->Fe P T all t K (l++c) a env h
 | [],_,_,_,hp=>hp
 | (i,st)::r,a,env,h,hp=>by
  obtain⟨o,d,hp⟩:=hp;refine⟨o,d,gn (λv h' b=>?_) hp⟩;cases st with
  | true=>exact qe r _ _ _ b
  | false=>exact⟨b.1,qe r _ _ _ b.2⟩
theorem mM {all:List Oper} {t:List (Nat×List Nat)} {E d:List (Nat×List Nat)->Env->List ai->Prop} (hi:∀a env h,E a env h->d a env h):∀(l:List (Nat×Bool)) (a:List (Nat×List Nat)) (env:Env) (h:List ai),Xw P T all t E l a env h->jO P T all t d l a env h
 | [],_,_,_,hp=>hi _ _ _ hp
 | (i,true)::r,a,env,h,hp=>by
  have hp:(match all[i]? with
   | some o=>rk P T all true o (λenv' v h'=>Xw P T all t E r ((i,kA env' o.op)::a) (dF env' o.dst v) h') env h
   | none=>False):=hp
  cases b:all[i]? with
  | none=>rw[b]at hp;exact hp.elim
  | some o=>
   rw[b]at hp;exact⟨o,b,gn (λv h' c=>mM hi r _ _ _ c) (mO hp)⟩
 | (i,false)::r,a,env,h,hp=>by
  have hp:(match all[i]? with
   | some o=>rk P T all false o (λenv' v h'=>mN (eA t i) h h' (Xw P T all t E r a (dF env' o.dst v) h') a) env h
   | none=>False):=hp
  cases b:all[i]? with
  | none=>rw[b]at hp;exact hp.elim
  | some o=>
   rw[b]at hp;refine⟨o,b,gn (λv h' c=>?_) (mO hp)⟩;obtain⟨h1,h2⟩:=lJ _ c;exact⟨h1,mM hi r _ _ _ h2⟩
theorem uJ {all:List Oper} {t:List (Nat×List Nat)} {K:Env->List ai->Prop} (l:List (Nat×Bool)):oV (λa env h=>Fe P T all t K l a env h):=λa b env h hs hp=>tM l a b env h hs hp
theorem mh {all:List Oper} {t:List (Nat×List Nat)} {E:List (Nat×List Nat)->Env->List ai->Prop} (b:oV E) (l:List (Nat×Bool)):oV (λa env h=>jO P T all t E l a env h):=λa c env h hs hp=>qE b l a c env h hs hp
theorem Aj {E b:List (Nat×List Nat)->Env->List ai->Prop} (h1:oV E) (h2:oV b):oV (λa env h=>E a env h/\b a env h):=λa c env h hs hp=>⟨h1 a c env h hs hp.1,h2 a c env h hs hp.2⟩
end
theorem aI.mono {S S':Nat->Prop} {w w':World} (hw:∀b,S b->w'.heap[b]? =w.heap[b]?) (g:∀b,S b->S' b) {pv:PV} {v:Value} (h:aI S w pv v):aI S' w' pv v:=by
 induction h with
 | int k n=>exact .int k n
 | bool b=>exact .bool b
 | str s=>exact .str s
 | aF=>exact .aF
 | fG=>exact .fG
 | fn f=>exact .fn f
 | lM sz f a c=>exact .lM sz f a c
 | eD sz n f b off c d h1 h2 l h4 _ e=>
  exact .eD sz n f b off c d (g b h1) h2 l (λi j pv hi hj=>(World.cell?_of_block (w:=w) (hw b h1)).trans (h4 i j pv hi hj)) e
 | ez cs b off d h1 h4 _ e=>
  exact .ez cs b off d (g b h1) (λj pv hj=>(World.cell?_of_block (w:=w) (hw b h1)).trans (h4 j pv hj)) e
theorem iu.of_same {w w':World} {b k:Nat} (h:w'.heap[b]? =w.heap[b]?) (hc:iu w b k):iu w' b k:=by
 obtain⟨cur,e,z,h1,h2⟩:=hc;exact⟨cur,e,z,h.trans h1,h2⟩
theorem iu.least {w:World} {b k:Nat} (h:iu w b k):iu w b 0:=by
 obtain⟨cur,e,z,h1,h2⟩:=h;exact⟨cur,e,z,h1,abY _⟩
theorem jz.mono {S S':Nat->Prop} {w w':World} (hw:∀b,S b->w'.heap[b]? =w.heap[b]?) (r:∀b,S b->S' b) {pv:PV} {v:Value} (h:jz S w pv v):
  (∀sz n e f F,pv=.eM sz n e f F->∀b,F b->w'.heap[b]? =w.heap[b]?)->jz S' w' pv v:=by
 induction h with
 | nil sz e f F d=>exactλ_=>.nil sz e f F d
 | Dc sz n e f F b off c a cur s d t hlen hc u x y z E k A B=>
  intro g;have g:=g _ _ _ _ _ rfl
  exact .Dc sz n e f F b off c a cur s d ((g b d).trans t) hlen hc u x y (λi j pv hi hj=>(z i j pv hi hj).imp_left (λq=>q.mono hw r))
   (λi j l m o p C hi hj=>B i j l m o p C hi hj (λ_ _ _ _ _ he b' D=>by
    injection he with _ _ _ _ he;subst he;exact g b' (k i j l m o p _ hi hj b' D).1)) k A
inductive OG (G:PV->Prop):PV->Prop
 | mk (sz n:Nat) (e:TypeId) (f:Nat->List PV) (F:Nat->Prop) (h1:∀(i j:Nat) (pv:PV),i<n->(f i)[j]? =some pv->dL pv=false->G pv)
   (h2:∀(i j bw n':Nat) (e':TypeId) (f':Nat->List PV) (F':Nat->Prop),i<n->(f i)[j]? =some (.eM bw n' e' f' F')->OG G (.eM bw n' e' f' F')):OG G (.eM sz n e f F)
theorem jz.og {S S':Nat->Prop} {w:World} {G:PV->Prop} (r:∀pv v,G pv->aI S w pv v->aI S' w pv v) {pv:PV} {v:Value} (h:jz S w pv v):OG G pv->jz S' w pv v:=by
 induction h with
 | nil sz e f F d=>exactλ_=>.nil sz e f F d
 | Dc sz n e f F b off c a cur s d t hlen hc u x y z D A B C=>
  intro hg;cases hg with
  | mk _ _ _ _ _ h1 h2=>
   exact .Dc sz n e f F b off c a cur s d t hlen hc u x y (λi j pv hi hj=>by
    cases g:dL pv with
    | false=>exact(z i j pv hi hj).imp_left (λq=>r pv _ (h1 i j pv hi hj g) q)
    | true=>exact .inr (by cases pv<;>first | exact⟨_,_,_,_,_,rfl⟩ | cases g)) (λi j k l m o p hi hj=>C i j k l m o p hi hj (h2 i j k l m o p hi hj)) A B
theorem jz.all {S:Nat->Prop} {w:World} {pv:PV} {v:Value} (h:jz S w pv v):OG (λ_=>True) pv:=by
 induction h with
 | nil sz e f F d=>exact .mk sz 0 e f F (λ_ _ _ _ _ _=>trivial) (λi j _ _ _ _ _ hi=>absurd hi (abR _))
 | Dc sz n e f F b off c a cur k d l hlen hc m o p q r s t g=>exact .mk sz n e f F (λ_ _ _ _ _ _=>trivial) g
theorem jz.one {S:Nat->Prop} {w:World} {pv:PV} {v:Value} (h:jz S w pv v):v.oneCell'=true:=by cases h<;>rfl
section
variable {μ μ':Mu}{h h':List ai}{S S':Nat->Prop}{w w':World}
theorem bp.ir {pv:PV} {v:Value} (hp:aI S w pv v):bp μ h S w pv v:=by
 cases hp<;>first | exact .int _ _ | exact .bool _ | exact .str _ | exact .aF | exact .fG | exact .fn _ | exact .lM _ _ _ _ | (rename_i h1 h2 a h4 b _;first | exact .eD _ _ _ _ _ _ _ ‹_› ‹_› ‹_› ‹_› ‹_›) | exact .ez _ _ _ _ ‹_› ‹_› ‹_›
theorem bp.fr (hf:Fr μ h S w μ' h' S' w') (hm:mT μ h S w) {pv:PV} {v:Value} (hc:bp μ h S w pv v):bp μ' h' S' w' pv v:=by
 have j:∀b,S b->w'.heap[b]? =w.heap[b]?:=λb z=>hf.blocks b (hm.slt b z) (λc=>hm.apart b c z)
 have A:∀(id gen i off:Nat) (v:Value),bD μ h w id gen i off v->bD μ' h' w' id gen i off v:=λid gen i off v hc=>by
  unfold bD at hc ⊢;obtain⟨l,hc⟩:=hc;refine⟨l,?_⟩;cases c:h[id]? with
  | none=>rw[c]at hc;exact hc.elim
  | some o=>
   cases o with
   | dead=>rw[hf.dead id c];trivial
   | row g sz n e f=>
    rw[c]at hc;have hg:=hf.xQ id g sz n e f c;cases d:h'[id]? with
    | none=>rw[d]at hg;exact hg
    | some r=>
     cases r with
     | dead=>trivial
     | row q B C D E=>
      rw[d]at hg;obtain⟨hle,t⟩:=hg;obtain⟨x,hc⟩:=hc;refine⟨acg x hle,λhe=>?_⟩;have heq:q=g:=by omega
      obtain⟨hμ,rfl,rfl,rfl⟩:=t heq;obtain⟨h1,h2⟩:=hc aeP;refine⟨h1,?_⟩;rw[hμ];obtain⟨b,base,q1,q2,q3⟩:=h2;exact⟨b,base,q1,⟨hf.bq b _ (.inl ⟨id,g,_,_,_,_,base,c,q1⟩) q2.1,q2.2⟩,q3⟩
 cases pv with
 | own id gen off len=>
  have hc:aN μ h w id gen off len v:=hc;show aN μ' h' w' id gen off len v;unfold aN at hc ⊢;obtain⟨l,hc⟩:=hc;refine⟨l,?_⟩;cases c:h[id]? with
  | none=>rw[c]at hc;exact hc.elim
  | some o=>
   cases o with
   | dead=>rw[hf.dead id c];trivial
   | row g sz n e f=>
    rw[c]at hc;have hg:=hf.xQ id g sz n e f c;cases d:h'[id]? with
    | none=>rw[d]at hg;exact hg
    | some r=>
     cases r with
     | dead=>trivial
     | row q B C D E=>
      rw[d]at hg;obtain⟨hle,t⟩:=hg;obtain⟨x,hc⟩:=hc;refine⟨acg x hle,λhe=>?_⟩;have heq:q=g:=by omega
      obtain⟨hμ,rfl,rfl,rfl⟩:=t heq;obtain⟨h1,h2⟩:=hc aeP;refine⟨h1,?_⟩;rw[hμ];cases y:μ id with
      | none=>rw[y]at h2;exact h2
      | some p=>
       obtain⟨b,base⟩:=p;rw[y]at h2;obtain⟨a,cap,G,h4,H,I⟩:=h2;exact⟨a,cap,G,h4,H,hf.bq b _ (.inl ⟨id,g,_,_,_,_,base,c,y⟩) I⟩
 | aE id gen i off=>exact A _ _ _ _ _ hc
 | lv f bq=>exact o8.mono (show lr μ h w f bq v from hc) (λid g u hu=>A _ _ _ _ _ hu)
 | kC id=>
  have hc:eL μ h w id v:=hc;show eL μ' h' w' id v;unfold eL at hc ⊢;obtain⟨l,hc⟩:=hc;refine⟨l,?_⟩;cases c:h[id]? with
  | none=>rw[c]at hc;exact hc.elim
  | some o=>
   cases o with
   | dead=>rw[hf.dead id c];trivial
   | row g sz n e f=>
    rw[c]at hc;obtain⟨b,base,q1,q2,q3⟩:=hc;obtain⟨r1,m⟩:=hf.maps id g sz n e f b base c q1 q2;rcases m with m | ⟨⟨q,B,C,D,E,m⟩,J⟩
    ·rw[m];trivial
    ·rw[m];exact⟨b,base,J,r1,q3⟩
 | gf=>exact hc
 | eM sz n e f F=>exact hc
 | agg cs=>exact hc.elim
 | eC cs=>exact hc.elim
 | int k n=>exact aI.mono j hf.sub hc
 | bool b=>exact aI.mono j hf.sub hc
 | str s=>exact aI.mono j hf.sub hc
 | aF=>exact aI.mono j hf.sub hc
 | fG=>exact aI.mono j hf.sub hc
 | eD sz n f=>exact aI.mono j hf.sub hc
 | ez cs=>exact aI.mono j hf.sub hc
 | fn f=>exact aI.mono j hf.sub hc
theorem gK.fr (hf:Fr μ h S w μ' h' S' w') (hm:mT μ h S w) {pv:PV} {v:Value} (hc:gK μ h S w pv v):gK μ' h' S' w' pv v:=by
 cases pv with
 | agg cs=>
  obtain⟨vs,h1,h2,a⟩:=hc;exact⟨vs,h1,h2,λj pv hj=>let⟨u,hu,c⟩:=a j pv hj;⟨u,hu,c.fr hf hm⟩⟩
 | int k n=>exact bp.fr (pv:=.int k n) hf hm hc
 | bool b=>exact bp.fr (pv:=.bool b) hf hm hc
 | str s=>exact bp.fr (pv:=.str s) hf hm hc
 | aF =>exact bp.fr (pv:=.aF) hf hm hc
 | fG=>exact bp.fr (pv:=.fG) hf hm hc
 | eD sz n f=>exact bp.fr (pv:=.eD sz n f) hf hm hc
 | ez cs=>exact bp.fr (pv:=.ez cs) hf hm hc
 | own id gen off len=>exact bp.fr (pv:=.own id gen off len) hf hm hc
 | aE id gen i off=>exact bp.fr (pv:=.aE id gen i off) hf hm hc
 | kC id=>exact bp.fr (pv:=.kC id) hf hm hc
 | lv f bq=>exact bp.fr (pv:=.lv f bq) hf hm hc
 | fn f=>exact bp.fr (pv:=.fn f) hf hm hc
 | gf=>trivial
 | eM sz n e f F=>exact bp.fr (pv:=.eM sz n e f F) hf hm hc
 | eC cs=>exact(show False from hc).elim
theorem bg.fr (hf:Fr μ h S w μ' h' S' w') (hm:mT μ h S w) {pv:PV} {v:Value} (hc:bg μ h S w pv v):bg μ' h' S' w' pv v:=by
 cases pv with
 | eC cs=>
  obtain⟨vs,h1,h2,a⟩:=hc;exact⟨vs,h1,h2,λj pv hj=>let⟨u,hu,c⟩:=a j pv hj;⟨u,hu,c.fr hf hm⟩⟩
 | int k n=>exact gK.fr (pv:=.int k n) hf hm hc
 | bool b=>exact gK.fr (pv:=.bool b) hf hm hc
 | str s=>exact gK.fr (pv:=.str s) hf hm hc
 | aF =>exact gK.fr (pv:=.aF) hf hm hc
 | fG=>exact gK.fr (pv:=.fG) hf hm hc
 | eD sz n f=>exact gK.fr (pv:=.eD sz n f) hf hm hc
 | ez cs=>exact gK.fr (pv:=.ez cs) hf hm hc
 | own id gen off len=>exact gK.fr (pv:=.own id gen off len) hf hm hc
 | aE id gen i off=>exact gK.fr (pv:=.aE id gen i off) hf hm hc
 | kC id=>exact gK.fr (pv:=.kC id) hf hm hc
 | lv f bq=>exact gK.fr (pv:=.lv f bq) hf hm hc
 | fn f=>exact gK.fr (pv:=.fn f) hf hm hc
 | gf=>trivial
 | eM sz n e f F=>exact gK.fr (pv:=.eM sz n e f F) hf hm hc
 | agg cs=>exact gK.fr (pv:=.agg cs) hf hm hc
theorem aI.one {pv:PV} {v:Value} (hp:aI S w pv v):v.oneCell'=true:=by cases hp<;>rfl
theorem bp.one {pv:PV} {v:Value} (hc:bp μ h S w pv v):v.oneCell'=true:=by
 cases pv with
 | own id gen off len=>
  obtain⟨⟨a,l,c,rfl⟩,_⟩:=(show aN μ h w id gen off len v from hc);rfl
 | aE id gen i off=>
  obtain⟨⟨a,rfl⟩,_⟩:=(show bD μ h w id gen i off v from hc);rfl
 | kC id=>
  obtain⟨⟨a,rfl⟩,_⟩:=(show eL μ h w id v from hc);rfl
 | lv f bq=>
  obtain⟨vs,rfl,_⟩:=(show lr μ h w f bq v from hc);rfl
 | gf=>exact hc
 | eM sz n e f F=>exact hc
 | agg cs=>exact(show False from hc).elim
 | eC cs=>exact(show False from hc).elim
 | int k n=>exact aI.one (show aI S w _ v from hc)
 | bool b=>exact aI.one (show aI S w _ v from hc)
 | str s=>exact aI.one (show aI S w _ v from hc)
 | aF=>exact aI.one (show aI S w _ v from hc)
 | fG=>exact aI.one (show aI S w _ v from hc)
 | eD sz n f=>exact aI.one (show aI S w _ v from hc)
 | ez cs=>exact aI.one (show aI S w _ v from hc)
 | fn f=>exact aI.one (show aI S w _ v from hc)
theorem jM.c {pv:PV} {v:Value} (hc:jM μ h S w pv v):bp μ h S w pv v:=by
 cases pv with
 | eM sz n e f F=>exact jz.one (show jz S w (.eM sz n e f F) v from hc)
 | _=>exact hc
theorem bp.k {pv:PV} {v:Value} (hc:bp μ h S w pv v) (a:dL pv=false):jM μ h S w pv v:=by
 cases pv with
 | eM sz n e f F=>cases a
 | _=>exact hc
theorem jM.fr (hf:Fr μ h S w μ' h' S' w') (hm:mT μ h S w) {pv:PV} {v:Value} (d:∀sz n e f F,pv=.eM sz n e f F->∀b,F b->w'.heap[b]? =w.heap[b]?) (hc:jM μ h S w pv v):jM μ' h' S' w' pv v:=by
 cases pv with
 | eM sz n e f F=>exact jz.mono (λb a=>hf.blocks b (hm.slt b a) (λg=>hm.apart b g a)) hf.sub (show jz S w (.eM sz n e f F) v from hc) d
 | _=>exact(bp.fr hf hm (jM.c hc)).k rfl
theorem qs {id i j b:Nat}:¬cw [] id i j b:=λ⟨_,_,_,_,_,_,_,_,_,_,h1,_⟩=>by simp at h1
theorem ig {μ:Mu} {b:Nat}:¬bS μ [] b:=λh=>by
 rcases h with⟨id,g,sz,n,e,f,base,h1,_⟩ | ⟨_,_,_,h1⟩
 ·simp at h1
 ·exact qs h1
theorem Fr.refl:Fr μ h S w μ h S w where
 len:=abn _
 blocks _ _ _:=rfl
 sub _ a:=a
 new _ a:=.inl a
 own _ a:=.inl a
 size:=abn _
 os:=rfl
 tape:=rfl
 output:=rfl
 xQ id g sz n e f hh:=by rw[hh];exact⟨abn _,λ_=>⟨rfl,rfl,rfl,rfl⟩⟩
 dead _ hh:=hh
 bq _ _ _ hc:=hc
 maps id g sz n e f b base c hm a:=⟨a,.inr ⟨⟨g,sz,n,e,f,c⟩,hm⟩⟩
 rb b id i j hh a:=a
theorem Fr.trans {μ'':Mu} {v:List ai} {F:Nat->Prop} {G:World} (a:Fr μ h S w μ' h' S' w') (b:Fr μ' h' S' w' μ'' v F G):Fr μ h S w μ'' v F G where
 len:=acg a.len b.len
 blocks k m H:=(b.blocks k (abG m a.size) (λt=>by
  rcases a.own k t with h1 | h1
  ·exact H h1
  ·omega)).trans (a.blocks k m H)
 sub k m:=b.sub k (a.sub k m)
 new k m:=by
  rcases b.new k m with h1 | h1 | h1
  ·exact a.new k h1
  ·rcases a.own k h1 with h2 | h2
   ·exact .inr (.inl h2)
   ·exact .inr (.inr h2)
  ·exact .inr (.inr (acg a.size h1))
 own k m:=by
  rcases b.own k m with h1 | h1
  ·exact a.own k h1
  ·exact .inr (acg a.size h1)
 size:=acg a.size b.size
 os:=b.os.trans a.os
 tape:=b.tape.trans a.tape
 output:=b.output.trans a.output
 xQ id g sz n e f hh:=by
  have h1:=a.xQ id g sz n e f hh;cases d:h'[id]? with
  | none=>rw[d]at h1;exact h1.elim
  | some J=>
   cases J with
   | dead=>rw[b.dead id d];trivial
   | row l p q r s=>
    rw[d]at h1;have h2:=b.xQ id l p q r s d;cases o:v[id]? with
    | none=>rw[o]at h2;exact h2
    | some A=>
     cases A with
     | dead=>trivial
     | row B I K L M=>
      rw[o]at h2;refine⟨acg h1.1 h2.1,λhe=>?_⟩;have N:l=g:=by have:=h1.1;have:=h2.1;omega
      have e2:B=l:=by omega
      obtain⟨O,P,Q,R⟩:=h1.2 N;obtain⟨y1,T,U,V⟩:=h2.2 e2;exact⟨y1.trans O,T.trans P,U.trans Q,V.trans R⟩
 dead id hh:=b.dead id (a.dead id hh)
 bq k c t hc:=by
  have h1:=a.bq k c t hc;by_cases h2:bS μ' h' k
  ·exact b.bq k c h2 h1
  ·refine iu.of_same (b.blocks k ?_ h2) h1;obtain⟨cur,e,z,C,_⟩:=h1;exact(abq.1 C).1
 maps id g sz n e f k base t hm D:=by
  obtain⟨h1,h2⟩:=a.maps id g sz n e f k base t hm D;rcases h2 with h2 | ⟨⟨l,p,q,r,s,h2⟩,C⟩
  ·refine⟨?_,.inl (b.dead id h2)⟩;by_cases h4:bS μ' h' k
   ·rcases h4 with⟨j,l,p,q,r,s,E,j1,j2⟩ | ⟨j,x,y,h4⟩
    ·exact(b.maps j l p q r s k E j1 j2 h1).1
    ·exact b.rb k j x y h4 h1
   ·obtain⟨es,c,u⟩:=h1;exact⟨es,c,(b.blocks k (abq.1 u).1 h4).trans u⟩
  ·exact b.maps id l p q r s k base h2 C h1
 rb k id i j hh D:=by
  have h1:=a.rb k id i j hh D;by_cases h4:bS μ' h' k
  ·rcases h4 with⟨j,l,p,q,r,s,E,j1,j2⟩ | ⟨j,x,y,h4⟩
   ·exact(b.maps j l p q r s k E j1 j2 h1).1
   ·exact b.rb k j x y h4 h1
  ·obtain⟨es,c,u⟩:=h1;exact⟨es,c,(b.blocks k (abq.1 u).1 h4).trans u⟩
structure bR (w w':World):Prop where
 blocks:∀b,b<w.heap.size->w'.heap[b]? =w.heap[b]?
 size:w.heap.size<=w'.heap.size
 os:w'.os=w.os
 tape:w'.tape=w.tape
 output:w'.output=w.output
theorem bR.refl (w:World):bR w w:=⟨λ_ _=>rfl,abn _,rfl,rfl,rfl⟩
theorem bR.trans {a b c:World} (x:bR a b) (y:bR b c):bR a c:=
 ⟨λk d=>(y.blocks k (abG d x.size)).trans (x.blocks k d),acg x.size y.size,y.os.trans x.os,y.tape.trans x.tape,y.output.trans x.output⟩
theorem bR.cell {w w':World} (h:bR w w') {a:Addr} {u:Value} (hc:w.cell? a=some u):w'.cell? a=some u:=
 (World.cell?_of_block (w:=w) (h.blocks a.block (World.block_lt_of_cell? _ _ hc))).trans hc
theorem bR.drew (w:World):bR w w.drew:=⟨λ_ _=>rfl,abn _,rfl,rfl,rfl⟩
theorem bR.drewN (w:World) (n:Nat):bR w (w.drewN n):=⟨λ_ _=>rfl,abn _,rfl,rfl,rfl⟩
theorem iu.lt {b k:Nat} (h:iu w b k):b<w.heap.size:=by
 obtain⟨cur,e,z,h1,_⟩:=h;exact(abq.1 h1).1
theorem Fr.pC (d:bR w w'):Fr μ h S w μ h S w' where
 len:=abn _
 blocks b a _:=d.blocks b a
 sub _ a:=a
 new _ a:=.inl a
 own _ a:=.inl a
 size:=d.size
 os:=d.os
 tape:=d.tape
 output:=d.output
 xQ id g sz n e f hh:=by rw[hh];exact⟨abn _,λ_=>⟨rfl,rfl,rfl,rfl⟩⟩
 dead _ hh:=hh
 bq b k _ hc:=iu.of_same (d.blocks b hc.lt) hc
 maps id g sz n e f b base m hm a:=⟨let⟨es,c,l⟩:=a;⟨es,c,(d.blocks b (abq.1 l).1).trans l⟩,.inr ⟨⟨g,sz,n,e,f,m⟩,hm⟩⟩
 rb b id i j _ a:=let⟨es,c,l⟩:=a;⟨es,c,(d.blocks b (abq.1 l).1).trans l⟩
theorem mT.uu (hm:mT μ h S w) (a:Fr μ h S w μ' h' S' w'):GW S' w':=
 hm.known.dS (λb c=>a.blocks b (hm.slt b c) (λd=>hm.apart b d c)) a.sub
theorem mT.agree (c:bR w w') (hm:mT μ h S w):mT μ h S w':=
 ⟨hm.apart,λb a=>abG (hm.lt b a) c.size,λb a=>abG (hm.slt b a) c.size,hm.inj,hm.known.dS (λb a=>c.blocks b (hm.slt b a)) (λ_ a=>a),hm.hv,hm.hh⟩
theorem bC.agree (a:bR w w') (hm:mT μ h S w) (hh:bC μ h S w):bC μ h S w':=by
 intro id g sz n e f c;obtain⟨h1,h2⟩:=hh id g sz n e f c;refine⟨h1,?_⟩;cases d:μ id with
 | none=>rw[d]at h2;exact h2
 | some p=>
  obtain⟨b,base⟩:=p;rw[d]at h2;obtain⟨o,k,h4⟩:=h2;have l:b<w.heap.size:=(abq.1 k).1;exact⟨o,(a.blocks b l).trans k,h4.mono (λi j pv v hi hj m=>m.fr (Fr.pC a) hm (λq r s t u he b' x=>a.blocks b' (hm.lt b' (.inr ⟨id,i,j,g,sz,n,e,f,q,r,s,t,u,c,hi,by rw[hj,he],x⟩))))⟩
end
end Go.Am
