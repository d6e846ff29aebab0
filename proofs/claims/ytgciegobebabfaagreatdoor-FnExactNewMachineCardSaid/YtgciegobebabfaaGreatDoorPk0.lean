/- Texts of the proof, joined and shortened. -/
import Derived.WalkKit
import Derived.Deep.Draws
import Derived.Deep.Quiet
set_option linter.unusedVariables false
set_option linter.unusedSimpArgs false
namespace Go.Am
open Go Go.RowKit
abbrev an:=@if_pos
abbrev mg:=@if_neg
abbrev so:=@Nat.zero_add
abbrev An:=@Bool.and_eq_true
abbrev As:=@List.getElem?_eq_some_iff
abbrev Is:=@List.getElem?_eq_getElem
abbrev No:=@Nat.le_refl
abbrev abF:=@Nat.eq_of_beq_eq_true
abbrev akv:=@List.getD_eq_getElem?_getD
abbrev akw:=@Array.getElem?_eq_some_iff
abbrev akx:=@List.getElem_mem
abbrev aky:=@Int.toNat_natCast
abbrev akz:=@List.length_cons
abbrev akA:=@List.all_eq_true
abbrev akB:=@List.map_cons
abbrev akC:=@List.mem_append
abbrev akD:=@List.length_nil
abbrev akE:=@List.map_nil
abbrev akF:=@List.mem_of_getElem?
abbrev akG:=@Nat.not_lt_zero
abbrev akH:=@Nat.add_mul
abbrev akI:=@decide_eq_false
abbrev akJ:=@Nat.mul_le_mul_right
abbrev akK:=@Nat.lt_of_lt_of_le
abbrev akL:=@List.getElem?_map
abbrev akM:=@List.mem_cons
abbrev akN:=@List.getElem?_append_right
abbrev akO:=@decide_eq_true_eq
abbrev akP:=@List.mem_cons_of_mem
abbrev akQ:=@List.getElem?_set_ne
abbrev akR:=@Array.getElem?_toList
abbrev akS:=@Nat.le_of_ble_eq_true
abbrev akT:=@List.getElem?_eq_none
abbrev akU:=@if_true
abbrev akV:=@Array.getElem?_eq_getElem
abbrev akW:=@List.getElem?_append_left
abbrev akX:=@Bool.eq_iff_iff
abbrev akY:=@Bool.not_eq_true'
abbrev akZ:=@List.mem_map
abbrev ala:=@decide_eq_true
abbrev alb:=@Option.some.inj
abbrev alc:=@Nat.zero_le
abbrev ald:=@List.drop_zero
abbrev ale:=@List.drop_eq_getElem_cons
abbrev alf:=@if_false
abbrev alg:=@Nat.le_trans
abbrev alh:=@Eq.trans
abbrev ali:=@List.mem_singleton
abbrev alj:=@List.length_append
abbrev alk:=@beq_iff_eq
abbrev alm:=@Nat.lt_or_ge
abbrev aln:=@List.getElem?_cons_succ
abbrev alo:=@Array.getElem?_append_left
abbrev alp:=@Nat.eq_zero_or_pos
abbrev alq:=@List.mem_iff_getElem
abbrev alr:=@List.getElem?_set_self
abbrev als:=@Array.length_toList
abbrev alu:=@List.take_append_getElem
abbrev alv:=@List.append_nil
abbrev alw:=@Bool.or_eq_true
abbrev alx:=@Bool.false_ne_true
abbrev aly:=@decide_eq_false_iff_not
abbrev alz:=@Nat.add_zero
abbrev alA:=@List.append_assoc
abbrev alB:=@List.getElem?_set
abbrev alC:=@List.length_map
abbrev alD:=@List.nil_append
abbrev alE:=@Array.eq_empty_of_size_eq_zero
abbrev alF:=@List.eq_nil_of_length_eq_zero
abbrev alG:=@Nat.lt_of_lt_of_eq
abbrev alH:=@List.getElem?_cons_zero
abbrev alI:=@List.length_set
abbrev alJ:=@Ne.symm
abbrev alK:=@Nat.sub_self
abbrev alL:=@Bool.and_true
abbrev alM:=@Bool.true_and
abbrev alN:=@Bool.false_eq_true
abbrev alO:=@List.map_append
abbrev alP:=@List.all_cons
abbrev alQ:=@List.cons_append
abbrev alR:=@List.length_take
abbrev alS:=@Bool.false_and
abbrev alT:=@List.take_length
abbrev alU:=@List.getElem?_drop
abbrev alV:=@Nat.beq_refl
abbrev alW:=@Int.tmod_eq_emod_of_nonneg
abbrev alX:=@List.getElem?_nil
abbrev alY:=@List.getElem_append_right
abbrev alZ:=@List.getElem_append_left
abbrev ama:=@Nat.lt_succ_iff_lt_or_eq
abbrev amb:=@List.drop_succ_cons
abbrev amc:=@List.getElem?_replicate
abbrev amd:=@Nat.eq_or_lt_of_le
abbrev ame:=@List.drop_of_length_le
abbrev amf:=@Array.size_append
abbrev amg:=@Bool.eq_false_iff
abbrev amh:=@List.getElem?_take
abbrev ami:=@Array.getElem?_map
abbrev amj:=@Array.empty_append
abbrev amk:=@List.mem_range
abbrev aml:=@List.length_eq_zero_iff
abbrev amm:=@List.drop_eq_nil_of_le
abbrev amn:=@Bool.false_or
abbrev amo:=@List.drop_length
abbrev amp:=@List.getElem?_toArray
abbrev amq:=@Array.getElem?_setIfInBounds_ne
abbrev amr:=@Nat.zero_lt_one
abbrev ams:=@bne_iff_ne
abbrev amt:=@beq_eq_false_iff_ne
abbrev amu:=@List.take_zero
abbrev amv:=@Bool.and_false
abbrev amw:=@List.set_cons_zero
abbrev amx:=@List.set_cons_succ
abbrev amy:=@of_decide_eq_false
abbrev amz:=@Decidable.not_not
abbrev amA:=@List.reverse_nil
abbrev amB:=@Option.getD_some
abbrev amC:=@List.map_toArray
abbrev amD:=@List.ext_getElem
abbrev amE:=@Option.bind_some
abbrev amF:=@List.length_drop
abbrev amG:=@Nat.mul_comm
abbrev amH:=@Nat.lt_succ_self
abbrev amI:=@List.not_mem_nil
abbrev amJ:=@Nat.pow_succ
abbrev amK:=@Bool.true_or
theorem amL {p:Prop} (h:p:=by
  obtain rfl:=si h;replace h:=cM;exact eI h):p:=h
theorem amM {p:Prop} (h:p:=by
  rintro _ _ ⟨y1,rfl,rfl,rfl⟩;replace h:=cM;exact .d (eI h)):p:=h
theorem amN {p:Prop} (h:p:=by
  obtain rfl:=si h;replace h:=mi;exact eB h):p:=h
theorem amO {p:Prop} (h:p:=by
  rintro _ _ ⟨rfl,rfl,rfl⟩;replace h:=cM;exact .d (eB h)):p:=h
theorem amP {p:Prop} (h:p:=by
  obtain rfl:=si h;replace h:=qs;exact eB h):p:=h
theorem amQ {p:Prop} (h:p:=by
  obtain rfl:=si h;replace h:=cM;exact eB h):p:=h
theorem amR {p:Prop} (h:p:=by
  rintro _ _ ⟨y2,rfl,rfl,rfl⟩;replace h:=yt;exact .d (eI h)):p:=h
theorem amS {p:Prop} (h:p:=by
  obtain rfl:=si h;replace h:=yt;exact eI h):p:=h
theorem amT {p:Prop} (h:p:=by
  obtain rfl:=si h;replace h:=Es;exact eB h):p:=h
theorem amU {p:Prop} (h:p:=by
  obtain rfl:=si h;replace h:=Mz;exact eB h):p:=h
theorem amV {p:Prop} (h:p:=by
  rintro _ _ ⟨rfl,rfl,rfl⟩;replace h:=qs;exact .d (eI h)):p:=h
theorem amW {p:Prop} (h:p:=by
  obtain rfl:=si h;replace h:=yt;exact eB h):p:=h
theorem amX {p:Prop} (h:p:=by
  obtain rfl:=si Ht;exact en [] ⟨rfl,rfl⟩ TR ⟨⟩):p:=h
theorem amY {p:Prop} (h:p:=by
  obtain rfl:=si qs;exact en [0,1,2,3] ⟨ca,dj,rfl,rfl⟩ .b TP):p:=h
theorem amZ {p:Prop} (h:p:=by
  obtain rfl:=si h;replace h:=qs;exact eI h):p:=h
theorem ana {p:Prop} (h:p:=by
  obtain rfl:=si qs;exact en [0] ⟨rfl,rfl⟩ Zp ⟨od,⟨⟩⟩):p:=h
theorem anb {p:Prop} (h:p:=by
  obtain rfl:=si ZG;exact en [] ⟨rfl,rfl⟩ Vw ⟨⟩):p:=h
theorem ane {p:Prop} (h:p:=by
  obtain⟨dst,op,ty,pos,after,guard⟩:=o;subst hg;exact hp):p:=h
theorem anf {p:Prop} (h:p:=by
  obtain rfl:=si h;replace h:=LH;exact eB h):p:=h
theorem ang {p:Prop} (h:p:=by
  rintro _ _ ⟨rfl,rfl,rfl⟩;replace h:=qs;exact .d (eB h)):p:=h
theorem anh {p:Prop} (h:p:=by
  obtain rfl:=si h;replace h:=T6;exact eB h):p:=h
theorem ani {p:Prop} (h:p:=by
  obtain rfl:=si h;replace h:=Kv;exact eB h):p:=h
theorem anj {p:Prop} (h:p:=by
  obtain rfl:=si h;exact en [0] ⟨f3,d4,rfl,rfl⟩ .i jJ):p:=h
theorem ank {p:Prop} (h:p:=by
  obtain rfl:=si h;exact⟨rfl,_,rfl,(en [2,3,4,5,6,7,8,9,10] ⟨_,_,_,_,_,(DR.nil (D:=aE.D)),(DR.nil (D:=aH.D)),(DR.nil (D:=aC.D)),(DR.nil (D:=cc.D)),(DR.nil (D:=aM.D)),rfl,rfl⟩ abY ab1)⟩):p:=h
theorem anl {p:Prop} (h:p:=by
  obtain rfl:=si h;exact en [] ⟨rfl,rfl⟩ GQ ⟨⟩):p:=h
theorem anm {p:Prop} (h:p:=by
  obtain rfl:=si h;exact⟨rfl,_,rfl,(en [0,1,3,4] ⟨rfl,rfl⟩ TQ Jy)⟩):p:=h
theorem ann {p:Prop} (h:p:=by
  obtain rfl:=si h;exact en [0] ⟨rfl,rfl⟩ .o xo):p:=h
theorem ano {p:Prop} (h:p:=by
  obtain rfl:=si h;exact en [0] ⟨f5,d6.self,rfl,rfl⟩ (.oe) tC):p:=h
theorem anp {p:Prop} (h:p:=by
  replace h:=My;exact amT):p:=h
theorem anq {p:Prop} (h:p:=by
  replace h:=HK;exact amU):p:=h
theorem anr {p:Prop} (h:p:=by
  obtain rfl:=si h;exact⟨rfl,_,rfl,(en [] ⟨rfl,rfl⟩ abX ⟨⟩)⟩):p:=h
theorem ans {p:Prop} (h:p:=by
  replace h:=RB;exact amN):p:=h
theorem ant {p:Prop} (h:p:=by exact ct ⟨_,si h,rfl,rfl⟩ (tk [0] hB db)):p:=h
theorem anu {p:Prop} (h:p:=by exact .d (eB h)):p:=h
theorem anv {p:Prop} (h:p:=by exact ct ⟨si h,rfl,rfl⟩ (tk [] ⟨⟩ ⟨⟩)):p:=h
theorem anw {p:Prop} (h:p:=by exact .d (eI h)):p:=h
theorem anx {p:Prop} (h:p:=by exact ct ⟨_,si h,rfl,rfl⟩ (tk [] fV ⟨⟩)):p:=h
theorem anz {p:Prop} (h:p:=by exact ct ⟨_,_,f9,d10,si h,rfl,rfl⟩ (tk [0] fV jJ)):p:=h
theorem anA {p:Prop} (h:p:=by exact hp.elim):p:=h
theorem anB {p:Prop} (h:p:=by exact lg (rV _ _ h rfl) (tk [] jK ⟨⟩)):p:=h
theorem anC {p:Prop} (h:p:=by exact lg (uB _ _ _ h rfl) (tk [] tr ⟨⟩)):p:=h
theorem anD {p:Prop} (h:p:=by exact ct ⟨si h,rfl,rfl⟩ (tk [0] xp db)):p:=h
theorem anE {p:Prop} (h:p:=by exact .d ⟨rfl,rfl,_,rfl,(eI h)⟩):p:=h
theorem anF {p:Prop} (h:p:=by exact ct ⟨_,si h,rfl,rfl⟩ (tk [0] Ea db)):p:=h
theorem anG {p:Prop} (h:p:=by exact⟨rfl,_,_,rfl,bD,(ct ⟨_,_,_,_,_,si h,rfl,rfl⟩ (tk [0,1,2,6,7,3,4,5] BL Vu))⟩):p:=h
theorem anH {p:Prop} (h:p:=by exact⟨_,hu,rfl,h1,abF h2,h4,λu=>by rw[show 9999=9998+1 from rfl,Instr.checkKey];simp [run_underlying hu]⟩):p:=h
theorem anI {p:Prop} (h:p:=by exact .d ⟨rfl,rfl,_,rfl,by decide,(eI h)⟩):p:=h
theorem anJ {p:Prop} (h:p:=by exact ct ⟨_,si h,rfl,rfl⟩ (tk [0] NU db)):p:=h
theorem anK {p:Prop} (h:p:=by exact ct ⟨_,si h,rfl,rfl⟩ (tk [0] NS db)):p:=h
theorem anL {p:Prop} (h:p:=by exact .f (.f (.f (.f (.f (.f (.f (.f (ct ⟨si h,rfl,rfl⟩ (tk [0] xp db)))))))))):p:=h
theorem anM {p:Prop} (h:p:=by exact lg (Gs _ _ _ h rfl) (tk [] tr ⟨⟩)):p:=h
theorem anN {p:Prop} (h:p:=by exact ct ⟨_,f11,d12,si h,rfl,rfl⟩ (tk [0] ⟨.oe,⟨⟩⟩ tC)):p:=h
theorem anO {p:Prop} (h:p:=by exact⟨λ⟨j,h1,h2⟩=>⟨j,h1,by simpa using h2⟩,λ⟨j,h1,h2⟩=>⟨j,h1,by simpa using h2⟩⟩):p:=h
theorem anP {p:Prop} (h:p:=by exact⟨λhq=>an hq,λhq=>mg (by rw[hq];decide)⟩):p:=h
theorem anQ {p:Prop} (h:p:=by exact⟨_,rfl,.inl (by decide)⟩):p:=h
theorem anR {p:Prop} (h:p:=by exact ct ⟨_,si h,rfl,rfl⟩ (tk [] TS ⟨⟩)):p:=h
theorem anS {p:Prop} (h:p:=by exact ct ⟨_,si h,rfl,rfl⟩ (tk [0] ⟨.o,⟨⟩⟩ xo)):p:=h
theorem anT {p:Prop} (h:p:=by exact lg (jm _ _ _ _ h _ d20 rfl) (tk [0] vq jJ)):p:=h
theorem anU {p:Prop} (h:p:=by exact hc.ok.inj i j _ _ _ _ _ _ _ _ _ _ _ _ _ hi hj tm rS):p:=h
theorem anV {p:Prop} (h:p:=by exact⟨_,rfl,.inr ⟨z0,by have tz:=rA l;unfold zS at tz;omega⟩⟩):p:=h
theorem anW {p:Prop} (h:p:=by exact .t (.t (.t (.t (.t (.t (.t (.t (.t (.t (.d (eB h)))))))))))):p:=h
theorem anX {p:Prop} (h:p:=by exact lg (jm _ _ _ _ h _ d30 rfl) (tk [0] vq jJ)):p:=h
theorem anY {p:Prop} (h:p:=by exact .f (.f (.f (.f (eB h))))):p:=h
theorem anZ {p:Prop} (h:p:=by exact .f (.f (eB h))):p:=h
theorem aoa {p:Prop} (h:p:=by exact⟨false,rfl,rfl,λh=>by cases h⟩):p:=h
theorem aob {p:Prop} (h:p:=by exact .f (.f (.f (eB h)))):p:=h
theorem aoc {p:Prop} (h:p:=by exact⟨No _,λ_=>⟨rfl,rfl,rfl,rfl⟩⟩):p:=h
theorem aod {p:Prop} (h:p:=by exact⟨rfl,(.t ⟨rfl,_,rfl,(.t (.t (.t (eB h))))⟩)⟩):p:=h
theorem aoe {p:Prop} (h:p:=by exact⟨_,_,_,_,_,_,_,_,_,_,q1,q2,q3,q4⟩):p:=h
theorem aof {p:Prop} (h:p:=by exact⟨_,rfl,.inl ⟨rfl,h⟩⟩):p:=h
theorem aog {p:Prop} (h:p:=by exact⟨rfl,rfl⟩):p:=h
theorem aoh {p:Prop} (h:p:=by exact lg (jm _ _ _ _ h _ d22 rfl) (tk [0] vq jJ)):p:=h
theorem aoi {p:Prop} (h:p:=by exact lg (LI _ _ _ h _ d30 rfl) (tk [0] FD tC)):p:=h
theorem aoj {p:Prop} (h:p:=by exact .f (.f (.f (.f (.f (.f (.f (eB h)))))))):p:=h
theorem aok {p:Prop} (h:p:=by exact .inr ⟨_,_,_,q⟩):p:=h
theorem aol {p:Prop} (h:p:=by omega):p:=h
theorem aom {p:Prop} (h:p:=by kernel_rfl):p:=h
theorem aon {p:Prop} (h:p:=by simp):p:=h
theorem aoo {p:Prop} (h:p:=by simp [Op.operands]):p:=h
theorem aop {p:Prop} (h:p:=by decide):p:=h
theorem aoq {p:Prop} (h:p:=by simp;omega):p:=h
theorem aor {p:Prop} (h:p:=by simp [Region.wanted,hg,hy]):p:=h
theorem aos {p:Prop} (h:p:=by simpa using hj):p:=h
theorem aot {p:Prop} (h:p:=by simp only[akz,akD];omega):p:=h
theorem aou {p:Prop} (h:p:=by assumption):p:=h
theorem aov {p:Prop} (h:p:=by simp only[akB,akE,shr,Ef d4];rfl):p:=h
theorem aow {p:Prop} (h:p:=by simpa using h):p:=h
theorem aox {p:Prop} (h:p:=by first | rfl | exact d147.len | exact d147.len.symm):p:=h
theorem aoy {p:Prop} (h:p:=by first | rfl | exact d145.len | exact d145.len.symm):p:=h
theorem aoz {p:Prop} (h:p:=by first | rfl | exact d143.len | exact d143.len.symm):p:=h
theorem aoA {p:Prop} (h:p:=by first | rfl | exact d141.len | exact d141.len.symm):p:=h
theorem aoB {p:Prop} (h:p:=by first | rfl | exact d139.len | exact d139.len.symm):p:=h
theorem aoC {p:Prop} (h:p:=by first | rfl | exact d137.len | exact d137.len.symm):p:=h
theorem aoD {p:Prop} (h:p:=by first | rfl | exact d135.len | exact d135.len.symm):p:=h
theorem aoE {p:Prop} (h:p:=by first | rfl | exact d133.len | exact d133.len.symm):p:=h
theorem aoF {p:Prop} (h:p:=by first | rfl | exact d131.len | exact d131.len.symm):p:=h
theorem aoG {p:Prop} (h:p:=by simpa using h2):p:=h
theorem aoH {p:Prop} (h:p:=by simp only[Nat.reduceAdd,Nat.reducePow];omega):p:=h
theorem aoI {p:Prop} (h:p:=by rw[rA];omega):p:=h
theorem aoJ {p:Prop} (h:p:=by simp only[vF,mX,akB,akE,List.drop,akz,akD,gG nf];rfl):p:=h
theorem aoK {p:Prop} (h:p:=by simp only[akB,akE,shr,Ef d22];rfl):p:=h
theorem aoL {p:Prop} (h:p:=by simp [qd]):p:=h
theorem aoM {p:Prop} (h:p:=by simpa using hq):p:=h
theorem aoN {p:Prop} (h:p:=by simpa using hp):p:=h
theorem aoO {p:Prop} (h:p:=by simpa using h1):p:=h
theorem aoP {p:Prop} (h:p:=by first | rfl | exact d67.len | exact d67.len.symm):p:=h
theorem aoQ {p:Prop} (h:p:=by first | rfl | exact d64.len | exact d64.len.symm):p:=h
theorem aoR {p:Prop} (h:p:=by first | rfl | exact d61.len | exact d61.len.symm):p:=h
theorem aoS {p:Prop} (h:p:=by first | rfl | exact d58.len | exact d58.len.symm):p:=h
theorem aoT {p:Prop} (h:p:=by first | rfl | exact d55.len | exact d55.len.symm):p:=h
theorem aoU {p:Prop} (h:p:=by rw[<-hf i hi];exact hj):p:=h
theorem aoV {p:Prop} (h:p:=by simpa using hy):p:=h
theorem aoW {p:Prop} (h:p:=by simp [Region.wanted,hg,yU hs hj he]):p:=h
theorem aoX {p:Prop} (h:p:=by rw[he];exact hu):p:=h
theorem aoY {p:Prop} (h:p:=by simp only[vF,mX,akB,akE,List.drop,akz,akD,gG aB.bB,gG nf];rfl):p:=h
theorem aoZ {p:Prop} (h:p:=by simpa using q1):p:=h
theorem apa {p:Prop} (h:p:=by subst hy;simp [Op.operands]):p:=h
theorem apb {p:Prop} (h:p:=by simp [Op.operands];exact⟨p.1,by simpa using hp⟩):p:=h
end Go.Am
namespace Go.Am
open Go
def NN:List Int:=[1,10,100,1000,10000,100000,1000000,10000000,100000000,1000000000,10000000000,100000000000,1000000000000,10000000000000,100000000000000,1000000000000000,10000000000000000,100000000000000000,1000000000000000000,10000000000000000000]
def Ls:List (Nat×Array Value):=[(2,(NN.map λz=>Value.int .u64 z).toArray)]
def Cz:List Nat:=[0,1]
def SX:List Nat:=[]
def Ys:Nat:=4294967295
end Go.Am
namespace Go.Am
open Go Go.RowKit
inductive PV where
 | int (k:IntKind) (n:Int)
 | bool (b:Bool)
 | str (s:List UInt8)
 | bn
 | lJ
 | jk (sz n:Nat) (f:Nat->List PV)
 | iV (cells:List PV)
 | own (id gen off len:Nat)
 | bc (id gen i off:Nat)
 | pZ (id:Nat)
 | vg (f:Nat) (dp:List (Nat×Nat))
 | fn (f:Nat)
 | agg (cs:List PV)
 | kc (vs:List PV)
 | mj
 | aX (sz n:Nat) (e:TypeId) (f:Nat->List PV) (F:Nat->Prop)
 deriving Inhabited
abbrev Env:=Nat->PV
inductive au where
 | row (gen sz n:Nat) (e:TypeId) (f:Nat->List PV)
 | dead
 deriving Inhabited
inductive TI where
 | int (k:IntKind)
 | bool
 | str
 | slice (e sz bytes:Nat) (zero:List PV)
 | struct (sz:Nat) (fields:List (Nat×Nat×Bool)) (zero:List PV)
 | ptr (e:Nat)
 | map (k e:Nat) (zero:PV)
 | other
 deriving Inhabited
structure vE where
 get:Nat->TI
def wJ (env:Env) (t:Nat) (v:PV):Env:=λj=>bif Nat.beq j t then v else env j
def gQ (env:Env) (d:Option Nat) (v:PV):Env:=match d with | some t=>wJ env t v | none=>env
def Gr (env:Env):List (Nat×PV)->Env
 | []=>env
 | (t,v)::r=>wJ (Gr env r) t v
inductive gu (b:Bool) (T F:Prop):Prop
 | mk (ht:b=true->T) (hf:b=false->F):gu b T F
theorem pz {b:Bool} {T F:Prop} (h:gu b T F):(b=true->T)/\(b=false->F):=by cases h with | mk a b=>exact⟨a,b⟩
def fG (b:Bool) (K:Prop):Prop:=match b with | true=>K | false=>False
theorem cO {b:Bool} {K:Prop} (h:fG b K):b=true/\K:=by cases b;exact h.elim;exact⟨rfl,h⟩
def xz:IntKind->IntKind->Bool
 | .i8,.i8=>true
 | .i16,.i16=>true
 | .i32,.i32=>true
 | .i64,.i64=>true
 | .u8,.u8=>true
 | .u16,.u16=>true
 | .u32,.u32=>true
 | .u64,.u64=>true
 | _,_=>false
theorem gZ {k a:IntKind} (h:xz k a=true):k=a:=by cases k<;>cases a<;>first | rfl | cases h
def adw:Value->Option PV
 | .int k n=>some (.int k n)
 | .bool b=>some (.bool b)
 | .string s=>some (.str s.data.toList)
 | .slice none 0 0=>some .bn
 | .pointer none=>some .lJ
 | _=>none
def Uj:List Value->Option (List PV)
 | []=>some []
 | v::r=>match adw v,Uj r with
  | some p,some l=>some (p::l)
  | _,_=>none
def agP:Option (List PV)->PV
 | some l=>.agg l
 | none=>.mj
def ofValue:Value->PV
 | .int k n=>.int k n
 | .bool b=>.bool b
 | .string s=>.str s.data.toList
 | .slice none 0 0=>.bn
 | .pointer none=>.lJ
 | .agg vs=>agP (Uj vs.toList)
 | _=>.mj
inductive Vg:PV->PV->Prop
 | same (a:PV):Vg a a
 | nil (sz:Nat) (f:Nat->List PV):Vg .bn (.jk sz 0 f)
 | tn (sz:Nat) (e:TypeId) (f:Nat->List PV):Vg .bn (.aX sz 0 e f (λ_=>False))
def rF:List PV->List PV->Prop
 | [],[]=>True
 | a::l,b::r=>Vg a b/\rF l r
 | _,_=>False
def ev (env:Env):Operand->PV
 | .tmp t=>env t
 | .const v=>ofValue v
 | .func f=>.fn f
 | .global _=>.mj
abbrev Mu:=Nat->Option (Nat×Nat)
inductive bN (S:Nat->Prop) (w:World):PV->Value->Prop
 | int (k:IntKind) (n:Int):bN S w (.int k n) (.int k n)
 | bool (b:Bool):bN S w (.bool b) (.bool b)
 | str (s:List UInt8):bN S w (.str s) (.string ⟨⟨s⟩⟩)
 | bn:bN S w .bn (.slice none 0 0)
 | lJ:bN S w .lJ (.pointer none)
 | fn (f:Nat):bN S w (.fn f) (.func (.func f) #[] #[])
 | uW (sz:Nat) (f:Nat->List PV) (a:Option Addr) (c:Nat):bN S w (.jk sz 0 f) (.slice a 0 c)
 | jk (sz n:Nat) (f:Nat->List PV) (b off c:Nat) (vf:Nat->Nat->Value) (hS:S b) (hlen:∀i,i<n->(f i).length=sz) (hc:n<=c)
   (cn:∀(i j:Nat) (pv:PV),i<n->(f i)[j]? =some pv->w.cell? ⟨b,off+i*sz+j,none⟩=some (vf i j))
   (tA:∀(i j:Nat) (pv:PV),i<n->(f i)[j]? =some pv->bN S w pv (vf i j)):bN S w (.jk sz n f) (.slice (some ⟨b,off,none⟩) n c)
 | iV (cs:List PV) (b off:Nat) (vf:Nat->Value) (hS:S b)
   (cn:∀(j:Nat) (pv:PV),cs[j]? =some pv->w.cell? ⟨b,off+j,none⟩=some (vf j))
   (tA:∀(j:Nat) (pv:PV),cs[j]? =some pv->bN S w pv (vf j)):bN S w (.iV cs) (.pointer (some ⟨b,off,none⟩))
inductive rz (S:Nat->Prop) (w:World):PV->Value->Prop
 | nil (sz:Nat) (e:TypeId) (f:Nat->List PV) (F:Nat->Prop) (hF:∀b,¬F b):rz S w (.aX sz 0 e f F) (.slice none 0 0)
 | P2 (sz n:Nat) (e:TypeId) (f:Nat->List PV) (F:Nat->Prop) (b off c:Nat) (a:Addr) (cur:Array Value) (vf:Nat->Nat->Value) (hF:F b) (hb:w.heap[b]? =some (.cells cur e (0,0))) (hlen:∀i,i<n->(f i).length=sz) (hc:n<=c)
   (ha:0<c->a=⟨b,off,none⟩) (iK:off+c*sz<=cur.size)
   (cn:∀(i j:Nat) (pv:PV),i<n->(f i)[j]? =some pv->cur[off+i*sz+j]? =some (vf i j))
   (tA:∀(i j:Nat) (pv:PV),i<n->(f i)[j]? =some pv->bN S w pv (vf i j)\/∃dk n' e' f' F',pv=.aX dk n' e' f' F')
   (Al:∀(i j dk n':Nat) (e':TypeId) (f':Nat->List PV) (F':Nat->Prop),i<n->(f i)[j]? =some (.aX dk n' e' f' F')->rz S w (.aX dk n' e' f' F') (vf i j))
   (Ks:∀(i j dk n':Nat) (e':TypeId) (f':Nat->List PV) (F':Nat->Prop),i<n->(f i)[j]? =some (.aX dk n' e' f' F')->∀b',F' b'->F b'/\b'≠b)
   (P3:∀(i j dk n':Nat) (e':TypeId) (f':Nat->List PV) (F':Nat->Prop) (i2 j2 tB n2:Nat) (e2:TypeId) (f2:Nat->List PV) (F2:Nat->Prop),i<n->(f i)[j]? =some (.aX dk n' e' f' F')->i2<n->(f i2)[j2]? =some (.aX tB n2 e2 f2 F2)->
    ∀b',F' b'->F2 b'->i=i2/\j=j2):rz S w (.aX sz n e f F) (.slice (some a) n c)
def oE (w:World) (b k:Nat):Prop:=∃cur e z,w.heap[b]? =some (.cells cur e z)/\k<=cur.size
def cK (μ:Mu) (h:List au) (w:World) (id gen off len:Nat) (v:Value):Prop:=
 (∃a l c,v=.slice a l c)/\match h[id]? with
 | some (au.row g sz n _ _)=>gen<=g/\(gen=g->off+len<=n/\match μ id with
  | none=>v=.slice none 0 0
  | some (b,base)=>∃a cap,v=.slice (some a) len cap/\len<=cap/\(0<cap->a=⟨b,base+off*sz,none⟩)/\oE w b (base+(off+cap)*sz))
 | some au.dead=>True
 | none=>False
def dE (μ:Mu) (h:List au) (w:World) (id gen i off:Nat) (v:Value):Prop:=
 (∃a,v=.pointer a)/\match h[id]? with
 | some (au.row g sz n e _)=>gen<=g/\(gen=g->i<n/\∃b base,μ id=some (b,base)/\(oE w b 0/\(Nat.beq e Ys=true->base=0))/\v=.pointer (some ⟨b,base+i*sz+off,none⟩))
 | some au.dead=>True
 | none=>False
def xC (w:World) (b:Nat):Prop:=∃es clock,w.heap[b]? =some (.map es clock)
def jq (μ:Mu) (h:List au) (w:World) (id:Nat) (v:Value):Prop:=
 (∃a,v=.map a)/\match h[id]? with
 | some (au.row _ _ _ _ _)=>∃b base,μ id=some (b,base)/\xC w b/\v=.map (some b)
 | some au.dead=>True
 | none=>False
def zx (O:Nat->Nat->Value->Prop) (f:Nat) (dp:List (Nat×Nat)) (v:Value):Prop:=
 ∃vs:Array Value,v=.func (.func f) #[] vs/\vs.size=dp.length/\∀(j:Nat) (p:Nat×Nat),dp[j]? =some p->∃u:Value,vs[j]? =some u/\O p.1 p.2 u
theorem zx.mono {O a:Nat->Nat->Value->Prop} {f:Nat} {dp:List (Nat×Nat)} {v:Value} (h:zx O f dp v) (b:∀id g u,O id g u->a id g u):zx a f dp v:=by
 obtain⟨vs,h1,h2,h3⟩:=h;exact⟨vs,h1,h2,λj p hj=>let⟨u,q1,q2⟩:=h3 j p hj;⟨u,q1,b _ _ _ q2⟩⟩
def yJ (σ:Nat->Nat) (dp:List (Nat×Nat)):List (Nat×Nat):=dp.map λp=>(σ p.1,p.2)
theorem zx.map {O:Nat->Nat->Value->Prop} {σ:Nat->Nat} {f:Nat} {dp:List (Nat×Nat)} {v:Value} (h:zx (λid g u=>O (σ id) g u) f dp v):zx O f (yJ σ dp) v:=by
 obtain⟨vs,h1,h2,h3⟩:=h;refine⟨vs,h1,by unfold yJ;rw[alC];exact h2,λj p hj=>?_⟩;unfold yJ at hj;rw[akL]at hj;cases a:dp[j]? with
 | none=>rw[a]at hj;cases hj
 | some q=>
  rw[a]at hj;injection hj with hj;subst hj;exact h3 j q a
theorem zx.agc {O:Nat->Nat->Value->Prop} {σ:Nat->Nat} {f:Nat} {dp:List (Nat×Nat)} {v:Value} (h:zx O f (yJ σ dp) v):zx (λid g u=>O (σ id) g u) f dp v:=by
 obtain⟨vs,h1,h2,h3⟩:=h;refine⟨vs,h1,by unfold yJ at h2;rw[alC]at h2;exact h2,λj p hj=>?_⟩;obtain⟨u,q1,q2⟩:=h3 j (σ p.1,p.2) (by unfold yJ;rw[akL,hj];rfl);exact⟨u,q1,q2⟩
def uJ (μ:Mu) (h:List au) (w:World) (f:Nat) (dp:List (Nat×Nat)) (v:Value):Prop:=zx (λid g u=>dE μ h w id g 0 0 u) f dp v
def Aj:PV->Bool
 | .int _ _=>true
 | .bool _=>true
 | .str _=>true
 | .mj=>true
 | _=>false
def oD:PV->Bool
 | .agg cs=>cs.all Aj
 | v=>Aj v
def zi:PV->Value->Prop
 | .int k n,v=>v=.int k n
 | .bool b,v=>v=.bool b
 | .str s,v=>v=.string ⟨⟨s⟩⟩
 | _,v=>v.oneCell'=true
def xA:PV->Value->Prop
 | .agg cs,v=>∃vs:Array Value,v=.agg vs/\vs.size=cs.length/\∀(j:Nat) (pv:PV),cs[j]? =some pv->∃u:Value,vs[j]? =some u/\zi pv u
 | .mj,_=>True
 | pv,v=>zi pv v
def Cd (C:PV->Value->Prop) (base sz n:Nat) (e:TypeId) (f:Nat->List PV):Obj->Prop
 | .cells cur c z=>c=e/\z=(0,0)/\base+n*sz<=cur.size/\∀(i j:Nat) (pv:PV),i<n->(f i)[j]? =some pv->∃v:Value,cur[base+i*sz+j]? =some v/\C pv v
 | .map es _=>es.size=n/\∀i,i<n->∃(a b:PV) (en:MapEntry),f i=[a,b]/\oD a=true/\oD b=true/\es[i]? =some en/\xA a en.key/\xA b en.val
 | _=>False
theorem Cd.mono {C a:PV->Value->Prop} {base sz n:Nat} {e:TypeId} {f:Nat->List PV} {o:Obj} (h:Cd C base sz n e f o) (hc:∀(i j:Nat) (pv:PV) (v:Value),i<n->(f i)[j]? =some pv->C pv v->a pv v):Cd a base sz n e f o:=by
 cases o with
 | cells cur b z=>
  obtain⟨h1,h2,h3,h4⟩:=h;exact⟨h1,h2,h3,λi j pv hi hj=>let⟨v,q1,q2⟩:=h4 i j pv hi hj;⟨v,q1,hc i j pv v hi hj q2⟩⟩
 | map es c=>exact h
 | _=>exact h.elim
def dA (μ:Mu) (h:List au) (S:Nat->Prop) (w:World):PV->Value->Prop
 | .own id gen off len,v=>cK μ h w id gen off len v
 | .bc id gen i off,v=>dE μ h w id gen i off v
 | .pZ id,v=>jq μ h w id v
 | .vg f dp,v=>uJ μ h w f dp v
 | .mj,v=>v.oneCell'=true
 | .aX _ _ _ _ _,v=>v.oneCell'=true
 | .agg _,_=>False
 | .kc _,_=>False
 | pv,v=>bN S w pv v
def uK (μ:Mu) (h:List au) (S:Nat->Prop) (w:World):PV->Value->Prop
 | .aX sz n e f F,v=>rz S w (.aX sz n e f F) v
 | pv,v=>dA μ h S w pv v
def mh (μ:Mu) (h:List au) (S:Nat->Prop) (w:World):PV->Value->Prop
 | .agg cs,v=>∃vs:Array Value,v=.agg vs/\vs.size=cs.length/\∀(j:Nat) (pv:PV),cs[j]? =some pv->∃u:Value,vs[j]? =some u/\dA μ h S w pv u
 | .mj,_=>True
 | pv,v=>dA μ h S w pv v
def da (μ:Mu) (h:List au) (S:Nat->Prop) (w:World):PV->Value->Prop
 | .kc ps,v=>∃vs:Array Value,v=.tuple vs/\vs.size=ps.length/\∀(j:Nat) (pv:PV),ps[j]? =some pv->∃u:Value,vs[j]? =some u/\mh μ h S w pv u
 | pv,v=>mh μ h S w pv v
def dT (μ:Mu) (h:List au) (S:Nat->Prop) (w:World):Prop:=
 ∀(id g sz n:Nat) (e:TypeId) (f:Nat->List PV),h[id]? =some (au.row g sz n e f)->(∀i,i<n->(f i).length=sz)/\match μ id with
  | none=>n=0
  | some (b,base)=>∃o:Obj,w.heap[b]? =some o/\Cd (uK μ h S w) base sz n e f o
theorem dT.cells {μ:Mu} {h:List au} {S:Nat->Prop} {w:World} {b base k sz n:Nat} {e:TypeId} {f:Nat->List PV} (hc:oE w b k) (a:∃o:Obj,w.heap[b]? =some o/\Cd (uK μ h S w) base sz n e f o):
  ∃cur:Array Value,w.heap[b]? =some (.cells cur e (0,0))/\base+n*sz<=cur.size/\
    ∀(i j:Nat) (pv:PV),i<n->(f i)[j]? =some pv->∃v:Value,cur[base+i*sz+j]? =some v/\uK μ h S w pv v:=by
 obtain⟨cur,c,z,h1,_⟩:=hc;obtain⟨o,h2,h3⟩:=a;obtain rfl:=alb (h1.symm.trans h2);obtain⟨rfl,rfl,q1,q2⟩:=h3;exact⟨cur,h1,q1,q2⟩
theorem dT.H8 {C:PV->Value->Prop} {w:World} {b base sz n:Nat} {e:TypeId} {f:Nat->List PV} (a:∃cur:Array Value,w.heap[b]? =some (.cells cur e (0,0))/\base+n*sz<=cur.size/\
    ∀(i j:Nat) (pv:PV),i<n->(f i)[j]? =some pv->∃v:Value,cur[base+i*sz+j]? =some v/\C pv v):∃o:Obj,w.heap[b]? =some o/\Cd C base sz n e f o:=by
 obtain⟨cur,h1,h2,h3⟩:=a;exact⟨_,h1,rfl,rfl,h2,h3⟩
def H9 (μ:Mu) (h:List au) (b:Nat):Prop:=∃(id g sz n:Nat) (e:TypeId) (f:Nat->List PV) (base:Nat),h[id]? =some (au.row g sz n e f)/\μ id=some (b,base)
def fg (h:List au) (id i j b:Nat):Prop:=∃(g sz n:Nat) (e:TypeId) (f:Nat->List PV) (a c:Nat) (d:TypeId) (k:Nat->List PV) (F:Nat->Prop),h[id]? =some (au.row g sz n e f)/\i<n/\(f i)[j]? =some (.aX a c d k F)/\F b
def dX (μ:Mu) (h:List au) (b:Nat):Prop:=H9 μ h b\/∃id i j,fg h id i j b
def Va (S:Nat->Prop) (w:World):Prop:=(∀p,p∈Ls->S p.1/\∃t z,w.heap[p.1]? =some (.cells p.2 t z))/\(∀g,g∈Cz->S g/\∃a p t z,w.heap[g]? =some (.cells #[.iface a p] t z))/\
 ∀g,g∈SX->S g/\∃m t z,w.heap[g]? =some (.cells #[.int .i64 m] t z)
theorem Va.pO {S S':Nat->Prop} {w w':World} (h:Va S w) (a:∀b,S b->w'.heap[b]? =w.heap[b]?) (hs:∀b,S b->S' b):Va S' w':=
 ⟨λp hp=>⟨hs _ (h.1 p hp).1,by rw[a _ (h.1 p hp).1];exact(h.1 p hp).2⟩,λg hg=>⟨hs _ (h.2.1 g hg).1,by rw[a _ (h.2.1 g hg).1];exact(h.2.1 g hg).2⟩,
  λg hg=>⟨hs _ (h.2.2 g hg).1,by rw[a _ (h.2.2 g hg).1];exact(h.2.2 g hg).2⟩⟩
structure yI (μ:Mu) (h:List au) (S:Nat->Prop) (w:World):Prop where
 apart:∀b,dX μ h b->¬S b
 lt:∀b,dX μ h b->b<w.heap.size
 slt:∀b,S b->b<w.heap.size
 inj:∀(i j g sz n:Nat) (e:TypeId) (f:Nat->List PV) (g' dk n':Nat) (e':TypeId) (f':Nat->List PV) (b o o':Nat),h[i]? =some (au.row g sz n e f)->h[j]? =some (au.row g' dk n' e' f')->μ i=some (b,o)->μ j=some (b,o')->i=j
 known:Va S w
 hv:∀b,H9 μ h b->∀id i j,¬fg h id i j b
 hh:∀b id i j id' i' j',fg h id i j b->fg h id' i' j' b->id=id'/\i=i'/\j=j'
structure Fr (μ:Mu) (h:List au) (S:Nat->Prop) (w:World) (μ':Mu) (h':List au) (S':Nat->Prop) (w':World):Prop where
 len:h.length<=h'.length
 blocks:∀b,b<w.heap.size->¬dX μ h b->w'.heap[b]? =w.heap[b]?
 sub:∀b,S b->S' b
 new:∀b,S' b->S b\/dX μ h b\/w.heap.size<=b
 own:∀b,dX μ' h' b->dX μ h b\/w.heap.size<=b
 size:w.heap.size<=w'.heap.size
 os:w'.os=w.os
 tape:w'.tape=w.tape
 output:w'.output=w.output
 Ia:∀(id g sz n:Nat) (e:TypeId) (f:Nat->List PV),h[id]? =some (au.row g sz n e f)->match h'[id]? with
  | some (au.row g' dk n' e' _)=>g<=g'/\(g'=g->μ' id=μ id/\dk=sz/\n'=n/\e'=e)
  | some au.dead=>True
  | none=>False
 dead:∀id:Nat,h[id]? =some au.dead->h'[id]? =some au.dead
 dp:∀b k,dX μ h b->oE w b k->oE w' b k
 maps:∀(id g sz n:Nat) (e:TypeId) (f:Nat->List PV) (b base:Nat),h[id]? =some (au.row g sz n e f)->μ id=some (b,base)->xC w b->
  xC w' b/\(h'[id]? =some au.dead\/((∃g' dk n' e' f',h'[id]? =some (au.row g' dk n' e' f'))/\μ' id=some (b,base)))
 Bs:∀b id i j,fg h id i j b->xC w b->xC w' b
def aeE (P:Program) (f:FuncId):Prop:=∃fn c,P.funcs[f]? =some fn/\fn.body=some c/\(fn.name== "runtime.NumGoroutine")=false
def ACall (P:Program) (f:FuncId) (args:List PV) (h:List au) (R:PV->List au->Prop):Prop:=
 aeE P f/\∀(w:World) (vs:Array Value) (μ:Mu) (S:Nat->Prop),dT μ h S w->yI μ h S w->vs.size=args.length->
  (∀(j:Nat) (pv:PV),args[j]? =some pv->∃v:Value,vs[j]? =some v/\mh μ h S w pv v)->
  Calls P f vs w (λe w'=>∃(v:Value) (res:PV) (h':List au) (μ':Mu) (S':Nat->Prop),e=.returned v/\R res h'/\da μ' h' S' w' res v/\dT μ' h' S' w'/\yI μ' h' S' w'/\Fr μ h S w μ' h' S' w')
def cr:PV->Bool
 | .int _ _=>true
 | .bool _=>true
 | .str _=>true
 | .bn=>true
 | .lJ=>true
 | .jk _ _ _=>true
 | .iV _=>true
 | .fn _=>true
 | _=>false
def fI:PV->Bool
 | .aX _ _ _ _ _=>true
 | _=>false
inductive Gi:PV->PV->Prop
 | mk (sz n:Nat) (e:TypeId) (f f':Nat->List PV) (F:Nat->Prop) (hl:∀i,i<n->(f' i).length=(f i).length) (hf:∀(i j:Nat) (pv iI:PV),i<n->(f i)[j]? =some pv->(f' i)[j]? =some iI->fI pv=false->iI=pv) (ho:∀(i j:Nat) (pv iI:PV),i<n->(f i)[j]? =some pv->(f' i)[j]? =some iI->fI pv=true->Gi pv iI)
   (hp:∀(i j:Nat) (iI:PV),i<n->(f' i)[j]? =some iI->cr iI=true):Gi (.aX sz n e f F) (.jk sz n f')
inductive Fz (h η:List au) (k:List Nat):PV->PV->Prop
 | int (k':IntKind) (n:Int):Fz h η k (.int k' n) (.int k' n)
 | bool (b:Bool):Fz h η k (.bool b) (.bool b)
 | str (s:List UInt8):Fz h η k (.str s) (.str s)
 | bn:Fz h η k .bn .bn
 | lJ:Fz h η k .lJ .lJ
 | abl (sz:Nat) (f:Nat->List PV):Fz h η k .bn (.jk sz 0 f)
 | agn (id id' g' dk:Nat) (e':TypeId) (f':Nat->List PV) (hk:k[id']? =some id) (ho:h[id]? =none) (hη:η[id']? =some (au.row g' dk 0 e' f')):Fz h η k .bn (.own id' g' 0 0)
 | fn (f:Nat):Fz h η k (.fn f) (.fn f)
 | jk (sz n:Nat) (f f':Nat->List PV) (hf:∀i,i<n->f' i=f i):Fz h η k (.jk sz n f) (.jk sz n f')
 | iV (cs:List PV):Fz h η k (.iV cs) (.iV cs)
 | mj (pv:PV):Fz h η k pv .mj
 | aX (sz n:Nat) (e:TypeId) (f:Nat->List PV) (F:Nat->Prop):Fz h η k (.aX sz n e f F) (.aX sz n e f F)
 | tn (sz:Nat) (e:TypeId) (f:Nat->List PV):Fz h η k .bn (.aX sz 0 e f (λ_=>False))
 | own (id id' g g' sz dk n n' off len:Nat) (e e':TypeId) (f f':Nat->List PV) (hk:k[id']? =some id) (ho:h[id]? =some (au.row g sz n e f)) (hη:η[id']? =some (au.row g' dk n' e' f')) (hn:off+len<=n'):Fz h η k (.own id g off len) (.own id' g' off len)
 | bc (id id' g g' sz dk n n' i off:Nat) (e e':TypeId) (f f':Nat->List PV) (hk:k[id']? =some id) (ho:h[id]? =some (au.row g sz n e f)) (hη:η[id']? =some (au.row g' dk n' e' f')) (hn:i<n'):Fz h η k (.bc id g i off) (.bc id' g' i off)
 | pZ (id id' g g' sz dk n n':Nat) (e e':TypeId) (f f':Nat->List PV) (hk:k[id']? =some id) (ho:h[id]? =some (au.row g sz n e f)) (hη:η[id']? =some (au.row g' dk n' e' f')):Fz h η k (.pZ id) (.pZ id')
 | vg (f:Nat) (dp Ds:List (Nat×Nat)) (hl:Ds.length=dp.length) (hc:∀(j:Nat) (p p':Nat×Nat),dp[j]? =some p->Ds[j]? =some p'->k[p'.1]? =some p.1/\(∃sz n e f,h[p.1]? =some (au.row p.2 sz n e f))/\∃sz n e f,η[p'.1]? =some (au.row p'.2 sz n e f)/\0<n):Fz h η k (.vg f dp) (.vg f Ds)
 | frz (id g sz n off len:Nat) (e:TypeId) (f f':Nat->List PV) (hk:id∉k) (ho:h[id]? =some (au.row g sz n e f)) (hl:∀i,i<len->(f' i).length=(f (off+i)).length)
   (hp:∀(i j:Nat) (iI:PV),i<len->(f' i)[j]? =some iI->cr iI=true)
   (hf:∀(i j:Nat) (pv iI:PV),i<len->(f (off+i))[j]? =some pv->(f' i)[j]? =some iI->¬Gi pv iI->Fz h η k pv iI):Fz h η k (.own id g off len) (.jk sz len f')
 | agg (cs D8:List PV) (hl:D8.length=cs.length) (hc:∀(j:Nat) (pv iI:PV),cs[j]? =some pv->D8[j]? =some iI->Fz h η k pv iI):Fz h η k (.agg cs) (.agg D8)
 | kc (cs D8:List PV) (hl:D8.length=cs.length) (hc:∀(j:Nat) (pv iI:PV),cs[j]? =some pv->D8[j]? =some iI->Fz h η k pv iI):Fz h η k (.kc cs) (.kc D8)
def zy (h η:List au) (k:List Nat):List PV->List PV->Prop
 | [],[]=>True
 | a::l,b::r=>Fz h η k a b/\zy h η k l r
 | _,_=>False
def UZ:List Nat->Nat->Bool
 | [],_=>false
 | a::r,x=>match Nat.beq a x with
  | true=>true
  | false=>UZ r x
def uO:List Nat->Bool
 | []=>true
 | a::r=>match UZ r a with
  | true=>false
  | false=>uO r
def uu:List au->List Nat->List Nat
 | .row _ _ _ _ _::r,i::is=>i::uu r is
 | .dead::r,_::is=>uu r is
 | _,_=>[]
def AO (h η:List au) (k:List Nat) (m:Nat) (o:au) (a id:Nat):Prop:=
 match o,h[id]? with
 | .row c d b j l,some (au.row g sz n e f)=>(a<m->a=id/\c=g)/\d=sz/\(b=n\/m<=a/\sz≠2/\b<=n)/\j=e/\
   ∀i,i<b->zy h η k (f i) (l i)
 | .dead,_=>True
 | .row _ _ b _ _,none=>m<=a/\b=0
 | _,_=>False
def fJ (l:List PV) (off:Nat):List PV->List PV
 | []=>l
 | c::r=>fJ (l.set off c) (off+1) r
def cellsOf:PV->List PV
 | .agg cs=>cs
 | v=>[v]
def gg (h:List au) (id:Nat):au:=h.getD id .dead
def force (v:PV) (K:PV->Prop):Prop:=
 match v with
 | .int k n=>K (.int k n)
 | .bool b=>K (.bool b)
 | .str s=>K (.str s)
 | .bn=>K .bn
 | .lJ=>K .lJ
 | .jk sz n f=>K (.jk sz n f)
 | .iV cs=>K (.iV cs)
 | .own id gen off len=>K (.own id gen off len)
 | .bc id gen i off=>K (.bc id gen i off)
 | .pZ id=>K (.pZ id)
 | .vg f dp=>K (.vg f dp)
 | .fn f=>K (.fn f)
 | .agg cs=>K (.agg cs)
 | .kc vs=>K (.kc vs)
 | .mj=>K .mj
 | .aX sz n e f F=>K (.aX sz n e f F)
theorem dG {v:PV} {K:PV->Prop} (h:force v K):K v:=by cases v<;>exact h
def Le (K:List PV->Prop):Nat->List PV->List PV->Prop
 | 0,_,acc=>K acc.reverse
 | _+1,[],_=>False
 | n+1,c::r,acc=>force c λv=>Le K n r (v::acc)
theorem wi {K:List PV->Prop}:∀(n:Nat) (l acc:List PV),Le K n l acc->n<=l.length/\K (acc.reverse++l.take n)
 | 0,l,acc,h=>⟨alc _,by simp only[amu,alv];exact h⟩
 | _+1,[],_,h=>h.elim
 | n+1,c::r,acc,h=>by
  obtain⟨h1,h2⟩:=wi n r (c::acc) (dG h);exact⟨by simp;omega,by simpa using h2⟩
def Et (T:vE) (t:Nat) (cells:List PV) (K:PV->Prop):Prop:=
 match T.get t with
 | .struct sz _ _=>Le (λl=>K (.agg l)) sz cells []
 | .other=>False
 | _=>match cells with
  | c::_=>force c K
  | []=>False
def Dn (T:vE) (t:Nat) (a:PV) (h:List au) (K:PV->Prop):Prop:=
 match a with
 | .iV cells=>Et T t cells K
 | .bc id gen i off=>match gg h id with
  | .row g _ _ _ f=>g=gen/\∃c,f i=c/\Et T t (c.drop off) K
  | .dead=>False
 | _=>False
def bz (f:Nat->List PV) (i:Nat) (l:List PV):Nat->List PV:=λk=>bif Nat.beq k i then l else f k
def E7:List PV->Bool
 | []=>true
 | .int _ _::r=>E7 r
 | .bool _::r=>E7 r
 | .str _::r=>E7 r
 | _=>false
def OX (g:Bool) (q:Bool):Option Bool->Option Bool
 | some c=>match g with
  | true=>some (q&&c)
  | false=>none
 | none=>none
def KE:List PV->List PV->List PV->Option Bool
 | [],[],[]=>some true
 | .int k _::z,.int d a::r,.int e b::c=>OX (xz k d&&xz k e) (a==b) (KE z r c)
 | .bool _::z,.bool a::r,.bool b::c=>OX true (a==b) (KE z r c)
 | .str _::z,.str a::r,.str b::c=>OX true (a==b) (KE z r c)
 | _,_,_=>none
def pt (ti:TI) (a b:PV):Option Bool:=
 match ti,a,b with
 | .int k,.int c x,.int d y=>OX (xz k c&&xz k d) (x==y) (some true)
 | .str,.str x,.str y=>some (x==y)
 | .struct _ _ z,.agg xs,.agg e=>match E7 z with
  | true=>KE z xs e
  | false=>none
 | _,_,_=>none
def KI (ti:TI) (f:Nat->List PV) (n:Nat) (kv:PV):Prop:=∀j,j<n->∃a b,f j=[a,b]/\pt ti kv a=some false
def MAt (ti:TI) (f:Nat->List PV) (n:Nat) (kv:PV) (i:Nat) (r:PV):Prop:=i<n/\KI ti f i kv/\∃a,f i=[a,r]/\pt ti kv a=some true
def Xj (ti:TI) (f:Nat->List PV) (n:Nat) (kv zv r:PV) (b:Bool):Prop:=(b=true/\∃i,MAt ti f n kv i r)\/(b=false/\r=zv/\KI ti f n kv)
def agm (ti:TI) (f:Nat->List PV) (n:Nat) (kv b:PV) (c:Nat) (a:Nat->List PV):Prop:=
 (∃i r,MAt ti f n kv i r/\c=n/\a i=[kv,b]/\∀j,j<n->j≠i->a j=f j)\/(KI ti f n kv/\c=n+1/\a n=[kv,b]/\∀j,j<n->a j=f j)
def Ul (ti:TI) (d:BinOp) (x y:PV) (K:PV->Prop):Prop:=
 match x,y with
 | .int k a,.int e b=>
  match d with
  | .shl=>0<=b/\K (.int k (k.wrap (a*2 ^ min b.toNat k.bits)))
  | .shr=>0<=b/\K (.int k (a.fdiv (2 ^ min b.toNat k.bits)))
  | _=>fG (xz k e)<|match d with
  | .and=>K (.int k (bits .and k a b))
  | .or=>K (.int k (bits .or k a b))
  | .xor=>K (.int k (bits .xor k a b))
  | .andNot=>K (.int k (bits .andNot k a b))
  | .add=>K (.int k (k.wrap (a+b)))
  | .sub=>K (.int k (k.wrap (a - b)))
  | .mul=>K (.int k (k.wrap (a*b)))
  | .quo=>b≠0/\K (.int k (k.wrap (a.tdiv b)))
  | .rem=>b≠0/\K (.int k (a.tmod b))
  | .eql=>K (.bool (a==b))
  | .neq=>K (.bool (a != b))
  | .lss=>K (.bool (decide (a<b)))
  | .leq=>K (.bool (decide (a<=b)))
  | .gtr=>K (.bool (decide (a>b)))
  | .geq=>K (.bool (decide (a>=b)))
  | _=>False
 | .bool a,.bool b=>match ti,d with
  | .bool,.eql=>K (.bool (a==b))
  | .bool,.neq=>K (.bool (!(a==b)))
  | _,_=>False
 | .str a,.str b=>match d with
  | .add=>a.length+b.length<=4611686018427387904/\∃s,a++b=s/\K (.str s)
  | .eql=>K (.bool (a==b))
  | .neq=>K (.bool (!(a==b)))
  | .lss=>K (.bool (Op.bytesLess a b))
  | .leq=>K (.bool (Op.bytesLess a b||a==b))
  | .gtr=>K (.bool !(Op.bytesLess a b||a==b))
  | .geq=>K (.bool !(Op.bytesLess a b))
  | _=>False
 | .agg xs,.agg f=>match ti with
  | .struct _ _ z=>fG (E7 z) (match KE z xs f with
   | some b=>match d with
    | .eql=>∃c,b=c/\K (.bool c)
    | .neq=>∃c,b=c/\K (.bool !c)
    | _=>False
   | none=>False)
  | _=>False
 | _,_=>False
def H0 (x:PV) (lo hi:Option PV) (K:PV->Prop):Prop:=
 match x with
 | .jk sz n f=>match lo,hi with
  | none,none=>K (.jk sz n f)
  | some (.int _ l),none=>(0<=l/\l<=n)/\K (.jk sz (n - l.toNat) (λi=>f (l.toNat+i)))
  | none,some (.int _ m)=>(0<=m/\m<=n)/\K (.jk sz m.toNat f)
  | some (.int _ l),some (.int _ m)=>(0<=l/\l<=m/\m<=n)/\K (.jk sz (m.toNat - l.toNat) (λi=>f (l.toNat+i)))
  | _,_=>False
 | .own id gen off len=>match lo,hi with
  | none,none=>K (.own id gen off len)
  | some (.int _ l),none=>(0<=l/\l<=len)/\K (.own id gen (off+l.toNat) (len - l.toNat))
  | none,some (.int _ m)=>(0<=m/\m<=len)/\K (.own id gen off m.toNat)
  | some (.int _ l),some (.int _ m)=>(0<=l/\l<=m/\m<=len)/\K (.own id gen (off+l.toNat) (m.toNat - l.toNat))
  | _,_=>False
 | .str s=>match lo,hi with
  | none,none=>K (.str s)
  | some (.int _ l),none=>(0<=l/\l<=s.length)/\K (.str (s.drop l.toNat))
  | none,some (.int _ m)=>(0<=m/\m<=s.length)/\K (.str (s.take m.toNat))
  | some (.int _ l),some (.int _ m)=>(0<=l/\l<=m/\m<=s.length)/\K (.str ((s.take m.toNat).drop l.toNat))
  | _,_=>False
 | _=>False
def OZ (K:PV->Prop) (v:PV):Prop:=
 match v with
 | .jk sz n f=>∃a b,a=n/\(∀i,i<a->b i=f i)/\K (.jk sz a b)
 | .str s=>∃c,s=c/\K (.str c)
 | .own id g off n=>∃d a,d=off/\a=n/\K (.own id g d a)
 | v=>K v
def ZN (n:Nat) (hi a:Option PV):Prop:=
 match a with
 | none=>True
 | some (.int _ q)=>match hi with
  | some (.int _ m)=>m<=q/\q<=n
  | _=>False
 | _=>False
def isByte:List PV->Bool
 | [.int .u8 _]=>true
 | _=>false
def byteOf:List PV->UInt8
 | [.int _ v]=>UInt8.ofNat v.toNat
 | _=>0
def Cb (v:PV) (h:List au) (K:List UInt8->Prop):Prop:=
 match v with
 | .bn=>K []
 | .jk sz n f=>fG (Nat.beq sz 1) (∃s:List UInt8,s.length=n/\(∀i,i<n->f i=[.int .u8 (s.getD i 0).toNat])/\K s)
 | .own id gen off n=>match gg h id with
  | .row g sz _ _ f=>g=gen/\fG (Nat.beq sz 1) (∃s:List UInt8,s.length=n/\(∀i,i<n->f (off+i)=[.int .u8 (s.getD i 0).toNat])/\K s)
  | .dead=>False
 | _=>False
def rM:PV->Bool
 | .agg _=>false
 | .kc _=>false
 | .mj=>false
 | .aX _ _ _ _ _=>false
 | _=>true
def storable:PV->Bool
 | .agg cs=>cs.all rM
 | v=>rM v
def wj (env:Env) (sz:Nat) (fl:List (Nat×Nat×Bool)) (K:List PV->Prop):List (Nat×Operand)->List PV->Prop
 | [],acc=>K acc
 | (k,x)::r,acc=>match fl[k]? with
  | some (o,size,_)=>force (ev env x) λv=>fG (storable v&&Nat.beq (cellsOf v).length size&&Nat.ble (o+size) sz) (wj env sz fl K r (fJ acc o (cellsOf v)))
  | none=>False
def Ak (env:Env) (K:List (Nat×Nat)->Prop):List Operand->List (Nat×Nat)->Prop
 | [],acc=>K acc.reverse
 | x::r,acc=>match ev env x with
  | .bc id gen 0 0=>Ak env K r ((id,gen)::acc)
  | _=>False
def dN (T:vE) (op:Op) (env:Env) (h:List au) (K:PV->Prop):Prop:=
 match op with
 | .move x=>force (ev env x) K
 | .assign x=>force (ev env x) K
 | .pick c a b=>match ev env c with
  | .bool t=>gu t (force (ev env a) K) (force (ev env b) K)
  | _=>False
 | .binOp q t x y _=>Ul (T.get t) q (ev env x) (ev env y) K
 | .unOp u _ x=>match u,ev env x with
  | .not,.bool b=>K (.bool !b)
  | .neg,.int k n=>K (.int k (k.wrap (0 - n)))
  | _,_=>False
 | .load t a=>Dn T t (ev env a) h K
 | .convert s d x=>match T.get s,T.get d,ev env x with
  | .int _,.int k,.int _ n=>K (.int k (k.wrap n))
  | .slice e _ _ _,.str,v=>match T.get e with
   | .int .u8=>Cb v h (λs=>K (.str s))
   | _=>False
  | _,_,_=>False
 | .nilCheck x=>match ev env x with
  | .iV cs=>K (.iV cs)
  | .bc id gen i off=>match gg h id with
   | .row g _ _ _ _=>g=gen/\K (.bc id gen i off)
   | .dead=>False
  | _=>False
 | .fieldAddr s x k=>match T.get s with
  | .struct _ fl _=>match fl[k]? with
   | some (o,_,_)=>match ev env x with
    | .iV cs=>K (.iV (cs.drop o))
    | .bc id gen i off=>match gg h id with
     | .row g _ _ _ _=>g=gen/\K (.bc id gen i (off+o))
     | .dead=>False
    | _=>False
   | none=>False
  | _=>False
 | .field s x k=>match T.get s with
  | .struct _ fl _=>match fl[k]? with
   | some (o,size,w)=>match ev env x with
    | .agg cs=>match w with
     | true=>Le (λl=>K (.agg l)) size (cs.drop o) []
     | false=>match cs.drop o with
      | c::_=>force c K
      | []=>False
    | _=>False
   | none=>False
  | _=>False
 | .build t parts=>match T.get t with
  | .struct sz fl z=>wj env sz fl (λcs=>K (.agg cs)) parts.toList z
  | _=>False
 | .indexAddr t x i=>match T.get t,ev env x,ev env i with
  | .slice _ sz _ _,.jk m n f,.int _ i=>fG (Nat.beq sz m) ((0<=i/\i<n)/\∃c,f i.toNat=c/\K (.iV c))
  | .slice _ sz _ _,.own id gen off len,.int _ i=>match gg h id with
   | .row g m _ A _=>g=gen/\fG (Nat.beq sz m&&!Nat.beq A Ys) ((0<=i/\i<len)/\∃j,off+i.toNat=j/\K (.bc id gen j 0))
   | .dead=>False
  | _,_,_=>False
 | .index t x i=>match T.get t,ev env x,ev env i with
  | .str,.str s,.int _ i=>(0<=i/\i<s.length)/\∃c,s.getD i.toNat 0=c/\K (.int .u8 (c:UInt8).toNat)
  | _,_,_=>False
 | .lookup t x i ok=>match T.get t,ev env x with
  | .map kt _ zv,.pZ id=>match gg h id with
   | .row _ _ n _ f=>force (ev env i) λkv=>fG (pt (T.get kt) kv kv).isSome (∃r b,Xj (T.get kt) f n kv zv r b/\match ok with
    | true=>K (.kc [r,.bool b])
    | false=>force r K)
   | .dead=>False
  | _,_=>False
 | .makeFunc fn first captured=>match fn with
  | .func f=>fG first.isEmpty (Ak env (λdp=>K (.vg f dp)) captured.toList [])
  | _=>False
 | .extract x i=>match ev env x with
  | .kc vs=>match vs[i]? with
   | some v=>force v K
   | none=>False
  | _=>False
 | .slice t x lo hi p=>match T.get t,ev env x with
  | .slice _ sz _ _,.jk m n f=>fG (Nat.beq sz m) (ZN n (hi.map (ev env)) (p.map (ev env))/\H0 (.jk m n f) (lo.map (ev env)) (hi.map (ev env)) (OZ K))
  | .slice _ sz _ _,.own id gen off len=>match gg h id with
   | .row g m _ _ _=>g=gen/\fG (Nat.beq sz m) (ZN len (hi.map (ev env)) (p.map (ev env))/\H0 (.own id gen off len) (lo.map (ev env)) (hi.map (ev env)) (OZ K))
   | .dead=>False
  | .str,.str s=>fG p.isNone (H0 (.str s) (lo.map (ev env)) (hi.map (ev env)) (OZ K))
  | _,_=>False
 | .call ⟨.builtin .len,args,B⟩=>match args.toList,B.toList with
  | [x],[t]=>match T.get t,ev env x with
   | .slice _ _ _ _,.jk _ n _=>K (.int .i64 n)
   | .slice _ _ _ _,.bn=>K (.int .i64 0)
   | .slice _ _ _ _,.own id gen _ n=>match gg h id with
    | .row g _ _ _ _=>g=gen/\K (.int .i64 n)
    | .dead=>False
   | .str,.str s=>K (.int .i64 s.length)
   | .map _ _ _,.pZ id=>match gg h id with
    | .row _ _ n _ _=>K (.int .i64 n)
    | .dead=>False
   | _,_=>False
  | _,_=>False
 | _=>False
def qk:TI->Nat
 | .struct sz _ _=>sz
 | .other=>0
 | _=>1
def HS:TI->Option (List PV)
 | .int k=>some [.int k 0]
 | .bool=>some [.bool false]
 | .str=>some [.str []]
 | .slice _ _ _ _=>some [.bn]
 | .struct _ _ z=>some z
 | _=>none
def Fc (len:Nat):Nat->List (Nat×Operand)->Bool
 | k,[]=>Nat.beq k len
 | k,(i,_)::r=>Nat.beq i k&&Fc len (k+1) r
def xG (env:Env) (sz:Nat) (K:List (List PV)->Prop):List (Nat×Operand)->List (List PV)->Prop
 | [],acc=>K acc.reverse
 | (_,x)::r,acc=>force (ev env x) λv=>fG (storable v&&Nat.beq (cellsOf v).length sz) (xG env sz K r (cellsOf v::acc))
theorem Fe {env:Env} {sz:Nat} {K:List (List PV)->Prop}:∀(l:List (Nat×Operand)) (acc:List (List PV)),xG env sz K l acc->
  (∀p∈l,storable (ev env p.2)=true/\Nat.beq (cellsOf (ev env p.2)).length sz=true)/\K (acc.reverse++l.map λp=>cellsOf (ev env p.2))
 | [],acc,h=>⟨λp hp=>by simp at hp,by simp only[akE,alv];exact h⟩
 | (i,x)::r,acc,h=>by
  obtain⟨h1,h2⟩:=cO (dG h);simp only[An]at h1;obtain⟨h3,h4⟩:=Fe r _ h2;refine⟨λp hp=>?_,by simpa using h4⟩;simp only[akM]at hp;rcases hp with rfl | hp
  ·exact h1
  ·exact h3 p hp
def noO:List PV->Bool
 | []=>true
 | .aX _ _ _ _ _::_=>false
 | _::r=>noO r
def Sp (x:PV) (h:List au) (sz:Nat) (K:Nat->(Nat->List PV)->Prop):Prop:=
 match x with
 | .bn=>K 0 (λ_=>[])
 | .jk a m g=>fG (Nat.beq sz a) (K m g)
 | .own id gen off m=>match gg h id with
  | .row g a _ _ f=>g=gen/\(∀i,i<m->noO (f (off+i))=true)/\fG (Nat.beq sz a) (K m (λi=>f (off+i)))
  | .dead=>False
 | .str s=>fG (Nat.beq sz 1)<|K s.length (λi=>[.int .u8 (s.getD i 0).toNat])
 | _=>False
def AY (e sz bytes:Nat) (s x:PV) (h:List au) (K:PV->List au->Prop):Prop:=
 match s with
 | .bn=>Sp x h sz λm g=>m*bytes<=140737488355328/\∃a b,a=m/\(∀i,i<a->rF (g i) (b i))/\K (.own h.length 0 0 a) (h++[.row 0 sz a e b])
 | .own id gen off len=>match gg h id with
  | .row g c _ d f=>g=gen/\fG (Nat.beq sz c&&Nat.beq e d) (Sp x h sz λm q=>(len+m)*bytes<=140737488355328/\∃a b,a=len+m/\
    (∀i,i<a->rF (bif Nat.blt i len then f (off+i)else q (i - len)) (b i))/\
    K (.own id (gen+1) 0 a) (h.set id (.row (gen+1) sz a e b)))
  | .dead=>False
 | _=>False
def fjn (f:Nat->List PV) (n:Nat) (q:Nat->List PV):Nat->List PV:=λi=>bif Nat.blt i n then f i else q (i - n)
def PZ (e sz bytes:Nat) (s x:PV) (h:List au) (K:PV->List au->Prop):Prop:=
 match s,x with
 | .bn,.own a b 0 m=>match gg h a with
  | .row c tB _ _ q=>c=b/\fG (Nat.beq sz tB) (m*bytes<=140737488355328/\K (.own h.length 1 0 m) (((h++[au.row 0 sz 0 e (λ_=>[])]).set h.length (au.row 1 sz m e q)).set a au.dead))
  | .dead=>False
 | .own id gen 0 len,.own a b 0 m=>match gg h id with
  | .row g d _ i f=>match gg h a with
   | .row c tB _ _ q=>g=gen/\c=b/\fG (Nat.beq sz d&&(Nat.beq e i&&(Nat.beq sz tB&&!Nat.beq a id))) ((len+m)*bytes<=140737488355328/\K (.own id (gen+1) 0 (len+m)) ((h.set id (au.row (gen+1) sz (len+m) e (fjn f len q))).set a au.dead))
   | .dead=>False
  | .dead=>False
 | _,_=>False
inductive Sr (e sz bytes:Nat) (s x:PV) (h:List au) (K:PV->List au->Prop):Prop
 | pO (hp:AY e sz bytes s x h K)
 | move (hp:PZ e sz bytes s x h K)
def qo:PV->Bool
 | .kc _=>false
 | _=>true
inductive Bh (P:Program) (f:FuncId) (args:List PV) (h:List au) (K:PV->List au->Prop):Prop
 | mk (R:PV->List au->Prop) (hA:ACall P f args h R) (hk:∀res h',R res h'->K res h')
def pop (P:Program) (T:vE) (op:Op) (env:Env) (h:List au) (K:PV->List au->Prop):Prop:=
 match op with
 | .store t a x=>match ev env a with
  | .bc id gen i off=>match gg h id with
   | .row g sz n e f=>g=gen/\force (ev env x) λv=>fG (storable v&&Nat.ble 1 (qk (T.get t))&&Nat.beq (qk (T.get t)) (cellsOf v).length&&Nat.ble (off+(cellsOf v).length) sz)
     (∃c o,f i=c/\(∀j,j<n->rF (bz f i (fJ c off (cellsOf v)) j) (o j))/\K .mj (h.set id (.row g sz n e o)))
   | .dead=>False
  | _=>False
 | .box t x=>force (ev env x) λv=>fG (storable v&&Nat.beq (cellsOf v).length (qk (T.get t))) (K (.bc h.length 0 0 0) (h++[.row 0 (qk (T.get t)) 1 t (λ_=>cellsOf v)]))
 | .alloc t=>match HS (T.get t)with
  | some z=>K (.bc h.length 0 0 0) (h++[.row 0 (qk (T.get t)) 1 t (λ_=>z)])
  | none=>False
 | .makeSlice t l c=>match T.get t,ev env l,ev env c with
  | .slice e sz bytes zero,.int _ n,.int _ m=>(0<=n/\n<=m/\m<=4611686018427387904/\m.toNat*bytes<=140737488355328)/\∃q o,q=n.toNat/\(∀i,i<q->rF zero (o i))/\K (.own h.length 0 0 q) (h++[.row 0 sz q e o])
  | _,_,_=>False
 | .buildSlice t len parts=>match T.get t with
  | .slice e sz _ _=>fG (Fc len 0 parts.toList&&Nat.ble (len*sz) 65536) (xG env sz (λcs=>∃o,(∀i,i<len->rF (cs.getD i []) (o i))/\K (.own h.length 0 0 len) (h++[.row 0 sz len e o])) parts.toList [])
  | _=>False
 | .convert s d x=>match T.get s,T.get d,ev env x with
  | .str,.slice e _ _ _,.str b=>match T.get e with
   | .int .u8=>∃o,(∀i,i<b.length->o i=[.int .u8 (b.getD i 0).toNat])/\K (.jk 1 b.length o) h
   | _=>False
  | _,_,_=>dN T (.convert s d x) env h (λv=>K v h)
 | .binOp u t x y ty=>match u,T.get t,ev env x,ev env y with
  | .eql,.slice _ _ _ _,.jk _ n _,.bn=>(n=0->K (.bool true) h)/\K (.bool false) h
  | _,_,_,_=>dN T (.binOp u t x y ty) env h (λv=>K v h)
 | .makeMap t none=>match T.get t with
  | .map _ _ _=>∃o,K (.pZ h.length) (h++[.row 0 2 0 t o])
  | _=>False
 | .mapUpdate t m k x=>match T.get t,ev env m with
  | .map kt _ _,.pZ id=>match gg h id with
   | .row g sz n e f=>force (ev env k) λkv=>force (ev env x) λr=>fG ((pt (T.get kt) kv kv).isSome&&oD r&&storable r&&Nat.beq sz 2)
     (∃q o,agm (T.get kt) f n kv r q o/\K .mj (h.set id (.row (g+1) 2 q e o)))
   | .dead=>False
  | _,_=>False
 | .call ⟨.builtin .append,args,w⟩=>match args.toList,w.toList with
  | [s,x],[t,A]=>match T.get t,T.get A with
   | .slice e sz bytes _,.slice _ _ _ _=>Sr e sz bytes (ev env s) (ev env x) h K
   | .slice e sz bytes _,.str=>Sr e sz bytes (ev env s) (ev env x) h K
   | _,_=>False
  | _,_=>False
 | .call ⟨.value B,args,_⟩=>match ev env B with
  | .fn f=>fG (args.toList.all (λx=>qo (ev env x))) (Bh P f (args.toList.map (ev env)) h K)
  | .vg f dp=>fG (args.toList.all (λx=>qo (ev env x))) (Bh P f (args.toList.map (ev env)++dp.map λp=>.bc p.1 p.2 0 0) h K)
  | _=>False
 | op=>dN T op env h (λv=>K v h)
def AG (P:Program) (T:vE) (all:List Oper) (K:Env->List au->Prop) (l:List Oper):Env->List au->Prop:=
 List.rec (motive:=λ_=>Env->List au->Prop) K (λo _ a env h=>match o.guard with
  | none=>pop P T o.op env h (λv h'=>a (gQ env o.dst v) h')
  | some (j,want)=>match(all[j]?).bind (·.dst)with
   | some t=>match env t with
    | .bool b=>gu b
      (match want with
       | true=>pop P T o.op (wJ env t (.bool true)) h (λv h'=>a (gQ (wJ env t (.bool true)) o.dst v) h')
       | false=>a (gQ (wJ env t (.bool true)) o.dst (.kc [])) h)
      (match want with
       | true=>a (gQ (wJ env t (.bool false)) o.dst (.kc [])) h
       | false=>pop P T o.op (wJ env t (.bool false)) h (λv h'=>a (gQ (wJ env t (.bool false)) o.dst v) h'))
    | .kc []=>a (gQ env o.dst (.kc [])) h
    | _=>False
   | none=>False) l
abbrev XQ:=Exit->Env->List au->Prop
def XQ.then (next:Env->List au->Prop) (Q:XQ):XQ
 | .normal,env,h=>next env h
 | e,env,h=>Q e env h
def XQ.inBlock (id:Nat) (Q:XQ):XQ
 | .exit a,env,h=>match Nat.beq a id with
  | true=>Q .normal env h
  | false=>Q (.exit a) env h
 | e,env,h=>Q e env h
def CG (h η:List au) (k:List Nat) (env:Env):List (Nat×PV)->Prop
 | []=>True
 | (t,v)::r=>Fz h η k (env t) v/\CG h η k env r
def qe (h η:List au) (k:List Nat) (m:Nat):Nat->List au->List Nat->Prop
 | _,[],[]=>True
 | i,o::r,id::a=>AO h η k m o i id/\qe h η k m (i+1) r a
 | _,_,_=>False
def Dt (m:Nat) (env:Env) (h:List au) (σ:List (Nat×PV)) (η:List au):Prop:=
 ∃k:List Nat,uO (uu η k)=true/\m<=k.length/\CG h η k env σ/\qe h η k m 0 η k
def vm:Env:=λ_=>.mj
def Pj (h h1:List au):Prop:=∃(id g sz n:Nat) (e:TypeId) (f:Nat->List PV) (i j c a:Nat) (d:TypeId) (l:Nat->List PV) (F:Nat->Prop) (b:Nat->List PV),h[id]? =some (au.row g sz n e f)/\i<n/\
 (f i)[j]? =some (.aX c a d l F)/\b i=(f i).set j (.own h.length 0 0 a)/\(∀k,k<n->k≠i->b k=f k)/\h1=h.set id (.row g sz n e b)++[.row 0 c a d l]
def Lz (h:List au) (id i j sub:Nat) (F:Nat->Prop) (h1:List au):Prop:=∃(g sz n:Nat) (e:TypeId) (f:Nat->List PV) (g2 tB n2:Nat) (e2:TypeId) (f2 a:Nat->List PV),h[id]? =some (au.row g sz n e f)/\h[sub]? =some (au.row g2 tB n2 e2 f2)/\
 id≠sub/\i<n/\(f i)[j]? =some (.own sub g2 0 n2)/\(∀k,k<n2->∀c,c∈f2 k->cr c=true\/fI c=true)/\a i=(f i).set j (.aX tB n2 e2 f2 F)/\(∀k,k<n->k≠i->a k=f k)/\
 h1=(h.set id (.row g sz n e a)).set sub .dead
inductive xc (m:Nat) (body:(Env->List au->Prop)->Env->List au->Prop):Env->List au->Prop
 | take {env:Env} {h:List au} (σ:List (Nat×PV)) (η:List au) (ht:Dt m env h σ η) (hk:xc m body (Gr vm σ) η):xc m body env h
 | step {env:Env} {h:List au} (N:Env->List au->Prop) (hN:∀e h',N e h'->xc m body e h') (hb:body N env h):xc m body env h
 | ex {env:Env} {h:List au} (h1:List au) (hx:Pj h h1) (hk:xc m body env h1):xc m body env h
 | ab {env:Env} {h:List au} (id i j sub:Nat) (h1:(Nat->Prop)->List au) (ha:∀F,Lz h id i j sub F (h1 F)) (hk:∀F,xc m body env (h1 F)):xc m body env h
def aw (m:Nat) (body:(Env->List au->Prop)->Env->List au->Prop) (σ:List (Nat×PV)) (η:List au):Prop:=xc m body (Gr vm σ) η
inductive loopGo (m:Nat) (body:(Env->List au->Prop)->Env->List au->Prop) (env:Env):List au->Prop
 | mk {h:List au} (σ:List (Nat×PV)) (η:List au) (ht:Dt m env h σ η) (hk:aw m body σ η):loopGo m body env h
 | ex {h:List au} (h1:List au) (hx:Pj h h1) (hk:loopGo m body env h1):loopGo m body env h
 | ab {h:List au} (id i j sub:Nat) (h1:(Nat->Prop)->List au) (ha:∀F,Lz h id i j sub F (h1 F)) (hk:∀F,loopGo m body env (h1 F)):loopGo m body env h
theorem loopGo.to {m:Nat} {body:(Env->List au->Prop)->Env->List au->Prop} {env:Env} {h:List au} (hg:loopGo m body env h):xc m body env h:=by
 induction hg with
 | mk σ η c a=>exact .take σ η c a
 | ex h1 d a b=>exact .ex h1 d b
 | ab id i j sub h1 e a b=>exact .ab id i j sub h1 e b
theorem aw.enter {m:Nat} {body:(Env->List au->Prop)->Env->List au->Prop} {env:Env} {h:List au} (σ:List (Nat×PV)) (η:List au) (a:Dt m env h σ η) (b:aw m body σ η):xc m body env h:=.take σ η a b
theorem aw.round {m:Nat} {body:(Env->List au->Prop)->Env->List au->Prop} {σ:List (Nat×PV)} {η:List au} (a:body (loopGo m body) (Gr vm σ) η):aw m body σ η:=
 .step (loopGo m body) (λ_ _ hg=>hg.to) a
inductive Du (m:Nat) (J:List (Nat×PV)->List au->Prop) (env:Env):List au->Prop
 | mk {h:List au} (σ:List (Nat×PV)) (η:List au) (ht:Dt m env h σ η) (hj:J σ η):Du m J env h
 | ex {h:List au} (h1:List au) (hx:Pj h h1) (hk:Du m J env h1):Du m J env h
 | ab {h:List au} (id i j sub:Nat) (h1:(Nat->Prop)->List au) (ha:∀F,Lz h id i j sub F (h1 F)) (hk:∀F,Du m J env (h1 F)):Du m J env h
inductive Au (m:Nat) (A B:XQ->Env->List au->Prop) (Q:XQ) (env:Env):List au->Prop
 | direct {h:List au} (hd:A (XQ.then (B Q) Q) env h):Au m A B Q env h
 | cut {h:List au} (J:List (Nat×PV)->List au->Prop) (ha:A (XQ.then (Du m J) Q) env h) (hb:∀σ η,J σ η->B Q (Gr vm σ) η):Au m A B Q env h
 | ex {h:List au} (h1:List au) (hx:Pj h h1) (hk:Au m A B Q env h1):Au m A B Q env h
 | ab {h:List au} (id i j sub:Nat) (h1:(Nat->Prop)->List au) (ha:∀F,Lz h id i j sub F (h1 F)) (hk:∀F,Au m A B Q env (h1 F)):Au m A B Q env h
def Lc:Op->Bool
 | .call ⟨.value _,_,_⟩=>false
 | .call ⟨.builtin .append,_,_⟩=>false
 | .call ⟨.builtin .copy,_,_⟩=>false
 | .store _ _ _=>false
 | .box _ _=>false
 | .alloc _=>false
 | .makeSlice _ _ _=>false
 | .buildSlice _ _ _=>false
 | .makeMap _ _=>false
 | .mapUpdate _ _ _ _=>false
 | _=>true
def Cx:PV->Bool
 | .int _ _=>true
 | .bool _=>true
 | .str _=>true
 | .bn=>true
 | _=>false
def Yi (P:Program) (b:PV) (args:List PV) (h:List au) (K:PV->Prop):Prop:=
 match b with
 | .fn f=>fG (args.all qo) (∃(a:List PV) (v:PV),zy h [] [] args a/\a.all qo=true/\ACall P f a [] (λres _=>res=v)/\fG (Cx v) (K v))
 | _=>False
def qop (P:Program) (T:vE) (op:Op) (env:Env) (h:List au) (K:PV->Prop):Prop:=
 match op with
 | .call ⟨.value a,args,_⟩=>Yi P (ev env a) (args.toList.map (ev env)) h K
 | op=>dN T op env h K
def Cq (P:Program) (T:vE) (all:List Oper) (h:List au) (K:Env->Prop) (l:List Oper):Env->Prop:=
 List.rec (motive:=λ_=>Env->Prop) K (λo _ a env=>match o.guard with
  | none=>qop P T o.op env h (λv=>a (gQ env o.dst v))
  | some (j,want)=>match(all[j]?).bind (·.dst)with
   | some t=>match env t with
    | .bool b=>gu b
      (match want with
       | true=>qop P T o.op (wJ env t (.bool true)) h (λv=>a (gQ (wJ env t (.bool true)) o.dst v))
       | false=>a (gQ (wJ env t (.bool true)) o.dst (.kc [])))
      (match want with
       | true=>a (gQ (wJ env t (.bool false)) o.dst (.kc []))
       | false=>qop P T o.op (wJ env t (.bool false)) h (λv=>a (gQ (wJ env t (.bool false)) o.dst v)))
    | .kc []=>a (gQ env o.dst (.kc []))
    | _=>False
   | none=>False) l
def uU:List Nat->Nat->Bool
 | [],_=>false
 | a::r,x=>match Nat.beq a x with
  | true=>true
  | false=>uU r x
def qd:PV->List Nat
 | .own id _ _ _=>[id]
 | .bc id _ _ _=>[id]
 | .pZ id=>[id]
 | .vg _ dp=>dp.map (·.1)
 | _=>[]
abbrev oy:=List (Nat×List (Nat×Bool))
def ux (env:Env) (op:Op):List (Nat×Bool):=match op with
 | .move _=>[]
 | .fieldAddr _ x _=>(qd (ev env x)).map λid=>(id,true)
 | .nilCheck x=>(qd (ev env x)).map λid=>(id,true)
 | _=>(op.operands.toList.flatMap λx=>qd (ev env x)).map λid=>(id,false)
def U3:au->Option Nat
 | .row g _ _ _ _=>some g
 | .dead=>none
def Lf (h h':List au) (c:Nat×Bool):Prop:=match c.2 with
 | false=>gg h c.1=gg h' c.1
 | true=>U3 (gg h c.1)=U3 (gg h' c.1)
theorem Lf.refl (h:List au) (c:Nat×Bool):Lf h h c:=by unfold Lf;split<;>rfl
def Yk (o:Oper):List Nat:=o.after.toList.filterMap λe=>match Region.binds .any e with | true=>some e.on | false=>none
def fh (all:List Oper) (i:Nat):List Nat:=match all[i]? with | some o=>Yk o | none=>[]
def iS:List (Nat×List Nat)->Nat->List Nat
 | [],_=>[]
 | (j,A)::r,i=>match Nat.beq j i with | true=>A | false=>iS r i
def ddL:List Nat->List Nat->List Nat
 | [],acc=>acc
 | a::r,acc=>match uU acc a with | true=>ddL r acc | false=>ddL r (a::acc)
def Nn (all:List Oper):List (Nat×Bool)->List (Nat×List Nat)->List (Nat×List Nat)
 | [],t=>t
 | (i,_)::r,t=>Nn all r ((i,ddL (fh all i++(fh all i).flatMap (iS t)) [])::t)
def A2 (ops:Array Oper) (i j:Nat):Bool:=match ops[i]?,ops[j]? with | some x,some y=>Oper.apart ops x y | _,_=>false
def ma (ops:Array Oper) (t:List (Nat×List Nat)) (p i:Nat×Bool):Bool:=
 !(Nat.beq p.1 i.1)&&!(uU (fh ops.toList p.1) i.1)&&(uU (fh ops.toList i.1) p.1||(A2 ops p.1 i.1&&(p.2||uU (iS t i.1) p.1)))
def dU (ops:Array Oper) (t:List (Nat×List Nat)):List (Nat×Bool)->Bool
 | []=>true
 | p::r=>r.all (ma ops t p)&&dU ops t r
def TJ (ops:Array Oper) (ord:List (Nat×Bool)):Bool:=
 Nat.beq ord.length ops.size&&(List.range ops.size).all (λj=>uU (ord.map (·.1)) j)&&ord.all (λp=>Nat.blt p.1 ops.size&&(fh ops.toList p.1).all (λd=>Nat.blt d ops.size&&!(Nat.beq d p.1)))&&dU ops (Nn ops.toList ord []) ord
def Nt (h h':List au) (K:Prop):List (Nat×Bool)->Prop
 | []=>K
 | id::r=>Lf h h' id/\Nt h h' K r
def xl (a:List Nat) (h h':List au) (K:Prop):oy->Prop
 | []=>K
 | (j,ids)::r=>match uU a j with
  | true=>xl a h h' K r
  | false=>Nt h h' (xl a h h' K r) ids
def Kt (P:Program) (T:vE) (st:Bool) (op:Op) (env:Env) (h:List au) (G:PV->List au->Prop):Prop:=
 match st with
 | true=>dN T op env h (λv=>G v h)
 | false=>pop P T op env h G
def BF (P:Program) (T:vE) (all:List Oper) (st:Bool) (o:Oper) (F:Env->PV->List au->Prop) (env:Env) (h:List au):Prop:=
 match o.guard with
 | none=>Kt P T st o.op env h (F env)
 | some (j,want)=>match(all[j]?).bind (·.dst)with
  | some t=>match env t with
   | .bool b=>gu b
     (match want with
      | true=>Kt P T st o.op (wJ env t (.bool true)) h (F (wJ env t (.bool true)))
      | false=>F (wJ env t (.bool true)) (.kc []) h)
     (match want with
      | true=>F (wJ env t (.bool false)) (.kc []) h
      | false=>Kt P T st o.op (wJ env t (.bool false)) h (F (wJ env t (.bool false))))
   | .kc []=>F env (.kc []) h
   | _=>False
  | none=>False
def fw (P:Program) (T:vE) (all:List Oper) (t:List (Nat×List Nat)) (K:Env->List au->Prop) (l:List (Nat×Bool)):oy->Env->List au->Prop:=
 List.rec (motive:=λ_=>oy->Env->List au->Prop) (λ_ env h=>K env h) (λp _ b a env h=>match all[p.1]? with
  | some o=>match p.2 with
   | true=>BF P T all true o (λenv' v h'=>b ((p.1,ux env' o.op)::a) (gQ env' o.dst v) h') env h
   | false=>BF P T all false o (λenv' v h'=>xl (iS t p.1) h h' (b a (gQ env' o.dst v) h') a) env h
  | none=>False) l
def fwE (P:Program) (T:vE) (all:List Oper) (t:List (Nat×List Nat)) (E:oy->Env->List au->Prop) (l:List (Nat×Bool)):oy->Env->List au->Prop:=
 List.rec (motive:=λ_=>oy->Env->List au->Prop) (λa env h=>E a env h) (λp _ b a env h=>match all[p.1]? with
  | some o=>match p.2 with
   | true=>BF P T all true o (λenv' v h'=>b ((p.1,ux env' o.op)::a) (gQ env' o.dst v) h') env h
   | false=>BF P T all false o (λenv' v h'=>xl (iS t p.1) h h' (b a (gQ env' o.dst v) h') a) env h
  | none=>False) l
def Ym (ops:Array Oper) (t:List (Nat×List Nat)) (ord:List (Nat×Bool)) (x y:Nat) (a b:List Nat):Bool:=
 Nat.beq a.length b.length&&ord.all (λp=>ma ops t p (x,false)&&ma ops t p (y,false)&&(fh ops.toList p.1).all (λd=>!(uU (x::a) d))&&!(uU (x::a) p.1))&&
  (x::a).all (λj=>uU (y::b) j)&&(y::b).all (λj=>uU (x::a) j)&&(fh ops.toList x).all (λd=>!(uU (x::a) d))&&!(uU a x)&&!(uU b y)&&
  a.all (λj=>Nat.beq j y||uU (iS t j) x||uU (iS t j) y)
abbrev xj:=List (List (Nat×Bool)×Nat×Nat×List (Nat×Bool))
def Ku:xj->List (Nat×Bool)->List (Nat×Bool)
 | [],fin=>fin
 | c::r,fin=>c.1++(c.2.1,false)::Ku r fin
def fwC (P:Program) (T:vE) (all:List Oper) (t:List (Nat×List Nat)) (K:Env->List au->Prop) (fin:List (Nat×Bool)) (cs:xj):oy->Env->List au->Prop:=
 List.rec (motive:=λ_=>oy->Env->List au->Prop) (λa env h=>fw P T all t K fin a env h)
  (λc _ b a env h=>fwE P T all t (λa env h=>fwE P T all t b [(c.2.1,false)] a env h/\fw P T all t K ((c.2.2.1,false)::c.2.2.2) a env h) c.1 a env h) cs
def U1 (ops:Array Oper) (t:List (Nat×List Nat)) (fin:List (Nat×Bool)):xj->List (Nat×Bool)->Bool
 | [],pre=>dU ops t (pre++fin)
 | c::r,pre=>Ym ops t (pre++c.1) c.2.1 c.2.2.1 ((Ku r fin).map (·.1)) (c.2.2.2.map (·.1))&&dU ops t ((pre++c.1)++c.2.2.2)&&U1 ops t fin r (pre++c.1)
def Jc (ops:Array Oper) (cs:xj) (fin:List (Nat×Bool)):Bool:=
 (λall=>(λt=>Nat.beq all.length ops.size&&(List.range ops.size).all (λj=>uU (all.map (·.1)) j)&&all.all (λp=>Nat.blt p.1 ops.size&&(fh ops.toList p.1).all (λd=>Nat.blt d ops.size&&!(Nat.beq d p.1)))&&
  U1 ops t fin cs []) (Nn ops.toList all [])) (Ku cs fin)
inductive Jd (P:Program) (T:vE) (m:Nat) (ops:Array Oper) (K:Env->List au->Prop) (env:Env) (h:List au):Prop
 | quiet (hq:Cq P T ops.toList h (λenv'=>K env' h) ops.toList env):Jd P T m ops K env h
 | QW (cs:xj) (fin:List (Nat×Bool)) (hc:Jc ops cs fin=true) (hf:fwC P T ops.toList (Nn ops.toList (Ku cs fin) []) K fin cs [] env h):Jd P T m ops K env h
 | float (ord:List (Nat×Bool)) (hc:TJ ops ord=true) (hf:fw P T ops.toList (Nn ops.toList ord []) K ord [] env h):Jd P T m ops K env h
def abE (Q:XQ) (env:Env) (h:List au):Prop:=Q .normal env h
def agQ (Q:XQ) (h:List au) (env:Env):Prop:=Q .normal env h
def vc (P:Program) (T:vE) (m:Nat) (c:Code):XQ->Env->List au->Prop:=
 Code.rec (motive:=λ_=>XQ->Env->List au->Prop)
  (λQ env h=>Q .normal env h)
  (λ_ ops d Q env h=>match d with
   | false=>AG P T ops.toList (Q .normal) ops.toList env h
   | true=>match ops.toList.all (λo=>Lc o.op)with
    | true=>Cq P T ops.toList h (agQ Q h) ops.toList env
    | false=>Jd P T m ops (abE Q) env h)
  (λ_ _ a b Q env h=>Au m a b Q env h)
  (λc _ _ a b Q env h=>match ev env c with
   | .bool t=>gu t (a Q env h) (b Q env h)
   | _=>False)
  (λid _ e Q env h=>e (XQ.inBlock id Q) env h)
  (λ_ e Q env h=>xc m (λnext=>e (XQ.then next Q)) env h)
  (λ_ _ _ _ _ _ _ _ _=>False)
  (λid Q env h=>Q (.exit id) env h)
  (λ_ _ _ _ _=>False)
  (λ_ Q env h=>Q .normal env h)
  (λ_ _ _ _=>False)
  (λQ env h=>Q .ret env h)
  (λ_ _ _ _=>False) c
def codeOk (nt:Nat):Code->Bool
 | .region _ ops d=>ops.toList.all (λo=>match o.dst with | some t=>Nat.blt t nt | none=>true)&&(!d||Region.lexB .any ops)
 | .seq a b=>codeOk nt a&&codeOk nt b
 | .cond _ a b=>codeOk nt a&&codeOk nt b
 | .block _ c=>codeOk nt c
 | .loop c=>codeOk nt c
 | _=>true
def A4 (T:vE) (env:Env) (h:List au):List ResultVar->(List PV->Prop)->Prop
 | [],K=>K []
 | .tmp t::r,K=>A4 T env h r (λvs=>K (env t::vs))
 | .cell t ty::r,K=>Dn T ty (env t) h (λv=>A4 T env h r (λvs=>K (v::vs)))
def oneOf:List PV->PV
 | [v]=>v
 | vs=>.kc vs
inductive Ends (m:Nat) (R:PV->List au->Prop):List au->List PV->Prop
 | mk {h:List au} {vs:List PV} (hn:vs.all qo=true) (k:List Nat) (res:PV) (η:List au) (hk:uO (uu η k)=true) (hm:m<=k.length) (hz:Fz h η k (oneOf vs) res) (hh:qe h η k m 0 η k) (hR:R res η):Ends m R h vs
 | ex {h:List au} {vs:List PV} (h1:List au) (hx:Pj h h1) (hk:Ends m R h1 vs):Ends m R h vs
 | ab {h:List au} {vs:List PV} (id i j sub:Nat) (h1:(Nat->Prop)->List au) (ha:∀F,Lz h id i j sub F (h1 F)) (hk:∀F,Ends m R (h1 F) vs):Ends m R h vs
def aeC (T:vE) (rs:List ResultVar) (m:Nat) (R:PV->List au->Prop):XQ
 | .ret,env,h=>A4 T env h rs (Ends m R h)
 | .normal,env,h=>A4 T env h rs (Ends m R h)
 | _,_,_=>False
def zE (args:List PV):Env:=λt=>args.getD t .mj
def SC (env env':Env) (op:Op):Prop:=∀x,x∈op.operands.toList->ev env x=ev env' x
def aeg (h h':List au) (env:Env) (op:Op):Prop:=∀x,x∈op.operands.toList->∀id,id∈qd (ev env x)->gg h id=gg h' id
theorem mW {v:PV} {K:PV->Prop} (h:K v):force v K:=by cases v<;>exact h
theorem Jf {env env':Env} {sz:Nat} {fl:List (Nat×Nat×Bool)} {K:List PV->Prop}:∀(l:List (Nat×Operand)) (acc:List PV),(∀p,p∈l->ev env p.2=ev env' p.2)->wj env sz fl K l acc=wj env' sz fl K l acc
 | [],acc,_=>rfl
 | (k,x)::r,acc,hs=>by
  have e:=hs (k,x) aon;simp only at e;unfold wj;rw[e];split
  ·congr 1;funext v;rw[Jf r _ (λp hp=>hs p (akP _ hp))]
  ·rfl
theorem Jg {env env':Env} {sz:Nat} {K:List (List PV)->Prop}:∀(l:List (Nat×Operand)) (acc:List (List PV)),(∀p,p∈l->ev env p.2=ev env' p.2)->xG env sz K l acc=xG env' sz K l acc
 | [],acc,_=>rfl
 | (k,x)::r,acc,hs=>by
  have e:=hs (k,x) aon;simp only at e;unfold xG;rw[e];congr 1;funext v;rw[Jg r _ (λp hp=>hs p (akP _ hp))]
theorem SD {env env':Env} {o:Option Operand} (hs:∀x,o=some x->ev env x=ev env' x):o.map (ev env)=o.map (ev env'):=by
 cases o with
 | none=>rfl
 | some x=>simp [hs x rfl]
theorem Lg {env env':Env} {K:List (Nat×Nat)->Prop}:∀(l:List Operand) (acc:List (Nat×Nat)),(∀x,x∈l->ev env x=ev env' x)->Ak env K l acc=Ak env' K l acc
 | [],_,_=>rfl
 | x::r,acc,hs=>by
  unfold Ak;rw[hs x aon];split
  ·exact Lg r _ (λy hy=>hs y (akP _ hy))
  ·rfl
theorem DO {T:vE} {env env':Env} {h:List au} {K:PV->Prop} (op:Op) (hs:SC env env' op):dN T op env h K=dN T op env' h K:=by
 cases op with
 | move x=>simp only[dN,hs x aoo]
 | assign x=>simp only[dN,hs x aoo]
 | pick c a b=>simp only[dN,hs c aoo,hs a aoo,hs b aoo]
 | binOp m t x y n=>simp only[dN,hs x aoo,hs y aoo]
 | unOp u t x=>simp only[dN,hs x aoo]
 | load t a=>simp only[dN,hs a aoo]
 | convert s d x=>simp only[dN,hs x aoo]
 | nilCheck x=>simp only[dN,hs x aoo]
 | fieldAddr s x k=>simp only[dN,hs x aoo]
 | field s x k=>simp only[dN,hs x aoo]
 | build t parts=>
  have e:∀sz fl (K:List PV->Prop) z,wj env sz fl K parts.toList z=wj env' sz fl K parts.toList z:=λsz fl K z=>Jf _ _ (λp hp=>hs p.2 apb);simp only[dN,e]
 | indexAddr t x i=>simp only[dN,hs x aoo,hs i aoo]
 | index t x i=>simp only[dN,hs x aoo,hs i aoo]
 | extract x i=>simp only[dN,hs x aoo]
 | lookup t x i ok=>simp only[dN,hs x aoo,hs i aoo]
 | makeFunc fn first captured=>
  have e:∀(K:List (Nat×Nat)->Prop) acc,Ak env K captured.toList acc=Ak env' K captured.toList acc:=λK acc=>Lg _ _ (λx f=>hs x (by simp [Op.operands];right;simpa using f));simp only[dN,e]
 | slice t x lo hi g=>
  have j:lo.map (ev env)=lo.map (ev env'):=SD (λy hy=>hs y apa);have e2:hi.map (ev env)=hi.map (ev env'):=SD (λy hy=>hs y apa);have l:g.map (ev env)=g.map (ev env'):=SD (λy hy=>hs y apa);simp only[dN,hs x aoo,j,e2,l]
 | call c=>
  obtain⟨callee,args,o⟩:=c;cases callee with
  | builtin b=>
   cases b with
   | len=>
    simp only[dN];split
    ·rename_i x t f q;have e:=hs x (by simp [Op.operands,Call.operands];have:x∈args.toList:=(by rw[f];simp);simpa using this);rw[e]
    ·rfl
   | _=>rfl
  | _=>rfl
 | _=>rfl
theorem U4 {T:vE} {env:Env} {h h':List au} {K:PV->Prop} (op:Op) (hs:aeg h h' env op):dN T op env h K=dN T op env h' K:=by
 cases op with
 | load t a=>
  have q:=hs a aoo;simp only[dN];revert q;generalize ev env a=v;intro q;cases v with
  | bc id g i o=>simp only[Dn,q id aoL]
  | _=>rfl
 | convert s d x=>
  have q:=hs x aoo;simp only[dN];revert q;generalize ev env x=v;intro q
  have e:∀K,Cb v h K=Cb v h' K:=λK=>by
   cases v with
   | own id g i o=>simp only[Cb,q id aoL]
   | _=>rfl
  generalize T.get s=ti;generalize T.get d=f;cases ti with
  | slice a b c z=>cases f with
   | str=>simp only[e]
   | _=>rfl
  | int k=>cases f<;>cases v<;>rfl
  | _=>rfl
 | nilCheck x=>
  have q:=hs x aoo;simp only[dN];revert q;generalize ev env x=v;intro q;cases v with
  | bc id g i o=>simp only[q id aoL]
  | _=>rfl
 | fieldAddr s x k=>
  have q:=hs x aoo;simp only[dN];revert q;generalize ev env x=v;intro q;cases v with
  | bc id g i o=>simp only[q id aoL]
  | _=>rfl
 | indexAddr t x i=>
  have q:=hs x aoo;simp only[dN];revert q;generalize ev env x=v;generalize ev env i=u;generalize T.get t=ti;intro q;cases ti with
  | slice e sz b z=>cases v with
   | own id g o l=>cases u with
    | int k n=>simp only[q id aoL]
    | _=>rfl
   | jk a b c=>cases u<;>rfl
   | _=>rfl
  | _=>rfl
 | lookup t x i ok=>
  have q:=hs x aoo;simp only[dN];revert q;generalize ev env x=v;generalize T.get t=ti;intro q;cases ti with
  | map k e z=>cases v with
   | pZ id=>simp only[q id aoL]
   | _=>rfl
  | _=>cases v<;>rfl
 | slice t x lo hi m=>
  have q:=hs x aoo;simp only[dN];revert q;generalize ev env x=v;generalize T.get t=ti;intro q;cases ti with
  | slice e sz b z=>cases v with
   | own id g o l=>simp only[q id aoL]
   | _=>rfl
  | str=>cases v<;>rfl
  | _=>rfl
 | call c=>
  obtain⟨callee,args,p⟩:=c;cases callee with
  | builtin b=>
   cases b with
   | len=>
    simp only[dN];split
    ·rename_i x t j r;have q:=hs x (by simp [Op.operands,Call.operands];have:x∈args.toList:=(by rw[j];simp);simpa using this);revert q;generalize ev env x=v;generalize T.get t=ti;intro q;cases ti with
     | slice e sz b z=>cases v with
      | own id g o l=>simp only[q id aoL]
      | _=>rfl
     | map k e z=>cases v with
      | pZ id=>simp only[q id aoL]
      | _=>rfl
     | str=>cases v<;>rfl
     | _=>rfl
    ·rfl
   | _=>rfl
  | _=>rfl
 | _=>rfl
def One (F:(PV->Prop)->Prop):Prop:=∀K,F K->∃v,K v/\∀a,a v->F a
theorem ym (v:PV):One (force v):=λK h=>⟨v,dG h,λb a=>mW a⟩
theorem cE (v:PV):One (λK=>K v):=λK h=>⟨v,h,λ_ a=>a⟩
theorem eX {A:Prop} {F:(PV->Prop)->Prop} (h:One F):One (λK=>A/\F K):=λK a=>
 let⟨v,h1,h2⟩:=h K a.2
 ⟨v,h1,λb c=>⟨a.1,h2 b c⟩⟩
theorem kb {b:Bool} {F:(PV->Prop)->Prop} (h:One F):One (λK=>fG b (F K)):=λK a=>by
 cases b with
 | true=>exact h K a
 | false=>exact a.elim
theorem AK {α:Type} {A:α->Prop} {F:α->(PV->Prop)->Prop} (h:∀c,One (F c)):One (λK=>∃c,A c/\F c K):=λK ⟨c,a,b⟩=>
 let⟨v,h1,h2⟩:=h c K b
 ⟨v,h1,λd e=>⟨c,a,h2 d e⟩⟩
theorem Jh {F:(PV->Prop)->Prop} (h:One F):One (λK=>F (OZ K)):=λK l=>by
 obtain⟨v,h1,h2⟩:=h _ l;cases v with
 | jk sz n f=>
  obtain⟨b,i,c,e2,d⟩:=h1;exact⟨.jk sz b i,d,λe a=>h2 _ ⟨b,i,c,e2,a⟩⟩
 | own id g off n=>
  obtain⟨j,b,c,e2,d⟩:=h1;exact⟨.own id g j b,d,λe a=>h2 _ ⟨j,b,c,e2,a⟩⟩
 | str s=>
  obtain⟨k,c,d⟩:=h1;exact⟨.str k,d,λe a=>h2 _ ⟨k,c,a⟩⟩
 | _=>exact⟨_,h1,λe a=>h2 _ a⟩
theorem ER {K:List PV->Prop}:∀(n:Nat) (l acc:List PV),n<=l.length->K (acc.reverse++l.take n)->Le K n l acc
 | 0,l,acc,_,h=>by unfold Le;simpa using h
 | n+1,[],acc,hl,_=>by simp at hl
 | n+1,c::r,acc,hl,h=>mW (ER n r (c::acc) (by simp at hl;omega) aow)
theorem Ji (T:vE) (t:Nat) (cells:List PV):One (Et T t cells):=λK a=>by
 unfold Et at a ⊢;generalize T.get t=q1 at a ⊢;cases q1 with
 | struct sz fl z=>
  obtain⟨h1,h2⟩:=wi _ _ _ a;exact⟨_,h2,λd b=>ER _ _ _ h1 b⟩
 | other=>exact a.elim
 | _=>
  cases cells with
  | nil=>exact a.elim
  | cons c r=>exact ym c K a
theorem U5 (T:vE) (t:Nat) (a:PV) (h:List au):One (Dn T t a h):=λK b=>by
 cases a with
 | iV cells=>exact Ji T t cells K b
 | bc id gen i off=>
  simp only[Dn]at b ⊢;generalize gg h id=q2 at b ⊢;cases q2 with
  | row g sz n e f=>exact eX (AK (λc=>Ji T t _)) K b
  | dead=>exact b.elim
 | _=>exact b.elim
theorem Yt (ti:TI) (e:BinOp) (x y:PV):One (Ul ti e x y):=λK d=>by
 cases x with
 | int k a=>cases y with
  | int h b=>
   cases e with
   | shl=>exact eX (cE _) K d
   | shr=>exact eX (cE _) K d
   | quo=>exact kb (eX (cE _)) K d
   | rem=>exact kb (eX (cE _)) K d
   | _=>exact kb (cE _) K d
  | _=>exact d.elim
 | bool a=>cases y with
  | bool b=>cases ti with
   | bool=>cases e with
    | eql=>exact cE _ K d
    | neq=>exact cE _ K d
    | _=>exact d.elim
   | _=>exact d.elim
  | _=>exact d.elim
 | str a=>cases y with
  | str b=>cases e with
   | add=>exact eX (AK λc=>cE _) K d
   | eql=>exact cE _ K d
   | neq=>exact cE _ K d
   | lss=>exact cE _ K d
   | leq=>exact cE _ K d
   | gtr=>exact cE _ K d
   | geq=>exact cE _ K d
   | _=>exact d.elim
  | _=>exact d.elim
 | agg xs=>cases y with
  | agg f=>cases ti with
   | struct sz fl z=>
    simp only[Ul]at d ⊢;generalize E7 z=g at d ⊢;cases g with
    | false=>exact d.elim
    | true=>
     simp only[fG]at d ⊢;generalize KE z xs f=q at d ⊢;cases q with
     | none=>exact d.elim
     | some b=>cases e<;>first | exact d.elim | exact AK (λc=>cE _) K d
   | _=>exact d.elim
  | _=>exact d.elim
 | _=>exact d.elim
theorem Cr (x:PV) (lo hi:Option PV):One (H0 x lo hi):=λK a=>by
 cases x with
 | jk sz n f=>
  cases lo with
  | none=>cases hi with
   | none=>exact cE _ K a
   | some u=>cases u<;>first | exact a.elim | exact eX (cE _) K a
  | some l=>cases l with
   | int k l=>cases hi with
    | none=>exact eX (cE _) K a
    | some u=>cases u<;>first | exact a.elim | exact eX (cE _) K a
   | _=>cases hi<;>exact a.elim
 | own id gen off len=>
  cases lo with
  | none=>cases hi with
   | none=>exact cE _ K a
   | some u=>cases u<;>first | exact a.elim | exact eX (cE _) K a
  | some l=>cases l with
   | int k l=>cases hi with
    | none=>exact eX (cE _) K a
    | some u=>cases u<;>first | exact a.elim | exact eX (cE _) K a
   | _=>cases hi<;>exact a.elim
 | str s=>
  cases lo with
  | none=>cases hi with
   | none=>exact cE _ K a
   | some u=>cases u<;>first | exact a.elim | exact eX (cE _) K a
  | some l=>cases l with
   | int k l=>cases hi with
    | none=>exact eX (cE _) K a
    | some u=>cases u<;>first | exact a.elim | exact eX (cE _) K a
   | _=>cases hi<;>exact a.elim
 | _=>exact a.elim
theorem SE (v:PV) (h:List au):One (λK=>Cb v h (λs=>K (.str s))):=λK a=>by
 cases v with
 | bn=>exact cE _ K a
 | jk sz n f=>exact kb (AK λs=>eX (cE _)) K a
 | own id gen off n=>
  simp only[Cb]at a ⊢;generalize gg h id=q3 at a ⊢;cases q3 with
  | row g sz n e f=>exact eX (kb (AK λs=>eX (cE _))) K a
  | dead=>exact a.elim
 | _=>exact a.elim
theorem Jj (env:Env) (sz:Nat) (fl:List (Nat×Nat×Bool)):∀(l:List (Nat×Operand)) (acc:List PV),One (λK=>wj env sz fl (λcs=>K (.agg cs)) l acc)
 | [],acc=>cE _
 | (k,x)::r,acc=>λK a=>by
  unfold wj at a ⊢;generalize fl[k]? =q4 at a ⊢;cases q4 with
  | none=>exact a.elim
  | some p=>
   obtain⟨o,size,b⟩:=p;have h1:=dG a;obtain⟨v,h2,h3⟩:=kb (Jj env sz fl r _) K h1;exact⟨v,h2,λc d=>mW (h3 c d)⟩
theorem Lh {env:Env} (f:Nat):∀(l:List Operand) (acc:List (Nat×Nat)),One (λK=>Ak env (λdp=>K (.vg f dp)) l acc)
 | [],_=>cE _
 | x::r,acc=>λK a=>by
  unfold Ak at a ⊢;generalize ev env x=v at a ⊢;split at a
  ·exact Lh f r _ K a
  ·exact a.elim
theorem Yu (ti:TI) (n:Nat) (f:Nat->List PV) (kv zv:PV) (ok:Bool):One (λK=>fG (pt ti kv kv).isSome (∃r b,Xj ti f n kv zv r b/\match ok with
  | true=>K (.kc [r,.bool b])
  | false=>force r K)):=kb (λK d=>by
 obtain⟨r,b,hm,c⟩:=d;cases ok with
 | true=>exact⟨_,c,λe a=>⟨r,b,hm,a⟩⟩
 | false=>exact⟨_,dG c,λe a=>⟨r,b,hm,mW a⟩⟩)
theorem P8 (T:vE) (op:Op) (env:Env) (h:List au):One (dN T op env h):=λK l=>by
 cases op with
 | move x=>exact ym _ K l
 | assign x=>exact ym _ K l
 | pick c a b=>
  simp only[dN]at l ⊢;generalize ev env c=v at l ⊢;cases v with
  | bool t=>
   obtain⟨h1,h2⟩:=pz l;cases t with
   | true=>exact⟨_,dG (h1 rfl),λw m=>.mk (λ_=>mW m) (λh=>by cases h)⟩
   | false=>exact⟨_,dG (h2 rfl),λw m=>.mk (λh=>by cases h) (λ_=>mW m)⟩
  | _=>exact l.elim
 | binOp U t x y V=>exact Yt _ _ _ _ K l
 | unOp u t x=>
  simp only[dN]at l ⊢;generalize ev env x=v at l ⊢;cases u<;>cases v<;>first | exact l.elim | exact cE _ K l
 | load t a=>exact U5 _ _ _ _ K l
 | convert s d x=>
  simp only[dN]at l ⊢;generalize ev env x=v at l ⊢;generalize T.get s=ti at l ⊢;generalize T.get d=A at l ⊢;cases ti with
  | int k=>cases A with
   | int W=>cases v<;>first | exact l.elim | exact cE _ K l
   | _=>cases v<;>exact l.elim
  | slice e sz b z=>cases A with
   | str=>
    simp only at l ⊢;generalize T.get e=P at l ⊢;cases P with
    | int k=>cases k<;>first | exact l.elim | exact SE _ _ K l
    | _=>exact l.elim
   | _=>cases v<;>exact l.elim
  | _=>cases A<;>cases v<;>exact l.elim
 | nilCheck x=>
  simp only[dN]at l ⊢;generalize ev env x=v at l ⊢;cases v with
  | iV cs=>exact cE _ K l
  | bc id gen i off=>
   simp only at l ⊢;generalize gg h id=Q at l ⊢;cases Q with
   | row g sz n e f=>exact eX (cE _) K l
   | dead=>exact l.elim
  | _=>exact l.elim
 | fieldAddr s x k=>
  simp only[dN]at l ⊢;generalize ev env x=v at l ⊢;generalize T.get s=B at l ⊢;cases B with
  | struct sz fl z=>
   simp only at l ⊢;generalize fl[k]? =C at l ⊢;cases C with
   | none=>exact l.elim
   | some p=>
    obtain⟨o,a,b⟩:=p;cases v with
    | iV cs=>exact cE _ K l
    | bc id gen i off=>
     simp only at l ⊢;generalize gg h id=D at l ⊢;cases D with
     | row g sz n e f=>exact eX (cE _) K l
     | dead=>exact l.elim
    | _=>exact l.elim
  | _=>exact l.elim
 | field s x k=>
  simp only[dN]at l ⊢;generalize ev env x=v at l ⊢;generalize T.get s=B at l ⊢;cases B with
  | struct sz fl z=>
   simp only at l ⊢;generalize fl[k]? =C at l ⊢;cases C with
   | none=>exact l.elim
   | some p=>
    obtain⟨o,a,b⟩:=p;cases v with
    | agg cs=>
     cases b with
     | true=>
      obtain⟨h1,h2⟩:=wi _ _ _ l;exact⟨_,h2,λw m=>ER _ _ _ h1 m⟩
     | false=>
      simp only at l ⊢;generalize cs.drop o=D at l ⊢;cases D with
      | nil=>exact l.elim
      | cons c r=>exact ym c K l
    | _=>exact l.elim
  | _=>exact l.elim
 | build t parts=>
  simp only[dN]at l ⊢;generalize T.get t=E at l ⊢;cases E with
  | struct sz fl z=>exact Jj _ _ _ _ _ K l
  | _=>exact l.elim
 | indexAddr t x i=>
  simp only[dN]at l ⊢;generalize ev env x=v at l ⊢;generalize ev env i=u at l ⊢;generalize T.get t=F at l ⊢;cases F with
  | slice e sz b z=>cases v with
   | jk R n f=>cases u<;>first | exact l.elim | exact kb (eX (AK λc=>cE _)) K l
   | own id gen off len=>cases u with
    | int k n=>
     simp only at l ⊢;generalize gg h id=G at l ⊢;cases G with
     | row g sz n e f=>exact eX (kb (eX (AK λj=>cE _))) K l
     | dead=>exact l.elim
    | _=>exact l.elim
   | _=>cases u<;>exact l.elim
  | _=>cases v<;>cases u<;>exact l.elim
 | index t x i=>
  simp only[dN]at l ⊢;generalize ev env x=v at l ⊢;generalize ev env i=u at l ⊢;generalize T.get t=H at l ⊢;cases H with
  | str=>cases v with
   | str s=>cases u<;>first | exact l.elim | exact eX (AK λc=>cE _) K l
   | _=>cases u<;>exact l.elim
  | _=>cases v<;>cases u<;>exact l.elim
 | extract x i=>
  simp only[dN]at l ⊢;generalize ev env x=v at l ⊢;cases v with
  | kc vs=>
   simp only at l ⊢;generalize vs[i]? =I at l ⊢;cases I with
   | none=>exact l.elim
   | some u=>exact ym _ K l
  | _=>exact l.elim
 | makeFunc fn first captured=>
  cases fn with
  | func f=>exact kb (Lh f _ _) K l
  | _=>exact l.elim
 | lookup t x i ok=>
  simp only[dN]at l ⊢;generalize ev env x=v at l ⊢;generalize T.get t=J at l ⊢;cases J with
  | map kt S zv=>cases v with
   | pZ id=>
    simp only at l ⊢;generalize gg h id=L at l ⊢;cases L with
    | row g sz n e f=>
     obtain⟨u,h2,h3⟩:=Yu (T.get kt) n f (ev env i) zv ok K (dG l);exact⟨u,h2,λw m=>mW (h3 w m)⟩
    | dead=>exact l.elim
   | _=>exact l.elim
  | _=>cases v<;>exact l.elim
 | slice t x lo hi X=>
  simp only[dN]at l ⊢;generalize ev env x=v at l ⊢;generalize T.get t=M at l ⊢;cases M with
  | slice e sz b z=>cases v with
   | jk R n f=>exact kb (eX (Jh (Cr _ _ _))) K l
   | own id gen off len=>
    simp only at l ⊢;generalize gg h id=N at l ⊢;cases N with
    | row g sz n e f=>exact eX (kb (eX (Jh (Cr _ _ _)))) K l
    | dead=>exact l.elim
   | _=>exact l.elim
  | str=>cases v with
   | str s=>exact kb (Jh (Cr _ _ _)) K l
   | _=>exact l.elim
  | _=>cases v<;>exact l.elim
 | call c=>
  obtain⟨callee,args,Y⟩:=c;cases callee with
  | builtin b=>
   cases b with
   | len=>
    simp only[dN]at l ⊢;split at l
    ·rename_i x t Z ht;generalize ev env x=v at l ⊢;generalize T.get t=O at l ⊢;cases O with
     | slice e sz b z=>cases v with
      | jk a n f=>exact cE _ K l
      | bn=>exact cE _ K l
      | own id gen off n=>
       simp only at l ⊢;generalize gg h id=q at l ⊢;cases q with
       | row g sz n e f=>exact eX (cE _) K l
       | dead=>exact l.elim
      | _=>exact l.elim
     | str=>cases v<;>first | exact l.elim | exact cE _ K l
     | map kt S zv=>cases v with
      | pZ id=>
       simp only at l ⊢;generalize gg h id=q at l ⊢;cases q with
       | row g sz n e f=>exact cE _ K l
       | dead=>exact l.elim
      | _=>exact l.elim
     | _=>cases v<;>exact l.elim
    ·exact l.elim
   | _=>exact l.elim
  | _=>exact l.elim
 | _=>exact l.elim
theorem wC {v:PV} {K a:PV->Prop} (b:∀v,K v->a v) (h:force v K):force v a:=mW (b _ (dG h))
theorem gp {b:Bool} {K a:Prop} (c:K->a) (h:fG b K):fG b a:=by cases b;exact h;exact c h
theorem Fx {env:Env} {sz:Nat} {K a:List (List PV)->Prop} (b:∀l,K l->a l):∀(l:List (Nat×Operand)) (acc:List (List PV)),xG env sz K l acc->xG env sz a l acc
 | [],acc,h=>b _ h
 | (k,x)::r,acc,h=>wC (λv h=>gp (Fx b r _) h) h
theorem Li {x:PV} {h:List au} {sz:Nat} {K b:Nat->(Nat->List PV)->Prop} (a:∀n g,K n g->b n g) (hp:Sp x h sz K):Sp x h sz b:=by
 cases x with
 | bn=>exact a _ _ hp
 | jk c m g=>exact gp (a _ _) hp
 | own id gen off m=>
  simp only[Sp]at hp ⊢;generalize gg h id=q at hp ⊢;cases q with
  | row g c n e f=>exact⟨hp.1,hp.2.1,gp (a _ _) hp.2.2⟩
  | dead=>exact hp
 | str s=>exact gp (a _ _) hp
 | _=>exact hp
theorem Nu {e sz bytes:Nat} {s x:PV} {h:List au} {K d:PV->List au->Prop} (i:∀v h',K v h'->d v h') (hp:AY e sz bytes s x h K):AY e sz bytes s x h d:=by
 cases s with
 | bn=>
  simp only[AY]at hp ⊢;exact Li (λm g ⟨h,a,b,c,e2,h2⟩=>⟨h,a,b,c,e2,i _ _ h2⟩) hp
 | own id gen off len=>
  simp only[AY]at hp ⊢;generalize gg h id=q at hp ⊢;cases q with
  | row g j n k f=>exact⟨hp.1,gp (Li (λm g ⟨h,a,b,c,e2,h2⟩=>⟨h,a,b,c,e2,i _ _ h2⟩)) hp.2⟩
  | dead=>exact hp
 | _=>exact hp
theorem SF {e sz bytes:Nat} {s x:PV} {h:List au} {K a:PV->List au->Prop} (b:∀v h',K v h'->a v h') (hp:PZ e sz bytes s x h K):PZ e sz bytes s x h a:=by
 unfold PZ at hp ⊢;split at hp
 ·split at hp
  ·exact⟨hp.1,gp (λq=>⟨q.1,b _ _ q.2⟩) hp.2⟩
  ·exact hp
 ·split at hp
  ·split at hp
   ·exact⟨hp.1,hp.2.1,gp (λq=>⟨q.1,b _ _ q.2⟩) hp.2.2⟩
   ·exact hp
  ·exact hp
 ·exact anA
theorem Sr.mono {e sz bytes:Nat} {s x:PV} {h:List au} {K a:PV->List au->Prop} (b:∀v h',K v h'->a v h') (hp:Sr e sz bytes s x h K):Sr e sz bytes s x h a:=by
 cases hp with
 | pO hp=>exact .pO (Nu b hp)
 | move hp=>exact .move (SF b hp)
theorem yn {T:vE} {op:Op} {env:Env} {h:List au} {K a:PV->Prop} (b:∀v,K v->a v) (hp:dN T op env h K):dN T op env h a:=
 let⟨v,h1,h2⟩:=P8 T op env h K hp
 h2 a (b v h1)
theorem Yv {P:Program} {T:vE} {env:Env} {h:List au} {K B:PV->List au->Prop} (j:∀v h',K v h'->B v h') (op:Op) (hp:pop P T op env h K):pop P T op env h B:=by
 cases op with
 | store t a x=>
  simp only[pop]at hp ⊢;generalize ev env a=v at hp ⊢;cases v with
  | bc id gen i off=>
   simp only at hp ⊢;generalize gg h id=q at hp ⊢;cases q with
   | row g sz n e f=>exact⟨hp.1,wC (λv h=>gp (λ⟨c,o,p,e2,h2⟩=>⟨c,o,p,e2,j _ _ h2⟩) h) hp.2⟩
   | dead=>exact hp
  | _=>exact hp
 | box t x=>
  simp only[pop]at hp ⊢;exact wC (λv h=>gp (j _ _) h) hp
 | alloc t=>
  simp only[pop]at hp ⊢;generalize HS (T.get t)=q at hp ⊢;cases q<;>first | exact hp | exact j _ _ hp
 | makeSlice t l c=>
  simp only[pop]at hp ⊢;generalize T.get t=q at hp ⊢;generalize ev env l=u at hp ⊢;generalize ev env c=v at hp ⊢;cases q with
  | slice e sz b z=>cases u with
   | int k n=>cases v with
    | int F m=>(obtain⟨h,w,o,p,e2,h2⟩:=hp;exact⟨h,w,o,p,e2,j _ _ h2⟩)
    | _=>exact hp
   | _=>cases v<;>exact hp
  | _=>cases u<;>cases v<;>exact hp
 | buildSlice t len parts=>
  simp only[pop]at hp ⊢;generalize T.get t=q at hp ⊢;cases q with
  | slice e sz b z=>exact gp (Fx (λ_ ⟨o,p,h2⟩=>⟨o,p,j _ _ h2⟩) _ _) hp
  | _=>exact hp
 | convert s d x=>
  simp only[pop]at hp ⊢;split at hp
  ·split at hp
   ·exact let⟨o,p,h2⟩:=hp;⟨o,p,j _ _ h2⟩
   ·exact hp
  ·exact yn (λv=>j v h) hp
 | binOp G t x y ty=>
  simp only[pop]at hp ⊢;split at hp
  ·exact⟨λh0=>j _ _ (hp.1 h0),j _ _ hp.2⟩
  ·exact yn (λv=>j v h) hp
 | makeMap t r=>
  cases r with
  | none=>
   simp only[pop]at hp ⊢;generalize T.get t=q at hp ⊢;cases q with
   | map k e z=>exact let⟨o,h2⟩:=hp;⟨o,j _ _ h2⟩
   | _=>exact hp
  | some r=>exact hp
 | mapUpdate t m k x=>
  simp only[pop]at hp ⊢;generalize T.get t=q at hp ⊢;generalize ev env m=v at hp ⊢;cases q with
  | map kt H z=>cases v with
   | pZ id=>
    simp only at hp ⊢;generalize gg h id=q2 at hp ⊢;cases q2 with
    | row g sz n e f=>exact wC (λkv h=>wC (λI h=>gp (λ⟨w,o,p,h2⟩=>⟨w,o,p,j _ _ h2⟩) h) h) hp
    | dead=>exact hp
   | _=>exact hp
  | _=>cases v<;>exact hp
 | call c=>
  obtain⟨callee,args,J⟩:=c;cases callee with
  | value D=>
   simp only[pop]at hp ⊢;generalize ev env D=v at hp ⊢;cases v with
   | fn f=>exact gp (λ⟨R,h1,h2⟩=>⟨R,h1,λres h' A=>j _ _ (h2 res h' A)⟩) hp
   | vg f dp=>exact gp (λ⟨R,h1,h2⟩=>⟨R,h1,λres h' A=>j _ _ (h2 res h' A)⟩) hp
   | _=>exact hp
  | builtin b=>
   cases b with
   | append=>
    simp only[pop]at hp ⊢;split at hp
    ·rename_i s x t E L M;generalize T.get t=q at hp ⊢;generalize T.get E=C at hp ⊢;cases q with
     | slice e sz b z=>cases C<;>first | exact hp | exact Sr.mono j hp
     | _=>cases C<;>exact hp
    ·exact hp
   | len=>(simp only[pop]at hp ⊢;exact yn (λv=>j v h) hp)
   | _=>exact hp
  | _=>exact hp
 | _=>(simp only[pop]at hp ⊢;exact yn (λv=>j v h) hp)
theorem Yw {env env':Env} {args:Array Operand} (hs:∀x,x∈args.toList->ev env x=ev env' x):args.toList.map (ev env)=args.toList.map (ev env'):=
 List.map_congr_left hs
theorem aaM {env env':Env} {l:List Operand} (hs:∀x,x∈l->ev env x=ev env' x):l.all (λx=>qo (ev env x))=l.all (λx=>qo (ev env' x)):=by
 induction l with
 | nil=>rfl
 | cons a r b=>simp only[alP,hs a aon,b (λx c=>hs x (akP _ c))]
theorem aaN {P:Program} {T:vE} {env env':Env} {h:List au} {K:PV->List au->Prop} (op:Op) (hs:SC env env' op):pop P T op env h K=pop P T op env' h K:=by
 cases op with
 | store t a x=>simp only[pop,hs a aoo,hs x aoo]
 | box t x=>simp only[pop,hs x aoo]
 | alloc t=>rfl
 | makeSlice t l c=>simp only[pop,hs l aoo,hs c aoo]
 | buildSlice t len parts=>
  have e:∀sz (K:List (List PV)->Prop) z,xG env sz K parts.toList z=xG env' sz K parts.toList z:=λsz K z=>Jg _ _ (λp hp=>hs p.2 apb);simp only[pop,e]
 | convert s d x=>simp only[pop,dN,hs x aoo]
 | binOp o t x y ty=>simp only[pop,dN,hs x aoo,hs y aoo]
 | makeMap t r=>cases r<;>rfl
 | mapUpdate t m k x=>simp only[pop,hs m aoo,hs k aoo,hs x aoo]
 | call c=>
  obtain⟨callee,args,q⟩:=c;cases callee with
  | value j=>
   have n:=hs j (by simp [Op.operands,Call.operands]);have f:∀x,x∈args.toList->ev env x=ev env' x:=λx g=>hs x (by simp [Op.operands,Call.operands];right;simpa using g);simp only[pop,n,Yw f,aaM f]
  | builtin b=>
   have f:∀x,x∈args.toList->ev env x=ev env' x:=λx g=>hs x (by simp [Op.operands,Call.operands];simpa using g);cases b with
   | append=>
    simp only[pop];split
    ·rename_i s x t u i v;rw[f s (by rw[i];simp),f x (by rw[i];simp)]
    ·rfl
   | len=>(simp only[pop];exact DO _ hs)
   | _=>rfl
  | _=>rfl
 | _=>(simp only[pop];exact DO _ hs)
section
variable {P:Program}{T:vE}
def fs (P:Program) (T:vE) (all:List Oper) (st:Bool) (o:Oper) (G:PV->List au->Prop) (env:Env) (h:List au):Prop:=
 match o.guard with
 | none=>Kt P T st o.op env h G
 | some (j,want)=>match(all[j]?).bind (·.dst)with
  | some t=>match env t with
   | .bool b=>match b==want with
    | true=>Kt P T st o.op env h G
    | false=>G (.kc []) h
   | .kc []=>G (.kc []) h
   | _=>False
  | none=>False
theorem GI {env:Env} {t:Nat} {v:PV} (h:env t=v):wJ env t v=env:=by
 funext j;unfold wJ;cases a:Nat.beq j t with
 | true=>rw[abF a,<-h];rfl
 | false=>rfl
theorem Lj {st:Bool} {op:Op} {env:Env} {h:List au} {G a:PV->List au->Prop} (b:∀v h',G v h'->a v h') (hp:Kt P T st op env h G):Kt P T st op env h a:=by
 cases st with
 | true=>exact yn (λv=>b v h) hp
 | false=>exact Yv b _ hp
theorem lM {all:List Oper} {st:Bool} {o:Oper} {env:Env} {h:List au} {G f:PV->List au->Prop} (e:∀v h',G v h'->f v h') (hp:fs P T all st o G env h):fs P T all st o f env h:=by
 unfold fs at hp ⊢;generalize o.guard=g at hp ⊢;cases g with
 | none=>exact Lj e hp
 | some q=>
  obtain⟨j,want⟩:=q;simp only at hp ⊢;generalize(all[j]?).bind (·.dst)=d at hp ⊢;cases d with
  | none=>exact hp
  | some t=>
   simp only at hp ⊢;generalize env t=v at hp ⊢;cases v with
   | bool b=>
    simp only at hp ⊢;generalize(b==want)=c at hp ⊢;cases c with
    | true=>exact Lj e hp
    | false=>exact e _ _ hp
   | kc l=>cases l with
    | nil=>exact e _ _ hp
    | cons a r=>exact hp
   | _=>exact hp
theorem xm {all:List Oper} {st:Bool} {o:Oper} {F:Env->PV->List au->Prop} {env:Env} {h:List au} (hp:BF P T all st o F env h):fs P T all st o (F env) env h:=by
 unfold BF at hp;unfold fs;generalize o.guard=g at hp ⊢;cases g with
 | none=>exact hp
 | some q=>
  obtain⟨j,want⟩:=q;simp only at hp ⊢;generalize(all[j]?).bind (·.dst)=d at hp ⊢;cases d with
  | none=>exact hp
  | some t=>
   simp only at hp ⊢;generalize hv:env t=v at hp ⊢;cases v with
   | bool b=>
    simp only at hp ⊢;obtain⟨h1,h2⟩:=pz hp;cases b with
    | true=>
     have h1:=h1 rfl;rw[GI hv]at h1;cases want<;>exact h1
    | false=>
     have h2:=h2 rfl;rw[GI hv]at h2;cases want<;>exact h2
   | kc l=>cases l with
    | nil=>exact hp
    | cons a r=>exact hp
   | _=>exact hp
theorem DP {env env':Env} {o:Oper} {ops:Array Oper} (hl:∀t,t∈o.looksAt ops->env t=env' t):SC env env' o.op:=λx a=>by
 cases x with
 | tmp t=>exact hl t (by unfold Oper.looksAt;rw[akC];left;rw[List.mem_filterMap];exact⟨_,a,rfl⟩)
 | _=>rfl
theorem yZ {env env':Env} {o:Oper} {ops:Array Oper} (hl:∀t,t∈o.looksAt ops->env t=env' t) {j:Nat} {w:Bool} (hg:o.guard=some (j,w)) {t:Nat} (a:(ops.toList[j]?).bind (·.dst)=some t):env t=env' t:=
 hl t (by
  unfold Oper.looksAt;rw[akC,hg];right;have:ops.toList[j]? =ops[j]?:=by simp
  rw[this]at a;show t∈((ops[j]?).bind (·.dst)).toList;rw[a];simp)
theorem Yx {ops:Array Oper} {st:Bool} {o:Oper} {G:PV->List au->Prop} {env env':Env} {h:List au} (hl:∀t,t∈o.looksAt ops->env t=env' t) (hp:fs P T ops.toList st o G env h):fs P T ops.toList st o G env' h:=by
 have a:Kt P T st o.op env h G=Kt P T st o.op env' h G:=by
  cases st with
  | true=>exact DO _ (DP hl)
  | false=>exact aaN _ (DP hl)
 unfold fs at hp ⊢;cases hg:o.guard with
 | none=>rw[hg]at hp;simp only at hp ⊢;rw[<-a];exact hp
 | some q=>
  obtain⟨j,want⟩:=q;rw[hg]at hp;simp only at hp ⊢;cases hd:(ops.toList[j]?).bind (·.dst)with
  | none=>rw[hd]at hp;exact hp
  | some t=>
   rw[hd]at hp;simp only at hp ⊢;rw[<-yZ hl hg hd,<-a];exact hp
theorem DQ {α β:Type} {f g:α->List β}:∀(l:List α),(∀x,x∈l->f x=g x)->l.flatMap f=l.flatMap g
 | [],_=>rfl
 | a::r,h=>by rw[List.flatMap_cons,List.flatMap_cons,h a aon,DQ r (λx b=>h x (akP _ b))]
theorem SG {T:vE} {env:Env} {h h':List au} {K:PV->Prop} {op:Op} (hi:∀id,id∈ux env op->Lf h h' id):dN T op env h K=dN T op env h' K:=by
 have gen:(∀id,id∈(op.operands.toList.flatMap λx=>qd (ev env x)).map (λid=>(id,false))->Lf h h' id)->dN T op env h K=dN T op env h' K:=λhi=>
  U4 op (λx d id hid=>hi (id,false) (akZ.2 ⟨id,List.mem_flatMap.2 ⟨x,d,hid⟩,rfl⟩))
 cases op with
 | move x=>rfl
 | fieldAddr s x k=>
  have q:∀id,id∈qd (ev env x)->U3 (gg h id)=U3 (gg h' id):=λid hid=>hi (id,true) (akZ.2 ⟨id,hid,rfl⟩);simp only[dN];revert q;generalize ev env x=v;intro q;cases v with
  | bc id g i o=>
   have q:=q id aoL;generalize T.get s=ti;cases ti with
   | struct sz fl z=>
    dsimp only;generalize fl[k]? =e;cases e with
    | none=>rfl
    | some p=>
     obtain⟨f,p2,p3⟩:=p;dsimp only;revert q;generalize gg h id=a;generalize gg h' id=b;intro q;cases a with
     | dead=>cases b with
      | dead=>rfl
      | row g2 _ _ _ _=>cases q
     | row c _ _ _ _=>cases b with
      | dead=>cases q
      | row g2 _ _ _ _=>
       have q:some c=some g2:=q;cases q;rfl
   | _=>rfl
  | _=>rfl
 | nilCheck x=>
  have q:∀id,id∈qd (ev env x)->U3 (gg h id)=U3 (gg h' id):=λid hid=>hi (id,true) (akZ.2 ⟨id,hid,rfl⟩);simp only[dN];revert q;generalize ev env x=v;intro q;cases v with
  | bc id g i o=>
   have q:=q id aoL;dsimp only;revert q;generalize gg h id=a;generalize gg h' id=b;intro q;cases a with
   | dead=>cases b with
    | dead=>rfl
    | row g2 _ _ _ _=>cases q
   | row c _ _ _ _=>cases b with
    | dead=>cases q
    | row g2 _ _ _ _=>
     have q:some c=some g2:=q;cases q;rfl
  | _=>rfl
 | _=>exact gen hi
theorem Jk {env env':Env} {op:Op} (hs:∀x,x∈op.operands.toList->ev env x=ev env' x):ux env' op=ux env op:=by
 have gen:(op.operands.toList.flatMap λx=>qd (ev env' x)).map (λid=>(id,false))=(op.operands.toList.flatMap λx=>qd (ev env x)).map (λid=>(id,false)):=
  congrArg _ (DQ _ (λx a=>by rw[hs x a]))
 cases op with
 | move x=>rfl
 | fieldAddr s x k=>exact congrArg (λv=>(qd v).map λid=>(id,true)) (hs x aoo).symm
 | nilCheck x=>exact congrArg (λv=>(qd v).map λid=>(id,true)) (hs x aoo).symm
 | _=>exact gen
theorem Nv {ops:Array Oper} {o:Oper} {G:PV->List au->Prop} {env:Env} {h:List au} (hp:fs P T ops.toList true o G env h):
  ∃v,G v h/\∀(env':Env) (h':List au) (c:PV->List au->Prop),(∀t,t∈o.looksAt ops->env t=env' t)->(∀id,id∈ux env o.op->Lf h h' id)->c v h'->fs P T ops.toList true o c env' h':=by
 have run:dN T o.op env h (λv=>G v h)->∃v,G v h/\∀(env':Env) (h':List au) (c:PV->List au->Prop),(∀t,t∈o.looksAt ops->env t=env' t)->(∀id,id∈ux env o.op->Lf h h' id)->c v h'->dN T o.op env' h' (λv=>c v h'):=λhs=>by
  obtain⟨v,h1,h2⟩:=P8 T o.op env h _ hs;refine⟨v,h1,λenv' h' c hl hi hg=>?_⟩;rw[<-DO o.op (DP hl),<-SG (op:=o.op) hi];exact h2 _ hg
 unfold fs at hp;cases hg:o.guard with
 | none=>
  rw[hg]at hp;obtain⟨v,h1,h2⟩:=run hp;refine⟨v,h1,λenv' h' c hl hi d=>?_⟩;unfold fs;rw[hg];exact h2 env' h' c hl hi d
 | some q=>
  obtain⟨j,want⟩:=q;rw[hg]at hp;simp only at hp;cases hd:(ops.toList[j]?).bind (·.dst)with
  | none=>rw[hd]at hp;exact hp.elim
  | some t=>
   rw[hd]at hp;simp only at hp;cases hv:env t with
   | bool b=>
    rw[hv]at hp;simp only at hp;cases hc:(b==want)with
    | true=>
     rw[hc]at hp;obtain⟨v,h1,h2⟩:=run hp;refine⟨v,h1,λenv' h' c hl hi d=>?_⟩;unfold fs;rw[hg];simp only;rw[hd];simp only;rw[<-yZ hl hg hd,hv];simp only;rw[hc];exact h2 env' h' c hl hi d
    | false=>
     rw[hc]at hp;refine⟨_,hp,λenv' h' c hl hi d=>?_⟩;unfold fs;rw[hg];simp only;rw[hd];simp only;rw[<-yZ hl hg hd,hv];simp only;rw[hc];exact d
   | kc l=>
    rw[hv]at hp;cases l with
    | nil=>
     refine⟨_,hp,λenv' h' c hl hi d=>?_⟩;unfold fs;rw[hg];simp only;rw[hd];simp only;rw[<-yZ hl hg hd,hv];exact d
    | cons a r=>exact hp.elim
   | _=>rw[hv]at hp;exact hp.elim
def Sw (P:Program) (T:vE) (all:List Oper) (t:List (Nat×List Nat)) (K:Env->List au->Prop):List (Nat×Bool)->oy->Env->List au->Prop
 | [],_,env,h=>K env h
 | (i,st)::r,a,env,h=>∃o,all[i]? =some o/\fs P T all st o (λv h'=>match st with
   | true=>Sw P T all t K r ((i,ux env o.op)::a) (gQ env o.dst v) h'
   | false=>(∀j ids,(j,ids)∈a->uU (iS t i) j=false->∀id,id∈ids->Lf h h' id)/\Sw P T all t K r a (gQ env o.dst v) h') env h
theorem DS {h h':List au} {K:Prop}:∀(ids:List (Nat×Bool)),Nt h h' K ids->(∀id,id∈ids->Lf h h' id)/\K
 | [],b=>⟨λid hid=>by simp at hid,b⟩
 | a::r,b=>by
  obtain⟨h1,h2⟩:=DS r b.2;refine⟨λid hid=>?_,h2⟩;simp only[akM]at hid;rcases hid with rfl | hid
  ·exact b.1
  ·exact h1 id hid
theorem vo {b:List Nat} {h h':List au} {K:Prop}:∀(e:oy),xl b h h' K e->(∀j ids,(j,ids)∈e->uU b j=false->∀id,id∈ids->Lf h h' id)/\K
 | [],c=>⟨λj ids hj=>by simp at hj,c⟩
 | (a,l)::r,c=>by
  unfold xl at c;cases d:uU b a with
  | true=>
   rw[d]at c;obtain⟨h1,h2⟩:=vo r c;refine⟨λj ids hj hn=>?_,h2⟩;simp only[akM]at hj;rcases hj with hj | hj
   ·injection hj with f e2;subst f;rw[d]at hn;cases hn
   ·exact h1 j ids hj hn
  | false=>
   rw[d]at c;obtain⟨q1,q2⟩:=DS l c;obtain⟨h1,h2⟩:=vo r q2;refine⟨λj ids hj hn=>?_,h2⟩;simp only[akM]at hj;rcases hj with hj | hj
   ·injection hj with f e2;subst e2;exact q1
   ·exact h1 j ids hj hn
theorem yl {all:List Oper} {t:List (Nat×List Nat)} {K:Env->List au->Prop}:∀(l:List (Nat×Bool)) (a:oy) (env:Env) (h:List au),fw P T all t K l a env h->Sw P T all t K l a env h
 | [],_,_,_,hp=>hp
 | (i,true)::r,a,env,h,hp=>by
  have hp:(match all[i]? with
   | some o=>BF P T all true o (λenv' v h'=>fw P T all t K r ((i,ux env' o.op)::a) (gQ env' o.dst v) h') env h
   | none=>False):=hp
  cases b:all[i]? with
  | none=>rw[b]at hp;exact hp.elim
  | some o=>
   rw[b]at hp;exact⟨o,b,lM (λv h' c=>yl r _ _ _ c) (xm hp)⟩
 | (i,false)::r,a,env,h,hp=>by
  have hp:(match all[i]? with
   | some o=>BF P T all false o (λenv' v h'=>xl (iS t i) h h' (fw P T all t K r a (gQ env' o.dst v) h') a) env h
   | none=>False):=hp
  cases b:all[i]? with
  | none=>rw[b]at hp;exact hp.elim
  | some o=>
   rw[b]at hp;refine⟨o,b,lM (λv h' c=>?_) (xm hp)⟩;obtain⟨h1,h2⟩:=vo _ c;exact⟨h1,yl r _ _ _ h2⟩
theorem DT {all:List Oper} {t:List (Nat×List Nat)} {K:Env->List au->Prop}:∀(l:List (Nat×Bool)) (a b:oy) (env:Env) (h:List au),(∀x,x∈b->x∈a)->Sw P T all t K l a env h->Sw P T all t K l b env h
 | [],_,_,_,_,_,hp=>hp
 | (i,st)::r,a,b,env,h,hs,hp=>by
  obtain⟨o,e,hp⟩:=hp;refine⟨o,e,lM (λv h' c=>?_) hp⟩;cases st with
  | true=>exact DT r _ _ _ _ (λx d=>by simp only[akM]at d ⊢;exact d.imp id (hs x)) c
  | false=>exact⟨λj ids hj=>c.1 j ids (hs _ hj),DT r _ _ _ _ hs c.2⟩
theorem Ll {env:Env} {d e:Option Nat} {u v:PV} (b:∀x,d=some x->e≠some x):gQ (gQ env d u) e v=gQ (gQ env e v) d u:=by
 cases d with
 | none=>rfl
 | some x=>
  cases e with
  | none=>rfl
  | some y=>
   have a:x≠y:=λhe=>b x rfl (by rw[he]);funext j;simp only[gQ,wJ];cases h1:Nat.beq j y with
   | true=>
    have:=abF h1;subst this;cases h2:Nat.beq j x with
    | true=>exact absurd (abF h2).symm a
    | false=>rfl
   | false=>cases h2:Nat.beq j x<;>rfl
theorem A5 {env:Env} {d:Option Nat} {v:PV} {l:List Nat} (hn:∀x,d=some x->x∉l):∀t,t∈l->env t=gQ env d v t:=λt a=>by
 cases d with
 | none=>rfl
 | some x=>
  have:t≠x:=λhe=>hn x rfl (he▸a);simp only[gQ,wJ];cases h2:Nat.beq t x with
  | true=>exact absurd (abF h2) this
  | false=>rfl
theorem P5 {ops:Array Oper} {t:List (Nat×List Nat)} {K:Env->List au->Prop} {i:Nat} {st:Bool} {b:Oper} (m:ops.toList[i]? =some b):
  ∀(f g:List (Nat×Bool)) (k:oy) (env:Env) (h:List au),(∀p,p∈f->p.2=true/\uU (iS t i) p.1=false/\A2 ops p.1 i=true)->Sw P T ops.toList t K (f++(i,st)::g) k env h->
   fs P T ops.toList st b (λv h'=>(st=true->h'=h)/\(st=false->∀j ids,(j,ids)∈k->uU (iS t i) j=false->∀id,id∈ids->Lf h h' id)/\Sw P T ops.toList t K (f++g) k (gQ env b.dst v) h') env h
 | [],g,k,env,h,_,hp=>by
  obtain⟨o,e,hp⟩:=hp;rw[m]at e;injection e with e;subst e;cases st with
  | true=>
   obtain⟨v,h1,h2⟩:=Nv hp;exact h2 env h _ (λ_ _=>rfl) (λ_ _=>Lf.refl _ _) ⟨λ_=>rfl,λhc=>Bool.noConfusion hc,DT _ _ _ _ _ (λx l=>akP _ l) h1⟩
  | false=>exact lM (λv h' c=>⟨λhc=>Bool.noConfusion hc,λ_=>c.1,c.2⟩) hp
 | (a,z)::f,g,k,env,h,w,hp=>by
  obtain⟨h1,h2,h3⟩:=w (a,z) aon;simp only at h1 h2 h3;subst h1;obtain⟨o,e,hp⟩:=hp
  have n:Oper.apart ops o b=true:=by
   unfold A2 at h3;have A:ops[a]? =some o:=by simpa using e
   have e2:ops[i]? =some b:=by simpa using m
   rw[A,e2]at h3;exact h3
  obtain⟨B,C,D⟩:=Oper.apart_spec n;obtain⟨u,E,F⟩:=Nv hp;have G:=P5 m f g _ _ h (λp hp=>w p (akP _ hp)) E;have q:=Yx (env':=env) (λx l=>(A5 (λd hd=>B d hd) x l).symm) G;refine lM (λv h' c=>⟨c.1,λhc j ids hj=>c.2.1 hc j ids (akP _ hj),?_⟩) q
  have r:∀id,id∈ux env o.op->Lf h h' id:=λid hid=>by
   cases st with
   | true=>rw[c.1 rfl];exact Lf.refl _ _
   | false=>exact c.2.1 rfl a _ aon h2 id hid
  have y:∀x,x∈o.looksAt ops->env x=gQ env b.dst v x:=A5 (λd hd=>D d hd);refine⟨o,e,F _ h' _ y r ?_⟩
  have s:ux (gQ env b.dst v) o.op=ux env o.op:=by
   exact Jk (DP y)
  simp only;rw[s,Ll (λx l=>(λhe=>C x he l):∀x,b.dst=some x->o.dst≠some x)];exact c.2.2
def rT (P:Program) (T:vE) (all:List Oper) (t:List (Nat×List Nat)) (E:oy->Env->List au->Prop):List (Nat×Bool)->oy->Env->List au->Prop
 | [],a,env,h=>E a env h
 | (i,st)::r,a,env,h=>∃o,all[i]? =some o/\fs P T all st o (λv h'=>match st with
   | true=>rT P T all t E r ((i,ux env o.op)::a) (gQ env o.dst v) h'
   | false=>(∀j ids,(j,ids)∈a->uU (iS t i) j=false->∀id,id∈ids->Lf h h' id)/\rT P T all t E r a (gQ env o.dst v) h') env h
def zo (E:oy->Env->List au->Prop):Prop:=∀(a b:oy) (env:Env) (h:List au),(∀x,x∈b->x∈a)->E a env h->E b env h
theorem A6 {all:List Oper} {t:List (Nat×List Nat)} {E:oy->Env->List au->Prop} (c:zo E):∀(l:List (Nat×Bool)) (a b:oy) (env:Env) (h:List au),(∀x,x∈b->x∈a)->rT P T all t E l a env h->rT P T all t E l b env h
 | [],a,b,_,_,hs,hp=>c a b _ _ hs hp
 | (i,st)::r,a,b,env,h,hs,hp=>by
  obtain⟨o,f,hp⟩:=hp;refine⟨o,f,lM (λv h' d=>?_) hp⟩;cases st with
  | true=>exact A6 c r _ _ _ _ (λx e=>by simp only[akM]at e ⊢;exact e.imp id (hs x)) d
  | false=>exact⟨λj ids hj=>d.1 j ids (hs _ hj),A6 c r _ _ _ _ hs d.2⟩
theorem A3 {ops:Array Oper} {t:List (Nat×List Nat)} {E:oy->Env->List au->Prop} (w:zo E) {i:Nat} {st:Bool} {b:Oper} (m:ops.toList[i]? =some b):
  ∀(f g:List (Nat×Bool)) (k:oy) (env:Env) (h:List au),(∀p,p∈f->p.2=true/\uU (iS t i) p.1=false/\A2 ops p.1 i=true)->rT P T ops.toList t E (f++(i,st)::g) k env h->
   fs P T ops.toList st b (λv h'=>(st=true->h'=h)/\(st=false->∀j ids,(j,ids)∈k->uU (iS t i) j=false->∀id,id∈ids->Lf h h' id)/\rT P T ops.toList t E (f++g) k (gQ env b.dst v) h') env h
 | [],g,k,env,h,_,hp=>by
  obtain⟨o,e,hp⟩:=hp;rw[m]at e;injection e with e;subst e;cases st with
  | true=>
   obtain⟨v,h1,h2⟩:=Nv hp;exact h2 env h _ (λ_ _=>rfl) (λ_ _=>Lf.refl _ _) ⟨λ_=>rfl,λhc=>Bool.noConfusion hc,A6 w _ _ _ _ _ (λx l=>akP _ l) h1⟩
  | false=>exact lM (λv h' c=>⟨λhc=>Bool.noConfusion hc,λ_=>c.1,c.2⟩) hp
 | (a,A)::f,g,k,env,h,y,hp=>by
  obtain⟨h1,h2,h3⟩:=y (a,A) aon;simp only at h1 h2 h3;subst h1;obtain⟨o,e,hp⟩:=hp
  have n:Oper.apart ops o b=true:=by
   unfold A2 at h3;have B:ops[a]? =some o:=by simpa using e
   have e2:ops[i]? =some b:=by simpa using m
   rw[B,e2]at h3;exact h3
  obtain⟨C,D,F⟩:=Oper.apart_spec n;obtain⟨u,G,H⟩:=Nv hp;have I:=A3 w m f g _ _ h (λp hp=>y p (akP _ hp)) G;have q:=Yx (env':=env) (λx l=>(A5 (λd hd=>C d hd) x l).symm) I;refine lM (λv h' c=>⟨c.1,λhc j ids hj=>c.2.1 hc j ids (akP _ hj),?_⟩) q
  have r:∀id,id∈ux env o.op->Lf h h' id:=λid hid=>by
   cases st with
   | true=>rw[c.1 rfl];exact Lf.refl _ _
   | false=>exact c.2.1 rfl a _ aon h2 id hid
  have z:∀x,x∈o.looksAt ops->env x=gQ env b.dst v x:=A5 (λd hd=>F d hd);refine⟨o,e,H _ h' _ z r ?_⟩
  have s:ux (gQ env b.dst v) o.op=ux env o.op:=by
   exact Jk (DP z)
  simp only;rw[s,Ll (λx l=>(λhe=>D x he l):∀x,b.dst=some x->o.dst≠some x)];exact c.2.2
theorem AI {all:List Oper} {t:List (Nat×List Nat)} {E:oy->Env->List au->Prop} {l':List (Nat×Bool)}:∀(l:List (Nat×Bool)) (a:oy) (env:Env) (h:List au),rT P T all t (λa env h=>rT P T all t E l' a env h) l a env h->rT P T all t E (l++l') a env h
 | [],_,_,_,hp=>hp
 | (i,st)::r,a,env,h,hp=>by
  obtain⟨o,c,hp⟩:=hp;refine⟨o,c,lM (λv h' b=>?_) hp⟩;cases st with
  | true=>exact AI r _ _ _ b
  | false=>exact⟨b.1,AI r _ _ _ b.2⟩
theorem DN {all:List Oper} {t:List (Nat×List Nat)} {E c:oy->Env->List au->Prop} (hi:∀a env h,E a env h->c a env h):∀(l:List (Nat×Bool)) (a:oy) (env:Env) (h:List au),rT P T all t E l a env h->rT P T all t c l a env h
 | [],_,_,_,hp=>hi _ _ _ hp
 | (i,st)::r,a,env,h,hp=>by
  obtain⟨o,d,hp⟩:=hp;refine⟨o,d,lM (λv h' b=>?_) hp⟩;cases st with
  | true=>exact DN hi r _ _ _ b
  | false=>exact⟨b.1,DN hi r _ _ _ b.2⟩
theorem AH {all:List Oper} {t:List (Nat×List Nat)} {K:Env->List au->Prop} {l':List (Nat×Bool)}:∀(l:List (Nat×Bool)) (a:oy) (env:Env) (h:List au),rT P T all t (λa env h=>Sw P T all t K l' a env h) l a env h->Sw P T all t K (l++l') a env h
 | [],_,_,_,hp=>hp
 | (i,st)::r,a,env,h,hp=>by
  obtain⟨o,c,hp⟩:=hp;refine⟨o,c,lM (λv h' b=>?_) hp⟩;cases st with
  | true=>exact AH r _ _ _ b
  | false=>exact⟨b.1,AH r _ _ _ b.2⟩
theorem xk {all:List Oper} {t:List (Nat×List Nat)} {E d:oy->Env->List au->Prop} (hi:∀a env h,E a env h->d a env h):∀(l:List (Nat×Bool)) (a:oy) (env:Env) (h:List au),fwE P T all t E l a env h->rT P T all t d l a env h
 | [],_,_,_,hp=>hi _ _ _ hp
 | (i,true)::r,a,env,h,hp=>by
  have hp:(match all[i]? with
   | some o=>BF P T all true o (λenv' v h'=>fwE P T all t E r ((i,ux env' o.op)::a) (gQ env' o.dst v) h') env h
   | none=>False):=hp
  cases b:all[i]? with
  | none=>rw[b]at hp;exact hp.elim
  | some o=>
   rw[b]at hp;exact⟨o,b,lM (λv h' c=>xk hi r _ _ _ c) (xm hp)⟩
 | (i,false)::r,a,env,h,hp=>by
  have hp:(match all[i]? with
   | some o=>BF P T all false o (λenv' v h'=>xl (iS t i) h h' (fwE P T all t E r a (gQ env' o.dst v) h') a) env h
   | none=>False):=hp
  cases b:all[i]? with
  | none=>rw[b]at hp;exact hp.elim
  | some o=>
   rw[b]at hp;refine⟨o,b,lM (λv h' c=>?_) (xm hp)⟩;obtain⟨h1,h2⟩:=vo _ c;exact⟨h1,xk hi r _ _ _ h2⟩
theorem EO {all:List Oper} {t:List (Nat×List Nat)} {K:Env->List au->Prop} (l:List (Nat×Bool)):zo (λa env h=>Sw P T all t K l a env h):=λa b env h hs hp=>DT l a b env h hs hp
theorem wA {all:List Oper} {t:List (Nat×List Nat)} {E:oy->Env->List au->Prop} (b:zo E) (l:List (Nat×Bool)):zo (λa env h=>rT P T all t E l a env h):=λa c env h hs hp=>A6 b l a c env h hs hp
theorem La {E b:oy->Env->List au->Prop} (h1:zo E) (h2:zo b):zo (λa env h=>E a env h/\b a env h):=λa c env h hs hp=>⟨h1 a c env h hs hp.1,h2 a c env h hs hp.2⟩
end
theorem bN.mono {S S':Nat->Prop} {w w':World} (hw:∀b,S b->w'.heap[b]? =w.heap[b]?) (g:∀b,S b->S' b) {pv:PV} {v:Value} (h:bN S w pv v):bN S' w' pv v:=by
 induction h with
 | int k n=>exact .int k n
 | bool b=>exact .bool b
 | str s=>exact .str s
 | bn=>exact .bn
 | lJ=>exact .lJ
 | fn f=>exact .fn f
 | uW sz f a c=>exact .uW sz f a c
 | jk sz n f b off c d h1 h2 h3 h4 _ e=>
  exact .jk sz n f b off c d (g b h1) h2 h3 (λi j pv hi hj=>(World.cell?_of_block (w:=w) (hw b h1)).trans (h4 i j pv hi hj)) e
 | iV cs b off d h1 h4 _ e=>
  exact .iV cs b off d (g b h1) (λj pv hj=>(World.cell?_of_block (w:=w) (hw b h1)).trans (h4 j pv hj)) e
theorem oE.of_same {w w':World} {b k:Nat} (h:w'.heap[b]? =w.heap[b]?) (hc:oE w b k):oE w' b k:=by
 obtain⟨cur,e,z,h1,h2⟩:=hc;exact⟨cur,e,z,h.trans h1,h2⟩
theorem oE.least {w:World} {b k:Nat} (h:oE w b k):oE w b 0:=by
 obtain⟨cur,e,z,h1,h2⟩:=h;exact⟨cur,e,z,h1,alc _⟩
theorem rz.mono {S S':Nat->Prop} {w w':World} (hw:∀b,S b->w'.heap[b]? =w.heap[b]?) (s:∀b,S b->S' b) {pv:PV} {v:Value} (h:rz S w pv v):
  (∀sz n e f F,pv=.aX sz n e f F->∀b,F b->w'.heap[b]? =w.heap[b]?)->rz S' w' pv v:=by
 induction h with
 | nil sz e f F d=>exactλ_=>.nil sz e f F d
 | P2 sz n e f F b off c a cur t d u hlen hc x y z A G k B C=>
  intro g;have g:=g _ _ _ _ _ rfl
  exact .P2 sz n e f F b off c a cur t d ((g b d).trans u) hlen hc x y z (λi j pv hi hj=>(A i j pv hi hj).imp_left (λq=>q.mono hw s))
   (λi j l m o p D hi hj=>C i j l m o p D hi hj (λ_ _ _ _ _ he r E=>by
    injection he with _ _ _ _ he;subst he;exact g r (k i j l m o p _ hi hj r E).1)) k B
inductive OG (G:PV->Prop):PV->Prop
 | mk (sz n:Nat) (e:TypeId) (f:Nat->List PV) (F:Nat->Prop) (h1:∀(i j:Nat) (pv:PV),i<n->(f i)[j]? =some pv->fI pv=false->G pv)
   (h2:∀(i j dk n':Nat) (e':TypeId) (f':Nat->List PV) (F':Nat->Prop),i<n->(f i)[j]? =some (.aX dk n' e' f' F')->OG G (.aX dk n' e' f' F')):OG G (.aX sz n e f F)
theorem rz.og {S S':Nat->Prop} {w:World} {G:PV->Prop} (r:∀pv v,G pv->bN S w pv v->bN S' w pv v) {pv:PV} {v:Value} (h:rz S w pv v):OG G pv->rz S' w pv v:=by
 induction h with
 | nil sz e f F d=>exactλ_=>.nil sz e f F d
 | P2 sz n e f F b off c a cur s d t hlen hc u x y z D A B C=>
  intro hg;cases hg with
  | mk _ _ _ _ _ h1 h2=>
   exact .P2 sz n e f F b off c a cur s d t hlen hc u x y (λi j pv hi hj=>by
    cases g:fI pv with
    | false=>exact(z i j pv hi hj).imp_left (λq=>r pv _ (h1 i j pv hi hj g) q)
    | true=>exact .inr (by cases pv<;>first | exact⟨_,_,_,_,_,rfl⟩ | cases g)) (λi j k l m o p hi hj=>C i j k l m o p hi hj (h2 i j k l m o p hi hj)) A B
theorem rz.all {S:Nat->Prop} {w:World} {pv:PV} {v:Value} (h:rz S w pv v):OG (λ_=>True) pv:=by
 induction h with
 | nil sz e f F d=>exact .mk sz 0 e f F (λ_ _ _ _ _ _=>trivial) (λi j _ _ _ _ _ hi=>absurd hi (akG _))
 | P2 sz n e f F b off c a cur k d l hlen hc m o p q r s t g=>exact .mk sz n e f F (λ_ _ _ _ _ _=>trivial) g
theorem rz.one {S:Nat->Prop} {w:World} {pv:PV} {v:Value} (h:rz S w pv v):v.oneCell'=true:=by cases h<;>rfl
section
variable {μ μ':Mu}{h h':List au}{S S':Nat->Prop}{w w':World}
theorem dA.pP {pv:PV} {v:Value} (hp:bN S w pv v):dA μ h S w pv v:=by
 cases hp<;>first | exact .int _ _ | exact .bool _ | exact .str _ | exact .bn | exact .lJ | exact .fn _ | exact .uW _ _ _ _ | (rename_i h1 h2 h3 h4 h5 _;first | exact .jk _ _ _ _ _ _ _ ‹_› ‹_› ‹_› ‹_› ‹_›) | exact .iV _ _ _ _ ‹_› ‹_› ‹_›
theorem dA.fr (hf:Fr μ h S w μ' h' S' w') (hm:yI μ h S w) {pv:PV} {v:Value} (hc:dA μ h S w pv v):dA μ' h' S' w' pv v:=by
 have j:∀b,S b->w'.heap[b]? =w.heap[b]?:=λb z=>hf.blocks b (hm.slt b z) (λc=>hm.apart b c z)
 have A:∀(id gen i off:Nat) (v:Value),dE μ h w id gen i off v->dE μ' h' w' id gen i off v:=λid gen i off v hc=>by
  unfold dE at hc ⊢;obtain⟨m,hc⟩:=hc;refine⟨m,?_⟩;cases c:h[id]? with
  | none=>rw[c]at hc;exact hc.elim
  | some o=>
   cases o with
   | dead=>rw[hf.dead id c];trivial
   | row g sz n e f=>
    rw[c]at hc;have hg:=hf.Ia id g sz n e f c;cases d:h'[id]? with
    | none=>rw[d]at hg;exact hg
    | some t=>
     cases t with
     | dead=>trivial
     | row r B C D E=>
      rw[d]at hg;obtain⟨hle,x⟩:=hg;obtain⟨l,hc⟩:=hc;refine⟨alg l hle,λhe=>?_⟩;have heq:r=g:=by omega
      obtain⟨hμ,rfl,rfl,rfl⟩:=x heq;obtain⟨h1,h2⟩:=hc aol;refine⟨h1,?_⟩;rw[hμ];obtain⟨b,base,q1,q2,q3⟩:=h2;exact⟨b,base,q1,⟨hf.dp b _ (.inl ⟨id,g,_,_,_,_,base,c,q1⟩) q2.1,q2.2⟩,q3⟩
 cases pv with
 | own id gen off len=>
  have hc:cK μ h w id gen off len v:=hc;show cK μ' h' w' id gen off len v;unfold cK at hc ⊢;obtain⟨m,hc⟩:=hc;refine⟨m,?_⟩;cases c:h[id]? with
  | none=>rw[c]at hc;exact hc.elim
  | some o=>
   cases o with
   | dead=>rw[hf.dead id c];trivial
   | row g sz n e f=>
    rw[c]at hc;have hg:=hf.Ia id g sz n e f c;cases d:h'[id]? with
    | none=>rw[d]at hg;exact hg
    | some t=>
     cases t with
     | dead=>trivial
     | row r B C D E=>
      rw[d]at hg;obtain⟨hle,x⟩:=hg;obtain⟨l,hc⟩:=hc;refine⟨alg l hle,λhe=>?_⟩;have heq:r=g:=by omega
      obtain⟨hμ,rfl,rfl,rfl⟩:=x heq;obtain⟨h1,h2⟩:=hc aol;refine⟨h1,?_⟩;rw[hμ];cases y:μ id with
      | none=>rw[y]at h2;exact h2
      | some p=>
       obtain⟨b,base⟩:=p;rw[y]at h2;obtain⟨a,cap,h3,h4,h5,h6⟩:=h2;exact⟨a,cap,h3,h4,h5,hf.dp b _ (.inl ⟨id,g,_,_,_,_,base,c,y⟩) h6⟩
 | bc id gen i off=>exact A _ _ _ _ _ hc
 | vg f dp=>exact zx.mono (show uJ μ h w f dp v from hc) (λid g u hu=>A _ _ _ _ _ hu)
 | pZ id=>
  have hc:jq μ h w id v:=hc;show jq μ' h' w' id v;unfold jq at hc ⊢;obtain⟨m,hc⟩:=hc;refine⟨m,?_⟩;cases c:h[id]? with
  | none=>rw[c]at hc;exact hc.elim
  | some o=>
   cases o with
   | dead=>rw[hf.dead id c];trivial
   | row g sz n e f=>
    rw[c]at hc;obtain⟨b,base,q1,q2,q3⟩:=hc;obtain⟨r1,q⟩:=hf.maps id g sz n e f b base c q1 q2;rcases q with q | ⟨⟨r,B,C,D,E,q⟩,G⟩
    ·rw[q];trivial
    ·rw[q];exact⟨b,base,G,r1,q3⟩
 | mj=>exact hc
 | aX sz n e f F=>exact hc
 | agg cs=>exact hc.elim
 | kc cs=>exact hc.elim
 | int k n=>exact bN.mono j hf.sub hc
 | bool b=>exact bN.mono j hf.sub hc
 | str s=>exact bN.mono j hf.sub hc
 | bn=>exact bN.mono j hf.sub hc
 | lJ=>exact bN.mono j hf.sub hc
 | jk sz n f=>exact bN.mono j hf.sub hc
 | iV cs=>exact bN.mono j hf.sub hc
 | fn f=>exact bN.mono j hf.sub hc
theorem mh.fr (hf:Fr μ h S w μ' h' S' w') (hm:yI μ h S w) {pv:PV} {v:Value} (hc:mh μ h S w pv v):mh μ' h' S' w' pv v:=by
 cases pv with
 | agg cs=>
  obtain⟨vs,h1,h2,h3⟩:=hc;exact⟨vs,h1,h2,λj pv hj=>let⟨u,hu,a⟩:=h3 j pv hj;⟨u,hu,a.fr hf hm⟩⟩
 | int k n=>exact dA.fr (pv:=.int k n) hf hm hc
 | bool b=>exact dA.fr (pv:=.bool b) hf hm hc
 | str s=>exact dA.fr (pv:=.str s) hf hm hc
 | bn =>exact dA.fr (pv:=.bn) hf hm hc
 | lJ=>exact dA.fr (pv:=.lJ) hf hm hc
 | jk sz n f=>exact dA.fr (pv:=.jk sz n f) hf hm hc
 | iV cs=>exact dA.fr (pv:=.iV cs) hf hm hc
 | own id gen off len=>exact dA.fr (pv:=.own id gen off len) hf hm hc
 | bc id gen i off=>exact dA.fr (pv:=.bc id gen i off) hf hm hc
 | pZ id=>exact dA.fr (pv:=.pZ id) hf hm hc
 | vg f dp=>exact dA.fr (pv:=.vg f dp) hf hm hc
 | fn f=>exact dA.fr (pv:=.fn f) hf hm hc
 | mj=>trivial
 | aX sz n e f F=>exact dA.fr (pv:=.aX sz n e f F) hf hm hc
 | kc cs=>exact(show False from hc).elim
theorem da.fr (hf:Fr μ h S w μ' h' S' w') (hm:yI μ h S w) {pv:PV} {v:Value} (hc:da μ h S w pv v):da μ' h' S' w' pv v:=by
 cases pv with
 | kc cs=>
  obtain⟨vs,h1,h2,h3⟩:=hc;exact⟨vs,h1,h2,λj pv hj=>let⟨u,hu,a⟩:=h3 j pv hj;⟨u,hu,a.fr hf hm⟩⟩
 | int k n=>exact mh.fr (pv:=.int k n) hf hm hc
 | bool b=>exact mh.fr (pv:=.bool b) hf hm hc
 | str s=>exact mh.fr (pv:=.str s) hf hm hc
 | bn =>exact mh.fr (pv:=.bn) hf hm hc
 | lJ=>exact mh.fr (pv:=.lJ) hf hm hc
 | jk sz n f=>exact mh.fr (pv:=.jk sz n f) hf hm hc
 | iV cs=>exact mh.fr (pv:=.iV cs) hf hm hc
 | own id gen off len=>exact mh.fr (pv:=.own id gen off len) hf hm hc
 | bc id gen i off=>exact mh.fr (pv:=.bc id gen i off) hf hm hc
 | pZ id=>exact mh.fr (pv:=.pZ id) hf hm hc
 | vg f dp=>exact mh.fr (pv:=.vg f dp) hf hm hc
 | fn f=>exact mh.fr (pv:=.fn f) hf hm hc
 | mj=>trivial
 | aX sz n e f F=>exact mh.fr (pv:=.aX sz n e f F) hf hm hc
 | agg cs=>exact mh.fr (pv:=.agg cs) hf hm hc
theorem bN.one {pv:PV} {v:Value} (hp:bN S w pv v):v.oneCell'=true:=by cases hp<;>rfl
theorem dA.one {pv:PV} {v:Value} (hc:dA μ h S w pv v):v.oneCell'=true:=by
 cases pv with
 | own id gen off len=>
  obtain⟨⟨a,l,c,rfl⟩,_⟩:=(show cK μ h w id gen off len v from hc);rfl
 | bc id gen i off=>
  obtain⟨⟨a,rfl⟩,_⟩:=(show dE μ h w id gen i off v from hc);rfl
 | pZ id=>
  obtain⟨⟨a,rfl⟩,_⟩:=(show jq μ h w id v from hc);rfl
 | vg f dp=>
  obtain⟨vs,rfl,_⟩:=(show uJ μ h w f dp v from hc);rfl
 | mj=>exact hc
 | aX sz n e f F=>exact hc
 | agg cs=>exact(show False from hc).elim
 | kc cs=>exact(show False from hc).elim
 | int k n=>exact bN.one (show bN S w _ v from hc)
 | bool b=>exact bN.one (show bN S w _ v from hc)
 | str s=>exact bN.one (show bN S w _ v from hc)
 | bn=>exact bN.one (show bN S w _ v from hc)
 | lJ=>exact bN.one (show bN S w _ v from hc)
 | jk sz n f=>exact bN.one (show bN S w _ v from hc)
 | iV cs=>exact bN.one (show bN S w _ v from hc)
 | fn f=>exact bN.one (show bN S w _ v from hc)
theorem uK.c {pv:PV} {v:Value} (hc:uK μ h S w pv v):dA μ h S w pv v:=by
 cases pv with
 | aX sz n e f F=>exact rz.one (show rz S w (.aX sz n e f F) v from hc)
 | _=>exact hc
theorem dA.k {pv:PV} {v:Value} (hc:dA μ h S w pv v) (a:fI pv=false):uK μ h S w pv v:=by
 cases pv with
 | aX sz n e f F=>cases a
 | _=>exact hc
theorem uK.fr (hf:Fr μ h S w μ' h' S' w') (hm:yI μ h S w) {pv:PV} {v:Value} (d:∀sz n e f F,pv=.aX sz n e f F->∀b,F b->w'.heap[b]? =w.heap[b]?) (hc:uK μ h S w pv v):uK μ' h' S' w' pv v:=by
 cases pv with
 | aX sz n e f F=>exact rz.mono (λb a=>hf.blocks b (hm.slt b a) (λg=>hm.apart b g a)) hf.sub (show rz S w (.aX sz n e f F) v from hc) d
 | _=>exact(dA.fr hf hm (uK.c hc)).k rfl
theorem CC {id i j b:Nat}:¬fg [] id i j b:=λ⟨_,_,_,_,_,_,_,_,_,_,h1,_⟩=>by simp at h1
theorem pQ {μ:Mu} {b:Nat}:¬dX μ [] b:=λh=>by
 rcases h with⟨id,g,sz,n,e,f,base,h1,_⟩ | ⟨_,_,_,h1⟩
 ·simp at h1
 ·exact CC h1
theorem Fr.refl:Fr μ h S w μ h S w where
 len:=No _
 blocks _ _ _:=rfl
 sub _ a:=a
 new _ a:=.inl a
 own _ a:=.inl a
 size:=No _
 os:=rfl
 tape:=rfl
 output:=rfl
 Ia id g sz n e f hh:=by rw[hh];exact⟨No _,λ_=>⟨rfl,rfl,rfl,rfl⟩⟩
 dead _ hh:=hh
 dp _ _ _ hc:=hc
 maps id g sz n e f b base c hm a:=⟨a,.inr ⟨⟨g,sz,n,e,f,c⟩,hm⟩⟩
 Bs b id i j hh a:=a
theorem Fr.trans {μ'':Mu} {p:List au} {u:Nat->Prop} {E:World} (a:Fr μ h S w μ' h' S' w') (b:Fr μ' h' S' w' μ'' p u E):Fr μ h S w μ'' p u E where
 len:=alg a.len b.len
 blocks k m hn:=(b.blocks k (akK m a.size) (λv=>by
  rcases a.own k v with h1 | h1
  ·exact hn h1
  ·omega)).trans (a.blocks k m hn)
 sub k m:=b.sub k (a.sub k m)
 new k m:=by
  rcases b.new k m with h1 | h1 | h1
  ·exact a.new k h1
  ·rcases a.own k h1 with h2 | h2
   ·exact .inr (.inl h2)
   ·exact .inr (.inr h2)
  ·exact .inr (.inr (alg a.size h1))
 own k m:=by
  rcases b.own k m with h1 | h1
  ·exact a.own k h1
  ·exact .inr (alg a.size h1)
 size:=alg a.size b.size
 os:=b.os.trans a.os
 tape:=b.tape.trans a.tape
 output:=b.output.trans a.output
 Ia id g sz n e f hh:=by
  have h1:=a.Ia id g sz n e f hh;cases d:h'[id]? with
  | none=>rw[d]at h1;exact h1.elim
  | some G=>
   cases G with
   | dead=>rw[b.dead id d];trivial
   | row l q r s t=>
    rw[d]at h1;have h2:=b.Ia id l q r s t d;cases o:p[id]? with
    | none=>rw[o]at h2;exact h2
    | some A=>
     cases A with
     | dead=>trivial
     | row B F H I J=>
      rw[o]at h2;refine⟨alg h1.1 h2.1,λhe=>?_⟩;have K:l=g:=by have:=h1.1;have:=h2.1;omega
      have e2:B=l:=by omega
      obtain⟨L,M,N,O⟩:=h1.2 K;obtain⟨y1,y2,P,Q⟩:=h2.2 e2;exact⟨y1.trans L,y2.trans M,P.trans N,Q.trans O⟩
 dead id hh:=b.dead id (a.dead id hh)
 dp k c v hc:=by
  have h1:=a.dp k c v hc;by_cases h2:dX μ' h' k
  ·exact b.dp k c h2 h1
  ·refine oE.of_same (b.blocks k ?_ h2) h1;obtain⟨cur,e,z,h3,_⟩:=h1;exact(akw.1 h3).1
 maps id g sz n e f k base v hm C:=by
  obtain⟨h1,h2⟩:=a.maps id g sz n e f k base v hm C;rcases h2 with h2 | ⟨⟨l,q,r,s,t,h2⟩,h3⟩
  ·refine⟨?_,.inl (b.dead id h2)⟩;by_cases h4:dX μ' h' k
   ·rcases h4 with⟨j,l,q,r,s,t,D,j1,j2⟩ | ⟨j,x,y,h4⟩
    ·exact(b.maps j l q r s t k D j1 j2 h1).1
    ·exact b.Bs k j x y h4 h1
   ·obtain⟨es,c,h5⟩:=h1;exact⟨es,c,(b.blocks k (akw.1 h5).1 h4).trans h5⟩
  ·exact b.maps id l q r s t k base h2 h3 h1
 Bs k id i j hh C:=by
  have h1:=a.Bs k id i j hh C;by_cases h4:dX μ' h' k
  ·rcases h4 with⟨j,l,q,r,s,t,D,j1,j2⟩ | ⟨j,x,y,h4⟩
   ·exact(b.maps j l q r s t k D j1 j2 h1).1
   ·exact b.Bs k j x y h4 h1
  ·obtain⟨es,c,h5⟩:=h1;exact⟨es,c,(b.blocks k (akw.1 h5).1 h4).trans h5⟩
structure dV (w w':World):Prop where
 blocks:∀b,b<w.heap.size->w'.heap[b]? =w.heap[b]?
 size:w.heap.size<=w'.heap.size
 os:w'.os=w.os
 tape:w'.tape=w.tape
 output:w'.output=w.output
theorem dV.refl (w:World):dV w w:=⟨λ_ _=>rfl,No _,rfl,rfl,rfl⟩
theorem dV.trans {a b c:World} (x:dV a b) (y:dV b c):dV a c:=
 ⟨λk d=>(y.blocks k (akK d x.size)).trans (x.blocks k d),alg x.size y.size,y.os.trans x.os,y.tape.trans x.tape,y.output.trans x.output⟩
theorem dV.cell {w w':World} (h:dV w w') {a:Addr} {u:Value} (hc:w.cell? a=some u):w'.cell? a=some u:=
 (World.cell?_of_block (w:=w) (h.blocks a.block (World.block_lt_of_cell? _ _ hc))).trans hc
theorem dV.drew (w:World):dV w w.drew:=⟨λ_ _=>rfl,No _,rfl,rfl,rfl⟩
theorem dV.drewN (w:World) (n:Nat):dV w (w.drewN n):=⟨λ_ _=>rfl,No _,rfl,rfl,rfl⟩
theorem oE.lt {b k:Nat} (h:oE w b k):b<w.heap.size:=by
 obtain⟨cur,e,z,h1,_⟩:=h;exact(akw.1 h1).1
theorem Fr.Cy (d:dV w w'):Fr μ h S w μ h S w' where
 len:=No _
 blocks b a _:=d.blocks b a
 sub _ a:=a
 new _ a:=.inl a
 own _ a:=.inl a
 size:=d.size
 os:=d.os
 tape:=d.tape
 output:=d.output
 Ia id g sz n e f hh:=by rw[hh];exact⟨No _,λ_=>⟨rfl,rfl,rfl,rfl⟩⟩
 dead _ hh:=hh
 dp b k _ hc:=oE.of_same (d.blocks b hc.lt) hc
 maps id g sz n e f b base l hm a:=⟨let⟨es,c,h5⟩:=a;⟨es,c,(d.blocks b (akw.1 h5).1).trans h5⟩,.inr ⟨⟨g,sz,n,e,f,l⟩,hm⟩⟩
 Bs b id i j _ a:=let⟨es,c,h5⟩:=a;⟨es,c,(d.blocks b (akw.1 h5).1).trans h5⟩
theorem yI.Eu (hm:yI μ h S w) (a:Fr μ h S w μ' h' S' w'):Va S' w':=
 hm.known.pO (λb c=>a.blocks b (hm.slt b c) (λd=>hm.apart b d c)) a.sub
theorem yI.agree (c:dV w w') (hm:yI μ h S w):yI μ h S w':=
 ⟨hm.apart,λb a=>akK (hm.lt b a) c.size,λb a=>akK (hm.slt b a) c.size,hm.inj,hm.known.pO (λb a=>c.blocks b (hm.slt b a)) (λ_ a=>a),hm.hv,hm.hh⟩
theorem dT.agree (a:dV w w') (hm:yI μ h S w) (hh:dT μ h S w):dT μ h S w':=by
 intro id g sz n e f c;obtain⟨h1,h2⟩:=hh id g sz n e f c;refine⟨h1,?_⟩;cases d:μ id with
 | none=>rw[d]at h2;exact h2
 | some p=>
  obtain⟨b,base⟩:=p;rw[d]at h2;obtain⟨o,h3,h4⟩:=h2;have l:b<w.heap.size:=(akw.1 h3).1;exact⟨o,(a.blocks b l).trans h3,h4.mono (λi j pv v hi hj m=>m.fr (Fr.Cy a) hm (λq r s t u he k x=>a.blocks k (hm.lt k (.inr ⟨id,i,j,g,sz,n,e,f,q,r,s,t,u,c,hi,by rw[hj,he],x⟩))))⟩
end
end Go.Am
