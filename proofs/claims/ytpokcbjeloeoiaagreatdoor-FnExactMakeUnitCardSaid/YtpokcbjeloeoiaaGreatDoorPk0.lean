/- Texts of the proof, joined and shortened. -/
import Derived.WalkKit
import Derived.Deep.Draws
import Derived.Deep.Quiet
namespace Go.Am
open Go Go.RowKit
set_option linter.unusedVariables false
abbrev an:=@beq_eq_false_iff_ne
abbrev mg:=@if_neg
abbrev An:=@if_pos
abbrev As:=@Bool.and_eq_true
abbrev At:=@List.length_cons
abbrev No:=@List.length_nil
abbrev N2:=@List.getElem?_eq_some_iff
abbrev Of:=@Nat.le_refl
abbrev abF:=@List.getElem?_eq_getElem
abbrev abL:=@Nat.eq_of_beq_eq_true
abbrev amb:=@Array.getElem?_eq_some_iff
abbrev are:=@Nat.zero_add
abbrev aOi:=@Bool.false_eq_true
abbrev aOj:=@List.length_append
abbrev aOk:=@List.drop_eq_nil_of_le
abbrev aOl:=@List.all_eq_true
abbrev aOm:=@beq_iff_eq
abbrev aOn:=@if_false
abbrev aOo:=@Bool.false_ne_true
abbrev aOp:=@List.getD_eq_getElem?_getD
abbrev aOq:=@List.drop_eq_getElem_cons
abbrev aOr:=@Nat.lt_succ_self
abbrev aOs:=@Bool.or_false
abbrev aOt:=@Bool.false_or
abbrev aOu:=@List.drop_zero
abbrev aOv:=@List.all_cons
abbrev aOw:=@if_true
abbrev aOx:=@List.mem_append
abbrev aOy:=@List.mem_of_getElem?
abbrev aOz:=@List.mem_cons
abbrev aOA:=@Nat.add_mul
abbrev aOB:=@List.nil_append
abbrev aOC:=@List.map_cons
abbrev aOD:=@List.getElem_mem
abbrev aOE:=@Nat.lt_of_lt_of_le
abbrev aOF:=@Nat.mul_le_mul_right
abbrev aOG:=@List.getElem?_map
abbrev aOH:=@List.getElem?_append_right
abbrev aOI:=@List.getElem?_set_ne
abbrev aOJ:=@Array.getElem?_eq_getElem
abbrev aOK:=@Bool.and_true
abbrev aOL:=@Array.getElem?_toList
abbrev aOM:=@Nat.le_of_ble_eq_true
abbrev aON:=@List.getElem?_append_left
abbrev aOO:=@List.contains_cons
abbrev aOP:=@Bool.and_false
abbrev aOQ:=@List.append_assoc
abbrev aOR:=@List.mem_cons_of_mem
abbrev aOS:=@decide_eq_false
abbrev aOT:=@Nat.le_of_lt
abbrev aOU:=@List.getElem?_cons_succ
abbrev aOV:=@List.contains_nil
abbrev aOW:=@List.append_nil
abbrev aOX:=@Nat.not_lt_zero
abbrev aOY:=@Option.some.inj
abbrev aOZ:=@Bool.or_eq_true
abbrev aPa:=@Bool.true_or
abbrev aPb:=@List.map_nil
abbrev aPc:=@List.getElem?_eq_none
abbrev aPd:=@List.getElem?_cons_zero
abbrev aPe:=@Bool.not_eq_true'
abbrev aPf:=@Nat.lt_or_ge
abbrev aPg:=@List.mem_map
abbrev aPh:=@List.all_nil
abbrev aPi:=@List.getElem?_set_self
abbrev aPj:=@Nat.le_succ
abbrev aPk:=@List.length_drop
abbrev aPl:=@Bool.or_true
abbrev aPm:=@decide_eq_true_eq
abbrev aPn:=@Nat.add_sub_cancel_left
abbrev aPo:=@Array.getElem?_append_left
abbrev aPp:=@Array.length_toList
abbrev aPq:=@List.getElem?_nil
abbrev aPr:=@Nat.le_trans
abbrev aPs:=@decide_eq_true
abbrev aPt:=@List.length_eq_zero_iff
abbrev aPu:=@List.cons_append
abbrev aPv:=@Nat.add_zero
abbrev aPw:=@Bool.true_and
abbrev aPx:=@Array.eq_empty_of_size_eq_zero
abbrev aPy:=@List.getElem?_drop
abbrev aPz:=@Nat.sub_self
abbrev aPA:=@Nat.eq_zero_or_pos
abbrev aPB:=@Ne.symm
abbrev aPC:=@Bool.false_and
abbrev aPD:=@Int.toNat_natCast
abbrev aPE:=@List.drop_succ_cons
abbrev aPF:=@Nat.zero_le
abbrev aPG:=@Bool.eq_iff_iff
abbrev aPH:=@List.any_cons
abbrev aPI:=@beq_self_eq_true
abbrev aPJ:=@Nat.beq_refl
abbrev aPK:=@List.set_cons_zero
abbrev aPL:=@List.mem_iff_getElem
abbrev aPM:=@List.getElem_append_right
abbrev aPN:=@List.getElem_append_left
abbrev aPO:=@List.set_cons_succ
abbrev aPP:=@Array.size_append
abbrev aPQ:=@List.concat_eq_append
abbrev aPR:=@Bool.or_eq_false_iff
abbrev aPS:=@List.length_take
abbrev aPT:=@List.isPrefixOf_iff_prefix
abbrev aPU:=@List.length_map
abbrev aPV:=@List.getElem?_take
abbrev aPW:=@List.mem_singleton
abbrev aPX:=@Array.empty_append
abbrev aPY:=@cond_true
abbrev aPZ:=@cond_false
abbrev aQa:=@decide_eq_false_iff_not
abbrev aQb:=@Bool.eq_false_iff
abbrev aQc:=@List.getElem_cons_zero
abbrev aQd:=@List.drop_nil
abbrev aQe:=@List.getElem?_toArray
abbrev aQf:=@List.eq_nil_or_concat
abbrev aQg:=@Array.getElem?_setIfInBounds_ne
abbrev aQh:=@List.length_set
abbrev aQi:=@List.dropLast_concat
abbrev aQj:=@bne_iff_ne
abbrev aQk:=@List.drop_take
abbrev aQl:=@List.mem_range
abbrev aQm:=@Array.getElem?_map
abbrev aQn:=@Nat.add_assoc
abbrev aQo:=@List.getElem?_set
abbrev aQp:=@not_true_eq_false
abbrev aQq:=@List.reverse_nil
abbrev aQr:=@Option.getD_some
abbrev aQs:=@List.map_toArray
abbrev aQt:=@Option.bind_some
abbrev aQu:=@List.not_mem_nil
abbrev aQv:=@Nat.max_eq_right
abbrev aQw:=@List.any_nil
theorem aQx {p:Prop} (h:p:=by
  obtain rfl:=si h;replace h:=eX;exact eB h):p:=h
theorem aQy {p:Prop} (h:p:=by
  obtain rfl:=si h;replace h:=fg;exact eB h):p:=h
theorem aQz {p:Prop} (h:p:=by
  obtain rfl:=si h;replace h:=iJ;exact eB h):p:=h
theorem aQA {p:Prop} (h:p:=by
  obtain rfl:=si h;replace h:=wX;exact eB h):p:=h
theorem aQB {p:Prop} (h:p:=by
  obtain rfl:=si h;replace h:=ve;exact eB h):p:=h
theorem aQC {p:Prop} (h:p:=by
  obtain rfl:=si eX;exact⟨rfl,_,rfl,(en [] ⟨rfl,rfl⟩ HZ ⟨⟩)⟩):p:=h
theorem aQD {p:Prop} (h:p:=by
  obtain rfl:=si h;replace h:=th;exact eB h):p:=h
theorem aQE {p:Prop} (h:p:=by
  obtain rfl:=si h;replace h:=MF;exact eB h):p:=h
theorem aQF {p:Prop} (h:p:=by
  rintro _ _ ⟨y1,rfl,rfl,rfl⟩;replace h:=Em;exact .d (eI h)):p:=h
theorem aQG {p:Prop} (h:p:=by
  rintro _ _ ⟨rfl,rfl,rfl⟩;replace h:=eX;exact .d (eB h)):p:=h
theorem aQH {p:Prop} (h:p:=by
  obtain rfl:=si h;replace h:=CS;exact eB h):p:=h
theorem aQI {p:Prop} (h:p:=by
  obtain rfl:=si UE;exact⟨rfl,_,rfl,(en [0,4] ⟨SN,W4.self,rfl,rfl⟩ eW kZ)⟩):p:=h
theorem aQJ {p:Prop} (h:p:=by
  obtain rfl:=si h;replace h:=ans;exact lg (Xu _ _ _ _ h rfl) (tk [0] Cl kQ)):p:=h
theorem aQK {p:Prop} (h:p:=by
  obtain rfl:=si h;replace h:=IK;exact eB h):p:=h
theorem aQL {p:Prop} (h:p:=by
  obtain rfl:=si VH;exact en [0,1] ⟨bJ,rfl,rfl⟩ ql sJ):p:=h
theorem aQM {p:Prop} (h:p:=by
  obtain⟨dst,op,ty,pos,after,guard⟩:=o;subst hg;exact hp):p:=h
theorem aQN {p:Prop} (h:p:=by
  obtain rfl:=si h;replace h:=Em;exact eI h):p:=h
theorem aQO {p:Prop} (h:p:=by
  obtain rfl:=si h;exact⟨rfl,_,rfl,(en [0,4] ⟨_,(DR.nil (D:=ae.D)),rfl,rfl⟩ yU yD)⟩):p:=h
theorem aQP {p:Prop} (h:p:=by
  obtain rfl:=si h;exact⟨rfl,_,rfl,(en [0,4] ⟨_,(DR.nil (D:=ae.D)),rfl,rfl⟩ yU yH)⟩):p:=h
theorem aQQ {p:Prop} (h:p:=by
  replace h:=sO;exact aQB):p:=h
theorem aQR {p:Prop} (h:p:=by
  obtain rfl:=si h;exact en [0] ⟨rfl,rfl⟩ .s tK):p:=h
theorem aQS {p:Prop} (h:p:=by
  obtain rfl:=si h;exact⟨rfl,_,rfl,(en [0,3] ⟨_,(DR.nil (D:=ae.D)),rfl,rfl⟩ yU yH)⟩):p:=h
theorem aQT {p:Prop} (h:p:=by
  obtain rfl:=si h;exact⟨rfl,_,rfl,(en [3] ⟨_,(DR.nil (D:=ae.D)),rfl,rfl⟩ agI HL)⟩):p:=h
theorem aQU {p:Prop} (h:p:=by
  obtain rfl:=si h;exact en [0] ⟨rfl,rfl⟩ .b DD):p:=h
theorem aQV {p:Prop} (h:p:=by
  intro F0 F1 ou ow a0 y5 y6 o h;exact .mk F0 ou F1 ow a0 y5 y6 o h):p:=h
theorem aQW {p:Prop} (h:p:=by
  obtain rfl:=si h;exact en [0] ⟨rfl,rfl⟩ .b tK):p:=h
theorem aQX {p:Prop} (h:p:=by
  obtain rfl:=si h;exact en [] ⟨rfl,rfl⟩ VD ⟨⟩):p:=h
theorem aQY {p:Prop} (h:p:=by
  obtain rfl:=si h;exact en [0,1] ⟨bJ,rfl,rfl⟩ ql sJ):p:=h
theorem aQZ {p:Prop} (h:p:=by
  obtain rfl:=si h;exact⟨rfl,_,rfl,(en [0,2] ⟨apz,aij.self,rfl,rfl⟩ eW kZ)⟩):p:=h
theorem aRa {p:Prop} (h:p:=by
  obtain rfl:=si h;exact⟨rfl,_,rfl,(en [0,2] ⟨apR,Iv.self,rfl,rfl⟩ eW kZ)⟩):p:=h
theorem aRb {p:Prop} (h:p:=by
  obtain rfl:=si h;exact aQC):p:=h
theorem aRc {p:Prop} (h:p:=by
  obtain rfl:=si h;exact en [] ⟨rfl,rfl⟩ (.ng ⟨.s,.i,⟨⟩⟩) ⟨⟩):p:=h
theorem aRd {p:Prop} (h:p:=by
  obtain rfl:=si h;exact en [0] ⟨rfl,rfl⟩ .s DD):p:=h
theorem aRe {p:Prop} (h:p:=by exact ct ⟨si h,rfl,rfl⟩ (tk [] ⟨⟩ ⟨⟩)):p:=h
theorem aRf {p:Prop} (h:p:=by exact ct ⟨_,si h,rfl,rfl⟩ (tk [0] qq eY)):p:=h
theorem aRg {p:Prop} (h:p:=by exact hp.elim):p:=h
theorem aRh {p:Prop} (h:p:=by exact .d (eB h)):p:=h
theorem aRi {p:Prop} (h:p:=by exact ct ⟨_,si h,rfl,rfl⟩ (tk [0] AH eY)):p:=h
theorem aRj {p:Prop} (h:p:=by exact .d (eI h)):p:=h
theorem aRk {p:Prop} (h:p:=by exact ct ⟨_,si h,rfl,rfl⟩ (tk [] Ka ⟨⟩)):p:=h
theorem aRl {p:Prop} (h:p:=by exact⟨_,hu,rfl,h1,abL h2,h4,λu=>by rw[show 9999=9998+1 from rfl,Instr.checkKey];simp [run_underlying hu]⟩):p:=h
theorem aRm {p:Prop} (h:p:=by exact⟨_,rfl⟩):p:=h
theorem aRn {p:Prop} (h:p:=by exact ct ⟨_,si h,rfl,rfl⟩ (tk [] BT ⟨⟩)):p:=h
theorem aRo {p:Prop} (h:p:=by exact ct ⟨_,si h,rfl,rfl⟩ (tk [0,1] VQ HM)):p:=h
theorem aRp {p:Prop} (h:p:=by exact ct ⟨_,si h,rfl,rfl⟩ (tk [0] VB eY)):p:=h
theorem aRq {p:Prop} (h:p:=by exact hc.ok.inj i j _ _ _ _ _ _ _ _ _ _ _ _ _ hi hj pz oA):p:=h
theorem aRr {p:Prop} (h:p:=by exact .t (.t (.t (.t (.t (.t (.t (.t (.d (eB h)))))))))):p:=h
theorem aRs {p:Prop} (h:p:=by exact ct ⟨_,si h,rfl,rfl⟩ (tk [0] Y1 eY)):p:=h
theorem aRt {p:Prop} (h:p:=by exact ct ⟨_,si h,rfl,rfl⟩ (tk [0] ⟨.b,.b,.p,.l,.i,.i,⟨⟩⟩ eY)):p:=h
theorem aRu {p:Prop} (h:p:=by exact lg (HD _ _ _ h rfl) (tk [0] VC eY)):p:=h
theorem aRv {p:Prop} (h:p:=by exact ct ⟨_,_,_,cP,c8,si h,rfl,rfl⟩ (tk [0,1] A3 rV)):p:=h
theorem aRw {p:Prop} (h:p:=by exact .f (.f (.f (eB h)))):p:=h
theorem aRx {p:Prop} (h:p:=by exact⟨Of _,λ_=>⟨rfl,rfl,rfl,rfl⟩⟩):p:=h
theorem aRy {p:Prop} (h:p:=by exact ct ⟨_,si h,rfl,rfl⟩ (tk [0] ⟨.p,.i,.b,⟨⟩⟩ eY)):p:=h
theorem aRz {p:Prop} (h:p:=by exact lg (Xu _ _ _ _ h rfl) (tk [0] Cl kQ)):p:=h
theorem aRA {p:Prop} (h:p:=by exact⟨_,_,_,_,_,_,_,_,_,_,q1,q2,q3,q4⟩):p:=h
theorem aRB {p:Prop} (h:p:=by exact ct ⟨_,_,_,_,si h,rfl,rfl⟩ (tk [0] ui eY)):p:=h
theorem aRC {p:Prop} (h:p:=by exact lg (QK _ _ h rfl) (tk [0] HN eY)):p:=h
theorem aRD {p:Prop} (h:p:=by exact .f (.f (.f (.f (.f (.f (.f (.f (eB h))))))))):p:=h
theorem aRE {p:Prop} (h:p:=by exact ct ⟨_,si h,rfl,rfl⟩ (tk [0,1] MG sJ)):p:=h
theorem aRF {p:Prop} (h:p:=by exact ct ⟨_,_,si h,rfl,rfl⟩ (tk [0] xf eY)):p:=h
theorem aRG {p:Prop} (h:p:=by exact ct ⟨si h,rfl,rfl⟩ (tk [0,1] ui sJ)):p:=h
theorem aRH {p:Prop} (h:p:=by exact⟨_,_,_,rfl,rfl,by simp [wt,Ld]⟩):p:=h
theorem aRI {p:Prop} (h:p:=by exact lg (aaQ _ _ _ h rfl) (tk [] agY ⟨⟩)):p:=h
theorem aRJ {p:Prop} (h:p:=by exact .inr ⟨_,_,_,q⟩):p:=h
theorem aRK {p:Prop} (h:p:=by omega):p:=h
theorem aRL {p:Prop} (h:p:=by decide):p:=h
theorem aRM {p:Prop} (h:p:=by rw[show aS ts (.g i) 0 1 []=false from by show(kd ts i==1&&true)=false;rw[(an.2 k1)];rfl]):p:=h
theorem aRN {p:Prop} (h:p:=by simp):p:=h
theorem aRO {p:Prop} (h:p:=by rw[show aS ts (.g i) 0 6 [123]=false from(aM H (by decide) (by decide)).trans (az hw (by decide))]):p:=h
theorem aRP {p:Prop} (h:p:=by kernel_rfl):p:=h
theorem aRQ {p:Prop} (h:p:=by rw[show tw ts (JS.g i).pos [123]=false from(az hw (by decide))]):p:=h
theorem aRR {p:Prop} (h:p:=by rw[show tw ts (JS.g i).pos [105,102]=false from(az hw (by decide))]):p:=h
theorem aRS {p:Prop} (h:p:=by simp [Op.operands]):p:=h
theorem aRT {p:Prop} (h:p:=by simp;omega):p:=h
theorem aRU {p:Prop} (h:p:=by simp only[At,No];omega):p:=h
theorem aRV {p:Prop} (h:p:=by simp only[At];omega):p:=h
theorem aRW {p:Prop} (h:p:=by rw[show aS ts (.g i) 0 6 [123]=false from(aM H (by decide) (by decide)).trans L9]):p:=h
theorem aRX {p:Prop} (h:p:=by simp [Region.wanted,hg,hy]):p:=h
theorem aRY {p:Prop} (h:p:=by simp only[aOj,At,No];omega):p:=h
theorem aRZ {p:Prop} (h:p:=by simpa using hj):p:=h
theorem aSa {p:Prop} (h:p:=by first | rfl | exact(DR.nil (D:=ae.D)).len | exact(DR.nil (D:=ae.D)).len.symm):p:=h
theorem aSb {p:Prop} (h:p:=by assumption):p:=h
theorem aSc {p:Prop} (h:p:=by rw[show tw ts (JS.g i).pos [105,102]=false from f0]):p:=h
theorem aSd {p:Prop} (h:p:=by rw[show tw ts (JS.g i).pos [123]=false from L9]):p:=h
theorem aSe {p:Prop} (h:p:=by have:=(show([115,116,97,116,105,99]:aE).length<=4000 by decide);have:=js H (wS ts (.g (i+1)) [58,58]) 3;simp only[aOj,At,No];omega):p:=h
theorem aSf {p:Prop} (h:p:=by simp only[Nat.reduceAdd,Nat.reducePow];omega):p:=h
theorem aSg {p:Prop} (h:p:=by cases h):p:=h
theorem aSh {p:Prop} (h:p:=by show ¬false=true;decide):p:=h
theorem aSi {p:Prop} (h:p:=by simpa using h):p:=h
theorem aSj {p:Prop} (h:p:=by have:=(show([115,116,97,116,105,99]:aE).length<=4000 by decide);simp only[At,No];omega):p:=h
theorem aSk {p:Prop} (h:p:=by simp [wC]):p:=h
theorem aSl {p:Prop} (h:p:=by have:=hx;have:=js H (wS ts (.g (i+1)) [58,58]) 3;simp only[aOj,At,No];omega):p:=h
theorem aSm {p:Prop} (h:p:=by rw[v5,aOs]):p:=h
theorem aSn {p:Prop} (h:p:=by rw[<-hf i hi];exact hj):p:=h
theorem aSo {p:Prop} (h:p:=by simpa using hp):p:=h
theorem aSp {p:Prop} (h:p:=by simpa using h2):p:=h
theorem aSq {p:Prop} (h:p:=by simpa using h1):p:=h
theorem aSr {p:Prop} (h:p:=by simp [Region.wanted,hg,vL hs hj he]):p:=h
theorem aSs {p:Prop} (h:p:=by rw[hk];simp):p:=h
theorem aSt {p:Prop} (h:p:=by rw[he];exact hu):p:=h
theorem aSu {p:Prop} (h:p:=by rw[aOm];omega):p:=h
theorem aSv {p:Prop} (h:p:=by rw[h1]):p:=h
theorem aSw {p:Prop} (h:p:=by simpa using q1):p:=h
theorem aSx {p:Prop} (h:p:=by simpa using hy):p:=h
theorem aSy {p:Prop} (h:p:=by simpa using hh):p:=h
theorem aSz {p:Prop} (h:p:=by simp at hx ⊢;exact .inr hx):p:=h
theorem aSA {p:Prop} (h:p:=by subst hy;simp [Op.operands]):p:=h
theorem aSB {p:Prop} (h:p:=by simp [Op.operands];exact⟨p.1,by simpa using hp⟩):p:=h
end Go.Am
set_option linter.unusedVariables false
set_option linter.unusedSimpArgs false
namespace Go.Am
open Go
def Mm:List Int:=[1,10,100,1000,10000,100000,1000000,10000000,100000000,1000000000,10000000000,100000000000,1000000000000,10000000000000,100000000000000,1000000000000000,10000000000000000,100000000000000000,1000000000000000000,10000000000000000000]
def Kg:List (Nat×Array Value):=[(3,(Mm.map λz=>Value.int .u64 z).toArray)]
def AK:List Nat:=[1,2]
def Ki:List Nat:=[0]
def af1:Nat:=4294967295
end Go.Am
namespace Go.Am
open Go Go.RowKit
inductive PV where
 | int (k:IntKind) (n:Int)
 | bool (b:Bool)
 | str (s:List UInt8)
 | ck
 | jS
 | iT (sz n:Nat) (f:Nat->List PV)
 | ia (cells:List PV)
 | own (id gen off len:Nat)
 | aA (id gen i off:Nat)
 | qc (id:Nat)
 | ud (f:Nat) (dG:List (Nat×Nat))
 | fn (f:Nat)
 | agg (cs:List PV)
 | fV (vs:List PV)
 | j3
 | eg (sz n:Nat) (e:TypeId) (f:Nat->List PV) (F:Nat->Prop)
 deriving Inhabited
abbrev Env:=Nat->PV
inductive aq where
 | row (gen sz n:Nat) (e:TypeId) (f:Nat->List PV)
 | dead
 deriving Inhabited
inductive TI where
 | int (k:IntKind)
 | bool
 | str
 | slice (e sz bytes:Nat) (zero:List PV)
 | struct (sz:Nat) (fields:List (Nat×Nat×Bool)) (zero:List PV)
 | ptr (e:Nat)
 | map (k e:Nat) (zero:PV)
 | other
 deriving Inhabited
structure sf where
 get:Nat->TI
def sT (env:Env) (t:Nat) (v:PV):Env:=λj=>bif Nat.beq j t then v else env j
def gn (env:Env) (d:Option Nat) (v:PV):Env:=match d with | some t=>sT env t v | none=>env
def DY (env:Env):List (Nat×PV)->Env
 | []=>env
 | (t,v)::r=>sT (DY env r) t v
inductive iq (b:Bool) (T F:Prop):Prop
 | mk (ht:b=true->T) (hf:b=false->F):iq b T F
theorem ml {b:Bool} {T F:Prop} (h:iq b T F):(b=true->T)/\(b=false->F):=by cases h with | mk a b=>exact⟨a,b⟩
def fy (b:Bool) (K:Prop):Prop:=match b with | true=>K | false=>False
theorem bW {b:Bool} {K:Prop} (h:fy b K):b=true/\K:=by cases b;exact h.elim;exact⟨rfl,h⟩
def tR:IntKind->IntKind->Bool
 | .i8,.i8=>true
 | .i16,.i16=>true
 | .i32,.i32=>true
 | .i64,.i64=>true
 | .u8,.u8=>true
 | .u16,.u16=>true
 | .u32,.u32=>true
 | .u64,.u64=>true
 | _,_=>false
theorem gy {k a:IntKind} (h:tR k a=true):k=a:=by cases k<;>cases a<;>first | rfl | cases h
def ao0:Value->Option PV
 | .int k n=>some (.int k n)
 | .bool b=>some (.bool b)
 | .string s=>some (.str s.data.toList)
 | .slice none 0 0=>some .ck
 | .pointer none=>some .jS
 | _=>none
def Wu:List Value->Option (List PV)
 | []=>some []
 | v::r=>match ao0 v,Wu r with
  | some p,some l=>some (p::l)
  | _,_=>none
def aGM:Option (List PV)->PV
 | some l=>.agg l
 | none=>.j3
def ofValue:Value->PV
 | .int k n=>.int k n
 | .bool b=>.bool b
 | .string s=>.str s.data.toList
 | .slice none 0 0=>.ck
 | .pointer none=>.jS
 | .agg vs=>aGM (Wu vs.toList)
 | _=>.j3
inductive XA:PV->PV->Prop
 | same (a:PV):XA a a
 | nil (sz:Nat) (f:Nat->List PV):XA .ck (.iT sz 0 f)
 | Dw (sz:Nat) (e:TypeId) (f:Nat->List PV):XA .ck (.eg sz 0 e f (λ_=>False))
def pB:List PV->List PV->Prop
 | [],[]=>True
 | a::l,b::r=>XA a b/\pB l r
 | _,_=>False
def ev (env:Env):Operand->PV
 | .tmp t=>env t
 | .const v=>ofValue v
 | .func f=>.fn f
 | .global _=>.j3
abbrev Mu:=Nat->Option (Nat×Nat)
inductive ba (S:Nat->Prop) (w:World):PV->Value->Prop
 | int (k:IntKind) (n:Int):ba S w (.int k n) (.int k n)
 | bool (b:Bool):ba S w (.bool b) (.bool b)
 | str (s:List UInt8):ba S w (.str s) (.string ⟨⟨s⟩⟩)
 | ck:ba S w .ck (.slice none 0 0)
 | jS:ba S w .jS (.pointer none)
 | fn (f:Nat):ba S w (.fn f) (.func (.func f) #[] #[])
 | uE (sz:Nat) (f:Nat->List PV) (a:Option Addr) (c:Nat):ba S w (.iT sz 0 f) (.slice a 0 c)
 | iT (sz n:Nat) (f:Nat->List PV) (b off c:Nat) (vf:Nat->Nat->Value) (hS:S b) (hlen:∀i,i<n->(f i).length=sz) (hc:n<=c)
   (bD:∀(i j:Nat) (pv:PV),i<n->(f i)[j]? =some pv->w.cell? ⟨b,off+i*sz+j,none⟩=some (vf i j))
   (qR:∀(i j:Nat) (pv:PV),i<n->(f i)[j]? =some pv->ba S w pv (vf i j)):ba S w (.iT sz n f) (.slice (some ⟨b,off,none⟩) n c)
 | ia (cs:List PV) (b off:Nat) (vf:Nat->Value) (hS:S b)
   (bD:∀(j:Nat) (pv:PV),cs[j]? =some pv->w.cell? ⟨b,off+j,none⟩=some (vf j))
   (qR:∀(j:Nat) (pv:PV),cs[j]? =some pv->ba S w pv (vf j)):ba S w (.ia cs) (.pointer (some ⟨b,off,none⟩))
inductive nU (S:Nat->Prop) (w:World):PV->Value->Prop
 | nil (sz:Nat) (e:TypeId) (f:Nat->List PV) (F:Nat->Prop) (hF:∀b,¬F b):nU S w (.eg sz 0 e f F) (.slice none 0 0)
 | PB (sz n:Nat) (e:TypeId) (f:Nat->List PV) (F:Nat->Prop) (b off c:Nat) (a:Addr) (cur:Array Value) (vf:Nat->Nat->Value) (hF:F b) (hb:w.heap[b]? =some (.cells cur e (0,0))) (hlen:∀i,i<n->(f i).length=sz) (hc:n<=c)
   (ha:0<c->a=⟨b,off,none⟩) (il:off+c*sz<=cur.size)
   (bD:∀(i j:Nat) (pv:PV),i<n->(f i)[j]? =some pv->cur[off+i*sz+j]? =some (vf i j))
   (qR:∀(i j:Nat) (pv:PV),i<n->(f i)[j]? =some pv->ba S w pv (vf i j)\/∃cW n' e' f' F',pv=.eg cW n' e' f' F')
   (xz:∀(i j cW n':Nat) (e':TypeId) (f':Nat->List PV) (F':Nat->Prop),i<n->(f i)[j]? =some (.eg cW n' e' f' F')->nU S w (.eg cW n' e' f' F') (vf i j))
   (IA:∀(i j cW n':Nat) (e':TypeId) (f':Nat->List PV) (F':Nat->Prop),i<n->(f i)[j]? =some (.eg cW n' e' f' F')->∀b',F' b'->F b'/\b'≠b)
   (PD:∀(i j cW n':Nat) (e':TypeId) (f':Nat->List PV) (F':Nat->Prop) (i2 j2 mY n2:Nat) (e2:TypeId) (f2:Nat->List PV) (F2:Nat->Prop),i<n->(f i)[j]? =some (.eg cW n' e' f' F')->i2<n->(f i2)[j2]? =some (.eg mY n2 e2 f2 F2)->
    ∀b',F' b'->F2 b'->i=i2/\j=j2):nU S w (.eg sz n e f F) (.slice (some a) n c)
def lH (w:World) (b k:Nat):Prop:=∃cur e z,w.heap[b]? =some (.cells cur e z)/\k<=cur.size
def bK (μ:Mu) (h:List aq) (w:World) (id gen off len:Nat) (v:Value):Prop:=
 (∃a l c,v=.slice a l c)/\match h[id]? with
 | some (aq.row g sz n _ _)=>gen<=g/\(gen=g->off+len<=n/\match μ id with
  | none=>v=.slice none 0 0
  | some (b,base)=>∃a cap,v=.slice (some a) len cap/\len<=cap/\(0<cap->a=⟨b,base+off*sz,none⟩)/\lH w b (base+(off+cap)*sz))
 | some aq.dead=>True
 | none=>False
def db (μ:Mu) (h:List aq) (w:World) (id gen i off:Nat) (v:Value):Prop:=
 (∃a,v=.pointer a)/\match h[id]? with
 | some (aq.row g sz n e _)=>gen<=g/\(gen=g->i<n/\∃b base,μ id=some (b,base)/\(lH w b 0/\(Nat.beq e af1=true->base=0))/\v=.pointer (some ⟨b,base+i*sz+off,none⟩))
 | some aq.dead=>True
 | none=>False
def tV (w:World) (b:Nat):Prop:=∃es clock,w.heap[b]? =some (.map es clock)
def ik (μ:Mu) (h:List aq) (w:World) (id:Nat) (v:Value):Prop:=
 (∃a,v=.map a)/\match h[id]? with
 | some (aq.row _ _ _ _ _)=>∃b base,μ id=some (b,base)/\tV w b/\v=.map (some b)
 | some aq.dead=>True
 | none=>False
def wL (O:Nat->Nat->Value->Prop) (f:Nat) (dG:List (Nat×Nat)) (v:Value):Prop:=
 ∃vs:Array Value,v=.func (.func f) #[] vs/\vs.size=dG.length/\∀(j:Nat) (p:Nat×Nat),dG[j]? =some p->∃u:Value,vs[j]? =some u/\O p.1 p.2 u
theorem wL.mono {O a:Nat->Nat->Value->Prop} {f:Nat} {dG:List (Nat×Nat)} {v:Value} (h:wL O f dG v) (b:∀id g u,O id g u->a id g u):wL a f dG v:=by
 obtain⟨vs,h1,h2,c⟩:=h;exact⟨vs,h1,h2,λj p hj=>let⟨u,q1,q2⟩:=c j p hj;⟨u,q1,b _ _ _ q2⟩⟩
def vD (σ:Nat->Nat) (dG:List (Nat×Nat)):List (Nat×Nat):=dG.map λp=>(σ p.1,p.2)
theorem wL.map {O:Nat->Nat->Value->Prop} {σ:Nat->Nat} {f:Nat} {dG:List (Nat×Nat)} {v:Value} (h:wL (λid g u=>O (σ id) g u) f dG v):wL O f (vD σ dG) v:=by
 obtain⟨vs,h1,h2,a⟩:=h;refine⟨vs,h1,by unfold vD;rw[aPU];exact h2,λj p hj=>?_⟩;unfold vD at hj;rw[aOG]at hj;cases hx:dG[j]? with
 | none=>rw[hx]at hj;cases hj
 | some q=>
  rw[hx]at hj;injection hj with hj;subst hj;exact a j q hx
theorem wL.aF0 {O:Nat->Nat->Value->Prop} {σ:Nat->Nat} {f:Nat} {dG:List (Nat×Nat)} {v:Value} (h:wL O f (vD σ dG) v):wL (λid g u=>O (σ id) g u) f dG v:=by
 obtain⟨vs,h1,h2,a⟩:=h;refine⟨vs,h1,by unfold vD at h2;rw[aPU]at h2;exact h2,λj p hj=>?_⟩;obtain⟨u,q1,q2⟩:=a j (σ p.1,p.2) (by unfold vD;rw[aOG,hj];rfl);exact⟨u,q1,q2⟩
def sn (μ:Mu) (h:List aq) (w:World) (f:Nat) (dG:List (Nat×Nat)) (v:Value):Prop:=wL (λid g u=>db μ h w id g 0 0 u) f dG v
def xy:PV->Bool
 | .int _ _=>true
 | .bool _=>true
 | .str _=>true
 | .j3=>true
 | _=>false
def lG:PV->Bool
 | .agg cs=>cs.all xy
 | v=>xy v
def wq:PV->Value->Prop
 | .int k n,v=>v=.int k n
 | .bool b,v=>v=.bool b
 | .str s,v=>v=.string ⟨⟨s⟩⟩
 | _,v=>v.oneCell'=true
def tT:PV->Value->Prop
 | .agg cs,v=>∃vs:Array Value,v=.agg vs/\vs.size=cs.length/\∀(j:Nat) (pv:PV),cs[j]? =some pv->∃u:Value,vs[j]? =some u/\wq pv u
 | .j3,_=>True
 | pv,v=>wq pv v
def zP (C:PV->Value->Prop) (base sz n:Nat) (e:TypeId) (f:Nat->List PV):Obj->Prop
 | .cells cur e' z=>e'=e/\z=(0,0)/\base+n*sz<=cur.size/\∀(i j:Nat) (pv:PV),i<n->(f i)[j]? =some pv->∃v:Value,cur[base+i*sz+j]? =some v/\C pv v
 | .map es _=>es.size=n/\∀i,i<n->∃(a b:PV) (en:MapEntry),f i=[a,b]/\lG a=true/\lG b=true/\es[i]? =some en/\tT a en.key/\tT b en.val
 | _=>False
theorem zP.mono {C a:PV->Value->Prop} {base sz n:Nat} {e:TypeId} {f:Nat->List PV} {o:Obj} (h:zP C base sz n e f o) (hc:∀(i j:Nat) (pv:PV) (v:Value),i<n->(f i)[j]? =some pv->C pv v->a pv v):zP a base sz n e f o:=by
 cases o with
 | cells cur e' z=>
  obtain⟨h1,h2,b,h4⟩:=h;exact⟨h1,h2,b,λi j pv hi hj=>let⟨v,q1,q2⟩:=h4 i j pv hi hj;⟨v,q1,hc i j pv v hi hj q2⟩⟩
 | map es c=>exact h
 | _=>exact h.elim
def cV (μ:Mu) (h:List aq) (S:Nat->Prop) (w:World):PV->Value->Prop
 | .own id gen off len,v=>bK μ h w id gen off len v
 | .aA id gen i off,v=>db μ h w id gen i off v
 | .qc id,v=>ik μ h w id v
 | .ud f dG,v=>sn μ h w f dG v
 | .j3,v=>v.oneCell'=true
 | .eg _ _ _ _ _,v=>v.oneCell'=true
 | .agg _,_=>False
 | .fV _,_=>False
 | pv,v=>ba S w pv v
def qT (μ:Mu) (h:List aq) (S:Nat->Prop) (w:World):PV->Value->Prop
 | .eg sz n e f F,v=>nU S w (.eg sz n e f F) v
 | pv,v=>cV μ h S w pv v
def ky (μ:Mu) (h:List aq) (S:Nat->Prop) (w:World):PV->Value->Prop
 | .agg cs,v=>∃vs:Array Value,v=.agg vs/\vs.size=cs.length/\∀(j:Nat) (pv:PV),cs[j]? =some pv->∃u:Value,vs[j]? =some u/\cV μ h S w pv u
 | .j3,_=>True
 | pv,v=>cV μ h S w pv v
def cj (μ:Mu) (h:List aq) (S:Nat->Prop) (w:World):PV->Value->Prop
 | .fV a,v=>∃vs:Array Value,v=.tuple vs/\vs.size=a.length/\∀(j:Nat) (pv:PV),a[j]? =some pv->∃u:Value,vs[j]? =some u/\ky μ h S w pv u
 | pv,v=>ky μ h S w pv v
def dB (μ:Mu) (h:List aq) (S:Nat->Prop) (w:World):Prop:=
 ∀(id g sz n:Nat) (e:TypeId) (f:Nat->List PV),h[id]? =some (aq.row g sz n e f)->(∀i,i<n->(f i).length=sz)/\match μ id with
  | none=>n=0
  | some (b,base)=>∃o:Obj,w.heap[b]? =some o/\zP (qT μ h S w) base sz n e f o
theorem dB.cells {μ:Mu} {h:List aq} {S:Nat->Prop} {w:World} {b base k sz n:Nat} {e:TypeId} {f:Nat->List PV} (hc:lH w b k) (a:∃o:Obj,w.heap[b]? =some o/\zP (qT μ h S w) base sz n e f o):
  ∃cur:Array Value,w.heap[b]? =some (.cells cur e (0,0))/\base+n*sz<=cur.size/\
    ∀(i j:Nat) (pv:PV),i<n->(f i)[j]? =some pv->∃v:Value,cur[base+i*sz+j]? =some v/\qT μ h S w pv v:=by
 obtain⟨cur,e',z,h1,_⟩:=hc;obtain⟨o,h2,c⟩:=a;obtain rfl:=aOY (h1.symm.trans h2);obtain⟨rfl,rfl,q1,q2⟩:=c;exact⟨cur,h1,q1,q2⟩
theorem dB.FV {C:PV->Value->Prop} {w:World} {b base sz n:Nat} {e:TypeId} {f:Nat->List PV} (a:∃cur:Array Value,w.heap[b]? =some (.cells cur e (0,0))/\base+n*sz<=cur.size/\
    ∀(i j:Nat) (pv:PV),i<n->(f i)[j]? =some pv->∃v:Value,cur[base+i*sz+j]? =some v/\C pv v):∃o:Obj,w.heap[b]? =some o/\zP C base sz n e f o:=by
 obtain⟨cur,h1,h2,c⟩:=a;exact⟨_,h1,rfl,rfl,h2,c⟩
def FW (μ:Mu) (h:List aq) (b:Nat):Prop:=∃(id g sz n:Nat) (e:TypeId) (f:Nat->List PV) (base:Nat),h[id]? =some (aq.row g sz n e f)/\μ id=some (b,base)
def eK (h:List aq) (id i j b:Nat):Prop:=∃(g sz n:Nat) (e:TypeId) (f:Nat->List PV) (a c:Nat) (e':TypeId) (d:Nat->List PV) (F:Nat->Prop),h[id]? =some (aq.row g sz n e f)/\i<n/\(f i)[j]? =some (.eg a c e' d F)/\F b
def dE (μ:Mu) (h:List aq) (b:Nat):Prop:=FW μ h b\/∃id i j,eK h id i j b
def TB (S:Nat->Prop) (w:World):Prop:=(∀p,p∈Kg->S p.1/\∃t z,w.heap[p.1]? =some (.cells p.2 t z))/\(∀g,g∈AK->S g/\∃a p t z,w.heap[g]? =some (.cells #[.iface a p] t z))/\
 ∀g,g∈Ki->S g/\∃m t z,w.heap[g]? =some (.cells #[.int .i64 m] t z)
theorem TB.ez {S S':Nat->Prop} {w w':World} (h:TB S w) (a:∀b,S b->w'.heap[b]? =w.heap[b]?) (hs:∀b,S b->S' b):TB S' w':=
 ⟨λp hp=>⟨hs _ (h.1 p hp).1,by rw[a _ (h.1 p hp).1];exact(h.1 p hp).2⟩,λg hg=>⟨hs _ (h.2.1 g hg).1,by rw[a _ (h.2.1 g hg).1];exact(h.2.1 g hg).2⟩,
  λg hg=>⟨hs _ (h.2.2 g hg).1,by rw[a _ (h.2.2 g hg).1];exact(h.2.2 g hg).2⟩⟩
structure vz (μ:Mu) (h:List aq) (S:Nat->Prop) (w:World):Prop where
 apart:∀b,dE μ h b->¬S b
 lt:∀b,dE μ h b->b<w.heap.size
 slt:∀b,S b->b<w.heap.size
 inj:∀(i j g sz n:Nat) (e:TypeId) (f:Nat->List PV) (g' cW n':Nat) (e':TypeId) (f':Nat->List PV) (b o o':Nat),h[i]? =some (aq.row g sz n e f)->h[j]? =some (aq.row g' cW n' e' f')->μ i=some (b,o)->μ j=some (b,o')->i=j
 known:TB S w
 hv:∀b,FW μ h b->∀id i j,¬eK h id i j b
 hh:∀b id i j id' i' j',eK h id i j b->eK h id' i' j' b->id=id'/\i=i'/\j=j'
structure Fr (μ:Mu) (h:List aq) (S:Nat->Prop) (w:World) (μ':Mu) (h':List aq) (S':Nat->Prop) (w':World):Prop where
 len:h.length<=h'.length
 blocks:∀b,b<w.heap.size->¬dE μ h b->w'.heap[b]? =w.heap[b]?
 sub:∀b,S b->S' b
 new:∀b,S' b->S b\/dE μ h b\/w.heap.size<=b
 own:∀b,dE μ' h' b->dE μ h b\/w.heap.size<=b
 size:w.heap.size<=w'.heap.size
 os:w'.os=w.os
 tape:w'.tape=w.tape
 output:w'.output=w.output
 FX:∀(id g sz n:Nat) (e:TypeId) (f:Nat->List PV),h[id]? =some (aq.row g sz n e f)->match h'[id]? with
  | some (aq.row g' cW n' e' _)=>g<=g'/\(g'=g->μ' id=μ id/\cW=sz/\n'=n/\e'=e)
  | some aq.dead=>True
  | none=>False
 dead:∀id:Nat,h[id]? =some aq.dead->h'[id]? =some aq.dead
 dG:∀b k,dE μ h b->lH w b k->lH w' b k
 maps:∀(id g sz n:Nat) (e:TypeId) (f:Nat->List PV) (b base:Nat),h[id]? =some (aq.row g sz n e f)->μ id=some (b,base)->tV w b->
  tV w' b/\(h'[id]? =some aq.dead\/((∃g' cW n' e' f',h'[id]? =some (aq.row g' cW n' e' f'))/\μ' id=some (b,base)))
 ze:∀b id i j,eK h id i j b->tV w b->tV w' b
def arn (P:Program) (f:FuncId):Prop:=∃fn c,P.funcs[f]? =some fn/\fn.body=some c/\(fn.name== "runtime.NumGoroutine")=false
def ACall (P:Program) (f:FuncId) (args:List PV) (h:List aq) (R:PV->List aq->Prop):Prop:=
 arn P f/\∀(w:World) (vs:Array Value) (μ:Mu) (S:Nat->Prop),dB μ h S w->vz μ h S w->vs.size=args.length->
  (∀(j:Nat) (pv:PV),args[j]? =some pv->∃v:Value,vs[j]? =some v/\ky μ h S w pv v)->
  Calls P f vs w (λe w'=>∃(v:Value) (res:PV) (h':List aq) (μ':Mu) (S':Nat->Prop),e=.returned v/\R res h'/\cj μ' h' S' w' res v/\dB μ' h' S' w'/\vz μ' h' S' w'/\Fr μ h S w μ' h' S' w')
def cO:PV->Bool
 | .int _ _=>true
 | .bool _=>true
 | .str _=>true
 | .ck=>true
 | .jS=>true
 | .iT _ _ _=>true
 | .ia _=>true
 | .fn _=>true
 | _=>false
def eV:PV->Bool
 | .eg _ _ _ _ _=>true
 | _=>false
inductive Gv:PV->PV->Prop
 | mk (sz n:Nat) (e:TypeId) (f f':Nat->List PV) (F:Nat->Prop) (hl:∀i,i<n->(f' i).length=(f i).length) (hf:∀(i j:Nat) (pv hC:PV),i<n->(f i)[j]? =some pv->(f' i)[j]? =some hC->eV pv=false->hC=pv) (ho:∀(i j:Nat) (pv hC:PV),i<n->(f i)[j]? =some pv->(f' i)[j]? =some hC->eV pv=true->Gv pv hC)
   (hp:∀(i j:Nat) (hC:PV),i<n->(f' i)[j]? =some hC->cO hC=true):Gv (.eg sz n e f F) (.iT sz n f')
inductive Fz (h η:List aq) (k:List Nat):PV->PV->Prop
 | int (k':IntKind) (n:Int):Fz h η k (.int k' n) (.int k' n)
 | bool (b:Bool):Fz h η k (.bool b) (.bool b)
 | str (s:List UInt8):Fz h η k (.str s) (.str s)
 | ck:Fz h η k .ck .ck
 | jS:Fz h η k .jS .jS
 | ale (sz:Nat) (f:Nat->List PV):Fz h η k .ck (.iT sz 0 f)
 | aGc (id id' g' cW:Nat) (e':TypeId) (f':Nat->List PV) (hk:k[id']? =some id) (ho:h[id]? =none) (hη:η[id']? =some (aq.row g' cW 0 e' f')):Fz h η k .ck (.own id' g' 0 0)
 | fn (f:Nat):Fz h η k (.fn f) (.fn f)
 | iT (sz n:Nat) (f f':Nat->List PV) (hf:∀i,i<n->f' i=f i):Fz h η k (.iT sz n f) (.iT sz n f')
 | ia (cs:List PV):Fz h η k (.ia cs) (.ia cs)
 | j3 (pv:PV):Fz h η k pv .j3
 | eg (sz n:Nat) (e:TypeId) (f:Nat->List PV) (F:Nat->Prop):Fz h η k (.eg sz n e f F) (.eg sz n e f F)
 | Dw (sz:Nat) (e:TypeId) (f:Nat->List PV):Fz h η k .ck (.eg sz 0 e f (λ_=>False))
 | own (id id' g g' sz cW n n' off len:Nat) (e e':TypeId) (f f':Nat->List PV) (hk:k[id']? =some id) (ho:h[id]? =some (aq.row g sz n e f)) (hη:η[id']? =some (aq.row g' cW n' e' f')) (hn:off+len<=n'):Fz h η k (.own id g off len) (.own id' g' off len)
 | aA (id id' g g' sz cW n n' i off:Nat) (e e':TypeId) (f f':Nat->List PV) (hk:k[id']? =some id) (ho:h[id]? =some (aq.row g sz n e f)) (hη:η[id']? =some (aq.row g' cW n' e' f')) (hn:i<n'):Fz h η k (.aA id g i off) (.aA id' g' i off)
 | qc (id id' g g' sz cW n n':Nat) (e e':TypeId) (f f':Nat->List PV) (hk:k[id']? =some id) (ho:h[id]? =some (aq.row g sz n e f)) (hη:η[id']? =some (aq.row g' cW n' e' f')):Fz h η k (.qc id) (.qc id')
 | ud (f:Nat) (dG PE:List (Nat×Nat)) (hl:PE.length=dG.length) (hc:∀(j:Nat) (p p':Nat×Nat),dG[j]? =some p->PE[j]? =some p'->k[p'.1]? =some p.1/\(∃sz n e f,h[p.1]? =some (aq.row p.2 sz n e f))/\∃sz n e f,η[p'.1]? =some (aq.row p'.2 sz n e f)/\0<n):Fz h η k (.ud f dG) (.ud f PE)
 | frz (id g sz n off len:Nat) (e:TypeId) (f f':Nat->List PV) (hk:id∉k) (ho:h[id]? =some (aq.row g sz n e f)) (hl:∀i,i<len->(f' i).length=(f (off+i)).length)
   (hp:∀(i j:Nat) (hC:PV),i<len->(f' i)[j]? =some hC->cO hC=true)
   (hf:∀(i j:Nat) (pv hC:PV),i<len->(f (off+i))[j]? =some pv->(f' i)[j]? =some hC->¬Gv pv hC->Fz h η k pv hC):Fz h η k (.own id g off len) (.iT sz len f')
 | agg (cs Eg:List PV) (hl:Eg.length=cs.length) (hc:∀(j:Nat) (pv hC:PV),cs[j]? =some pv->Eg[j]? =some hC->Fz h η k pv hC):Fz h η k (.agg cs) (.agg Eg)
 | fV (cs Eg:List PV) (hl:Eg.length=cs.length) (hc:∀(j:Nat) (pv hC:PV),cs[j]? =some pv->Eg[j]? =some hC->Fz h η k pv hC):Fz h η k (.fV cs) (.fV Eg)
def z7 (h η:List aq) (k:List Nat):List PV->List PV->Prop
 | [],[]=>True
 | a::l,b::r=>Fz h η k a b/\z7 h η k l r
 | _,_=>False
def Xk:List Nat->Nat->Bool
 | [],_=>false
 | a::r,x=>match Nat.beq a x with
  | true=>true
  | false=>Xk r x
def qX:List Nat->Bool
 | []=>true
 | a::r=>match Xk r a with
  | true=>false
  | false=>qX r
def qI:List aq->List Nat->List Nat
 | .row _ _ _ _ _::r,i::is=>i::qI r is
 | .dead::r,_::is=>qI r is
 | _,_=>[]
def Aa (h η:List aq) (k:List Nat) (m:Nat) (o:aq) (a id:Nat):Prop:=
 match o,h[id]? with
 | .row c d b e' j,some (aq.row g sz n e f)=>(a<m->a=id/\c=g)/\d=sz/\(b=n\/m<=a/\sz≠2/\b<=n)/\e'=e/\
   ∀i,i<b->z7 h η k (f i) (j i)
 | .dead,_=>True
 | .row _ _ b _ _,none=>m<=a/\b=0
 | _,_=>False
def ie (l:List PV) (off:Nat):List PV->List PV
 | []=>l
 | c::r=>ie (l.set off c) (off+1) r
def cellsOf:PV->List PV
 | .agg cs=>cs
 | v=>[v]
def eJ (h:List aq) (id:Nat):aq:=h.getD id .dead
def force (v:PV) (K:PV->Prop):Prop:=
 match v with
 | .int k n=>K (.int k n)
 | .bool b=>K (.bool b)
 | .str s=>K (.str s)
 | .ck=>K .ck
 | .jS=>K .jS
 | .iT sz n f=>K (.iT sz n f)
 | .ia cs=>K (.ia cs)
 | .own id gen off len=>K (.own id gen off len)
 | .aA id gen i off=>K (.aA id gen i off)
 | .qc id=>K (.qc id)
 | .ud f dG=>K (.ud f dG)
 | .fn f=>K (.fn f)
 | .agg cs=>K (.agg cs)
 | .fV vs=>K (.fV vs)
 | .j3=>K .j3
 | .eg sz n e f F=>K (.eg sz n e f F)
theorem df {v:PV} {K:PV->Prop} (h:force v K):K v:=by cases v<;>exact h
def JZ (K:List PV->Prop):Nat->List PV->List PV->Prop
 | 0,_,acc=>K acc.reverse
 | _+1,[],_=>False
 | n+1,c::r,acc=>force c λv=>JZ K n r (v::acc)
theorem sh {K:List PV->Prop}:∀(n:Nat) (l acc:List PV),JZ K n l acc->n<=l.length/\K (acc.reverse++l.take n)
 | 0,l,acc,h=>⟨aPF _,by simp only[List.take_zero,aOW];exact h⟩
 | _+1,[],_,h=>h.elim
 | n+1,c::r,acc,h=>by
  obtain⟨h1,h2⟩:=sh n r (c::acc) (df h);exact⟨by simp;omega,by simpa using h2⟩
def Cv (T:sf) (t:Nat) (cells:List PV) (K:PV->Prop):Prop:=
 match T.get t with
 | .struct sz _ _=>JZ (λl=>K (.agg l)) sz cells []
 | .other=>False
 | _=>match cells with
  | c::_=>force c K
  | []=>False
def Bj (T:sf) (t:Nat) (a:PV) (h:List aq) (K:PV->Prop):Prop:=
 match a with
 | .ia cells=>Cv T t cells K
 | .aA id gen i off=>match eJ h id with
  | .row g _ _ _ f=>g=gen/\∃c,f i=c/\Cv T t (c.drop off) K
  | .dead=>False
 | _=>False
def cp (f:Nat->List PV) (i:Nat) (l:List PV):Nat->List PV:=λk=>bif Nat.beq k i then l else f k
def C4:List PV->Bool
 | []=>true
 | .int _ _::r=>C4 r
 | .bool _::r=>C4 r
 | .str _::r=>C4 r
 | _=>false
def Og (g:Bool) (q:Bool):Option Bool->Option Bool
 | some c=>match g with
  | true=>some (q&&c)
  | false=>none
 | none=>none
def Je:List PV->List PV->List PV->Option Bool
 | [],[],[]=>some true
 | .int k _::z,.int k1 a::r,.int d b::c=>Og (tR k k1&&tR k d) (a==b) (Je z r c)
 | .bool _::z,.bool a::r,.bool b::c=>Og true (a==b) (Je z r c)
 | .str _::z,.str a::r,.str b::c=>Og true (a==b) (Je z r c)
 | _,_,_=>none
def mj (ti:TI) (a b:PV):Option Bool:=
 match ti,a,b with
 | .int k,.int k1 x,.int c y=>Og (tR k k1&&tR k c) (x==y) (some true)
 | .str,.str x,.str y=>some (x==y)
 | .struct _ _ z,.agg xs,.agg d=>match C4 z with
  | true=>Je z xs d
  | false=>none
 | _,_,_=>none
def Ji (ti:TI) (f:Nat->List PV) (n:Nat) (b:PV):Prop:=∀j,j<n->∃a c,f j=[a,c]/\mj ti b a=some false
def MAt (ti:TI) (f:Nat->List PV) (n:Nat) (a:PV) (i:Nat) (r:PV):Prop:=i<n/\Ji ti f i a/\∃b,f i=[b,r]/\mj ti a b=some true
def ae9 (ti:TI) (f:Nat->List PV) (n:Nat) (a c r:PV) (b:Bool):Prop:=(b=true/\∃i,MAt ti f n a i r)\/(b=false/\r=c/\Ji ti f n a)
def aGb (ti:TI) (f:Nat->List PV) (n:Nat) (a c:PV) (d:Nat) (b:Nat->List PV):Prop:=
 (∃i r,MAt ti f n a i r/\d=n/\b i=[a,c]/\∀j,j<n->j≠i->b j=f j)\/(Ji ti f n a/\d=n+1/\b n=[a,c]/\∀j,j<n->b j=f j)
def Wx (ti:TI) (d:BinOp) (x y:PV) (K:PV->Prop):Prop:=
 match x,y with
 | .int k a,.int e b=>
  match d with
  | .shl=>0<=b/\K (.int k (k.wrap (a*2 ^ min b.toNat k.bits)))
  | .shr=>0<=b/\K (.int k (a.fdiv (2 ^ min b.toNat k.bits)))
  | _=>fy (tR k e)<|match d with
  | .and=>K (.int k (bits .and k a b))
  | .or=>K (.int k (bits .or k a b))
  | .xor=>K (.int k (bits .xor k a b))
  | .andNot=>K (.int k (bits .andNot k a b))
  | .add=>K (.int k (k.wrap (a+b)))
  | .sub=>K (.int k (k.wrap (a - b)))
  | .mul=>K (.int k (k.wrap (a*b)))
  | .quo=>b≠0/\K (.int k (k.wrap (a.tdiv b)))
  | .rem=>b≠0/\K (.int k (a.tmod b))
  | .eql=>K (.bool (a==b))
  | .neq=>K (.bool (a != b))
  | .lss=>K (.bool (decide (a<b)))
  | .leq=>K (.bool (decide (a<=b)))
  | .gtr=>K (.bool (decide (a>b)))
  | .geq=>K (.bool (decide (a>=b)))
  | _=>False
 | .bool a,.bool b=>match ti,d with
  | .bool,.eql=>K (.bool (a==b))
  | .bool,.neq=>K (.bool (!(a==b)))
  | _,_=>False
 | .str a,.str b=>match d with
  | .add=>a.length+b.length<=4611686018427387904/\∃s,a++b=s/\K (.str s)
  | .eql=>K (.bool (a==b))
  | .neq=>K (.bool (!(a==b)))
  | .lss=>K (.bool (Op.bytesLess a b))
  | .leq=>K (.bool (Op.bytesLess a b||a==b))
  | .gtr=>K (.bool !(Op.bytesLess a b||a==b))
  | .geq=>K (.bool !(Op.bytesLess a b))
  | _=>False
 | .agg xs,.agg f=>match ti with
  | .struct _ _ z=>fy (C4 z) (match Je z xs f with
   | some b=>match d with
    | .eql=>∃c,b=c/\K (.bool c)
    | .neq=>∃c,b=c/\K (.bool !c)
    | _=>False
   | none=>False)
  | _=>False
 | _,_=>False
def FP (x:PV) (lo hi:Option PV) (K:PV->Prop):Prop:=
 match x with
 | .iT sz n f=>match lo,hi with
  | none,none=>K (.iT sz n f)
  | some (.int _ l),none=>(0<=l/\l<=n)/\K (.iT sz (n - l.toNat) (λi=>f (l.toNat+i)))
  | none,some (.int _ m)=>(0<=m/\m<=n)/\K (.iT sz m.toNat f)
  | some (.int _ l),some (.int _ m)=>(0<=l/\l<=m/\m<=n)/\K (.iT sz (m.toNat - l.toNat) (λi=>f (l.toNat+i)))
  | _,_=>False
 | .own id gen off len=>match lo,hi with
  | none,none=>K (.own id gen off len)
  | some (.int _ l),none=>(0<=l/\l<=len)/\K (.own id gen (off+l.toNat) (len - l.toNat))
  | none,some (.int _ m)=>(0<=m/\m<=len)/\K (.own id gen off m.toNat)
  | some (.int _ l),some (.int _ m)=>(0<=l/\l<=m/\m<=len)/\K (.own id gen (off+l.toNat) (m.toNat - l.toNat))
  | _,_=>False
 | .str s=>match lo,hi with
  | none,none=>K (.str s)
  | some (.int _ l),none=>(0<=l/\l<=s.length)/\K (.str (s.drop l.toNat))
  | none,some (.int _ m)=>(0<=m/\m<=s.length)/\K (.str (s.take m.toNat))
  | some (.int _ l),some (.int _ m)=>(0<=l/\l<=m/\m<=s.length)/\K (.str ((s.take m.toNat).drop l.toNat))
  | _,_=>False
 | _=>False
def Oi (K:PV->Prop) (v:PV):Prop:=
 match v with
 | .iT sz n f=>∃a c,a=n/\(∀i,i<a->c i=f i)/\K (.iT sz a c)
 | .str s=>∃s',s=s'/\K (.str s')
 | .own id g off n=>∃b a,b=off/\a=n/\K (.own id g b a)
 | v=>K v
def ahU (n:Nat) (hi a:Option PV):Prop:=
 match a with
 | none=>True
 | some (.int _ q)=>match hi with
  | some (.int _ m)=>m<=q/\q<=n
  | _=>False
 | _=>False
def isByte:List PV->Bool
 | [.int .u8 _]=>true
 | _=>false
def byteOf:List PV->UInt8
 | [.int _ v]=>UInt8.ofNat v.toNat
 | _=>0
def zN (v:PV) (h:List aq) (K:List UInt8->Prop):Prop:=
 match v with
 | .ck=>K []
 | .iT sz n f=>fy (Nat.beq sz 1) (∃s:List UInt8,s.length=n/\(∀i,i<n->f i=[.int .u8 (s.getD i 0).toNat])/\K s)
 | .own id gen off n=>match eJ h id with
  | .row g sz _ _ f=>g=gen/\fy (Nat.beq sz 1) (∃s:List UInt8,s.length=n/\(∀i,i<n->f (off+i)=[.int .u8 (s.getD i 0).toNat])/\K s)
  | .dead=>False
 | _=>False
def oh:PV->Bool
 | .agg _=>false
 | .fV _=>false
 | .j3=>false
 | .eg _ _ _ _ _=>false
 | _=>true
def storable:PV->Bool
 | .agg cs=>cs.all oh
 | v=>oh v
def sj (env:Env) (sz:Nat) (fl:List (Nat×Nat×Bool)) (K:List PV->Prop):List (Nat×Operand)->List PV->Prop
 | [],acc=>K acc
 | (k,x)::r,acc=>match fl[k]? with
  | some (o,size,_)=>force (ev env x) λv=>fy (storable v&&Nat.beq (cellsOf v).length size&&Nat.ble (o+size) sz) (sj env sz fl K r (ie acc o (cellsOf v)))
  | none=>False
def dF (T:sf) (op:Op) (env:Env) (h:List aq) (K:PV->Prop):Prop:=
 match op with
 | .move x=>force (ev env x) K
 | .assign x=>force (ev env x) K
 | .pick c a b=>match ev env c with
  | .bool t=>iq t (force (ev env a) K) (force (ev env b) K)
  | _=>False
 | .binOp w t x y _=>Wx (T.get t) w (ev env x) (ev env y) K
 | .unOp u _ x=>match u,ev env x with
  | .not,.bool b=>K (.bool !b)
  | .neg,.int k n=>K (.int k (k.wrap (0 - n)))
  | _,_=>False
 | .load t a=>Bj T t (ev env a) h K
 | .convert s d x=>match T.get s,T.get d,ev env x with
  | .int _,.int k,.int _ n=>K (.int k (k.wrap n))
  | .slice e _ _ _,.str,v=>match T.get e with
   | .int .u8=>zN v h (λs=>K (.str s))
   | _=>False
  | _,_,_=>False
 | .nilCheck x=>match ev env x with
  | .ia cs=>K (.ia cs)
  | .aA id gen i off=>match eJ h id with
   | .row g _ _ _ _=>g=gen/\K (.aA id gen i off)
   | .dead=>False
  | _=>False
 | .fieldAddr s x k=>match T.get s with
  | .struct _ fl _=>match fl[k]? with
   | some (o,_,_)=>match ev env x with
    | .ia cs=>K (.ia (cs.drop o))
    | .aA id gen i off=>match eJ h id with
     | .row g _ _ _ _=>g=gen/\K (.aA id gen i (off+o))
     | .dead=>False
    | _=>False
   | none=>False
  | _=>False
 | .field s x k=>match T.get s with
  | .struct _ fl _=>match fl[k]? with
   | some (o,size,A)=>match ev env x with
    | .agg cs=>match A with
     | true=>JZ (λl=>K (.agg l)) size (cs.drop o) []
     | false=>match cs.drop o with
      | c::_=>force c K
      | []=>False
    | _=>False
   | none=>False
  | _=>False
 | .build t parts=>match T.get t with
  | .struct sz fl z=>sj env sz fl (λcs=>K (.agg cs)) parts.toList z
  | _=>False
 | .indexAddr t x i=>match T.get t,ev env x,ev env i with
  | .slice _ sz _ _,.iT m n f,.int _ i=>fy (Nat.beq sz m) ((0<=i/\i<n)/\∃c,f i.toNat=c/\K (.ia c))
  | .slice _ sz _ _,.own id gen off len,.int _ i=>match eJ h id with
   | .row g m _ e' _=>g=gen/\fy (Nat.beq sz m&&!Nat.beq e' af1) ((0<=i/\i<len)/\∃j,off+i.toNat=j/\K (.aA id gen j 0))
   | .dead=>False
  | _,_,_=>False
 | .index t x i=>match T.get t,ev env x,ev env i with
  | .str,.str s,.int _ i=>(0<=i/\i<s.length)/\∃c,s.getD i.toNat 0=c/\K (.int .u8 (c:UInt8).toNat)
  | _,_,_=>False
 | .lookup t x i ok=>match T.get t,ev env x with
  | .map kt _ B,.qc id=>match eJ h id with
   | .row _ _ n _ f=>force (ev env i) λp=>fy (mj (T.get kt) p p).isSome (∃r b,ae9 (T.get kt) f n p B r b/\match ok with
    | true=>K (.fV [r,.bool b])
    | false=>force r K)
   | .dead=>False
  | _,_=>False
 | .extract x i=>match ev env x with
  | .fV vs=>match vs[i]? with
   | some v=>force v K
   | none=>False
  | _=>False
 | .slice t x lo hi q=>match T.get t,ev env x with
  | .slice _ sz _ _,.iT m n f=>fy (Nat.beq sz m) (ahU n (hi.map (ev env)) (q.map (ev env))/\FP (.iT m n f) (lo.map (ev env)) (hi.map (ev env)) (Oi K))
  | .slice _ sz _ _,.own id gen off len=>match eJ h id with
   | .row g m _ _ _=>g=gen/\fy (Nat.beq sz m) (ahU len (hi.map (ev env)) (q.map (ev env))/\FP (.own id gen off len) (lo.map (ev env)) (hi.map (ev env)) (Oi K))
   | .dead=>False
  | .str,.str s=>fy q.isNone (FP (.str s) (lo.map (ev env)) (hi.map (ev env)) (Oi K))
  | _,_=>False
 | .call ⟨.builtin .len,args,ts⟩=>match args.toList,ts.toList with
  | [x],[t]=>match T.get t,ev env x with
   | .slice _ _ _ _,.iT _ n _=>K (.int .i64 n)
   | .slice _ _ _ _,.ck=>K (.int .i64 0)
   | .slice _ _ _ _,.own id gen _ n=>match eJ h id with
    | .row g _ _ _ _=>g=gen/\K (.int .i64 n)
    | .dead=>False
   | .str,.str s=>K (.int .i64 s.length)
   | .map _ _ _,.qc id=>match eJ h id with
    | .row _ _ n _ _=>K (.int .i64 n)
    | .dead=>False
   | _,_=>False
  | _,_=>False
 | _=>False
def mR:TI->Nat
 | .struct sz _ _=>sz
 | .other=>0
 | _=>1
def FH:TI->Option (List PV)
 | .int k=>some [.int k 0]
 | .bool=>some [.bool false]
 | .str=>some [.str []]
 | .slice _ _ _ _=>some [.ck]
 | .struct _ _ z=>some z
 | _=>none
def C9 (len:Nat):Nat->List (Nat×Operand)->Bool
 | k,[]=>Nat.beq k len
 | k,(i,_)::r=>Nat.beq i k&&C9 len (k+1) r
def ub (env:Env) (sz:Nat) (K:List (List PV)->Prop):List (Nat×Operand)->List (List PV)->Prop
 | [],acc=>K acc.reverse
 | (_,x)::r,acc=>force (ev env x) λv=>fy (storable v&&Nat.beq (cellsOf v).length sz) (ub env sz K r (cellsOf v::acc))
theorem Da {env:Env} {sz:Nat} {K:List (List PV)->Prop}:∀(l:List (Nat×Operand)) (acc:List (List PV)),ub env sz K l acc->
  (∀p∈l,storable (ev env p.2)=true/\Nat.beq (cellsOf (ev env p.2)).length sz=true)/\K (acc.reverse++l.map λp=>cellsOf (ev env p.2))
 | [],acc,h=>⟨λp hp=>by simp at hp,by simp only[aPb,aOW];exact h⟩
 | (i,x)::r,acc,h=>by
  obtain⟨h1,h2⟩:=bW (df h);simp only[As]at h1;obtain⟨a,h4⟩:=Da r _ h2;refine⟨λp hp=>?_,by simpa using h4⟩;simp only[aOz]at hp;rcases hp with rfl | hp
  ·exact h1
  ·exact a p hp
def noO:List PV->Bool
 | []=>true
 | .eg _ _ _ _ _::_=>false
 | _::r=>noO r
def Td (x:PV) (h:List aq) (sz:Nat) (K:Nat->(Nat->List PV)->Prop):Prop:=
 match x with
 | .ck=>K 0 (λ_=>[])
 | .iT a m g=>fy (Nat.beq sz a) (K m g)
 | .own id gen off m=>match eJ h id with
  | .row g a _ _ f=>g=gen/\(∀i,i<m->noO (f (off+i))=true)/\fy (Nat.beq sz a) (K m (λi=>f (off+i)))
  | .dead=>False
 | .str s=>fy (Nat.beq sz 1)<|K s.length (λi=>[.int .u8 (s.getD i 0).toNat])
 | _=>False
def ym (e sz bytes:Nat) (s x:PV) (h:List aq) (K:PV->List aq->Prop):Prop:=
 match s with
 | .ck=>Td x h sz λm g=>m*bytes<=140737488355328/\∃a b,a=m/\(∀i,i<a->pB (g i) (b i))/\K (.own h.length 0 0 a) (h++[.row 0 sz a e b])
 | .own id gen off len=>match eJ h id with
  | .row g c _ e' f=>g=gen/\fy (Nat.beq sz c&&Nat.beq e e') (Td x h sz λm q=>(len+m)*bytes<=140737488355328/\∃a b,a=len+m/\
    (∀i,i<a->pB (bif Nat.blt i len then f (off+i)else q (i - len)) (b i))/\
    K (.own id (gen+1) 0 a) (h.set id (.row (gen+1) sz a e b)))
  | .dead=>False
 | _=>False
def SP (f:Nat->List PV) (n:Nat) (q:Nat->List PV):Nat->List PV:=λi=>bif Nat.blt i n then f i else q (i - n)
def Py (e sz bytes:Nat) (s x:PV) (h:List aq) (K:PV->List aq->Prop):Prop:=
 match s,x with
 | .ck,.own b a 0 m=>match eJ h b with
  | .row c mY _ _ q=>c=a/\fy (Nat.beq sz mY) (m*bytes<=140737488355328/\K (.own h.length 1 0 m) (((h++[aq.row 0 sz 0 e (λ_=>[])]).set h.length (aq.row 1 sz m e q)).set b aq.dead))
  | .dead=>False
 | .own id gen 0 len,.own b a 0 m=>match eJ h id with
  | .row g d _ e' f=>match eJ h b with
   | .row c mY _ _ q=>g=gen/\c=a/\fy (Nat.beq sz d&&(Nat.beq e e'&&(Nat.beq sz mY&&!Nat.beq b id))) ((len+m)*bytes<=140737488355328/\K (.own id (gen+1) 0 (len+m)) ((h.set id (aq.row (gen+1) sz (len+m) e (SP f len q))).set b aq.dead))
   | .dead=>False
  | .dead=>False
 | _,_=>False
inductive Tf (e sz bytes:Nat) (s x:PV) (h:List aq) (K:PV->List aq->Prop):Prop
 | ez (hp:ym e sz bytes s x h K)
 | move (hp:Py e sz bytes s x h K)
def pf:PV->Bool
 | .fV _=>false
 | _=>true
inductive rb (P:Program) (f:FuncId) (args:List PV) (h:List aq) (K:PV->List aq->Prop):Prop
 | mk (R:PV->List aq->Prop) (hA:ACall P f args h R) (hk:∀res h',R res h'->K res h')
def pop (P:Program) (T:sf) (op:Op) (env:Env) (h:List aq) (K:PV->List aq->Prop):Prop:=
 match op with
 | .store t a x=>match ev env a with
  | .aA id gen i off=>match eJ h id with
   | .row g sz n e f=>g=gen/\force (ev env x) λv=>fy (storable v&&Nat.ble 1 (mR (T.get t))&&Nat.beq (mR (T.get t)) (cellsOf v).length&&Nat.ble (off+(cellsOf v).length) sz)
     (∃c o,f i=c/\(∀j,j<n->pB (cp f i (ie c off (cellsOf v)) j) (o j))/\K .j3 (h.set id (.row g sz n e o)))
   | .dead=>False
  | _=>False
 | .box t x=>force (ev env x) λv=>fy (storable v&&Nat.beq (cellsOf v).length (mR (T.get t))) (K (.aA h.length 0 0 0) (h++[.row 0 (mR (T.get t)) 1 t (λ_=>cellsOf v)]))
 | .alloc t=>match FH (T.get t)with
  | some z=>K (.aA h.length 0 0 0) (h++[.row 0 (mR (T.get t)) 1 t (λ_=>z)])
  | none=>False
 | .makeSlice t l c=>match T.get t,ev env l,ev env c with
  | .slice e sz bytes zero,.int _ n,.int _ m=>(0<=n/\n<=m/\m<=4611686018427387904/\m.toNat*bytes<=140737488355328)/\∃q o,q=n.toNat/\(∀i,i<q->pB zero (o i))/\K (.own h.length 0 0 q) (h++[.row 0 sz q e o])
  | _,_,_=>False
 | .buildSlice t len parts=>match T.get t with
  | .slice e sz _ _=>fy (C9 len 0 parts.toList&&Nat.ble (len*sz) 65536) (ub env sz (λcs=>∃o,(∀i,i<len->pB (cs.getD i []) (o i))/\K (.own h.length 0 0 len) (h++[.row 0 sz len e o])) parts.toList [])
  | _=>False
 | .convert s d x=>match T.get s,T.get d,ev env x with
  | .str,.slice e _ _ _,.str b=>match T.get e with
   | .int .u8=>∃o,(∀i,i<b.length->o i=[.int .u8 (b.getD i 0).toNat])/\K (.iT 1 b.length o) h
   | _=>False
  | _,_,_=>dF T (.convert s d x) env h (λv=>K v h)
 | .binOp w t x y ty=>match w,T.get t,ev env x,ev env y with
  | .eql,.slice _ _ _ _,.iT _ n _,.ck=>(n=0->K (.bool true) h)/\K (.bool false) h
  | _,_,_,_=>dF T (.binOp w t x y ty) env h (λv=>K v h)
 | .makeMap t none=>match T.get t with
  | .map _ _ _=>∃o,K (.qc h.length) (h++[.row 0 2 0 t o])
  | _=>False
 | .mapUpdate t m k x=>match T.get t,ev env m with
  | .map kt _ _,.qc id=>match eJ h id with
   | .row g sz n e f=>force (ev env k) λr=>force (ev env x) λu=>fy ((mj (T.get kt) r r).isSome&&lG u&&storable u&&Nat.beq sz 2)
     (∃q o,aGb (T.get kt) f n r u q o/\K .j3 (h.set id (.row (g+1) 2 q e o)))
   | .dead=>False
  | _,_=>False
 | .call ⟨.builtin .append,args,ts⟩=>match args.toList,ts.toList with
  | [s,x],[t,tx]=>match T.get t,T.get tx with
   | .slice e sz bytes _,.slice _ _ _ _=>Tf e sz bytes (ev env s) (ev env x) h K
   | .slice e sz bytes _,.str=>Tf e sz bytes (ev env s) (ev env x) h K
   | _,_=>False
  | _,_=>False
 | .call ⟨.value A,args,_⟩=>match ev env A with
  | .fn f=>fy (args.toList.all (λx=>pf (ev env x))) (rb P f (args.toList.map (ev env)) h K)
  | .ud f dG=>fy (args.toList.all (λx=>pf (ev env x))) (rb P f (args.toList.map (ev env)++dG.map λp=>.aA p.1 p.2 0 0) h K)
  | _=>False
 | op=>dF T op env h (λv=>K v h)
def xX (P:Program) (T:sf) (all:List Oper) (K:Env->List aq->Prop) (l:List Oper):Env->List aq->Prop:=
 List.rec (motive:=λ_=>Env->List aq->Prop) K (λo _ a env h=>match o.guard with
  | none=>pop P T o.op env h (λv h'=>a (gn env o.dst v) h')
  | some (j,want)=>match(all[j]?).bind (·.dst)with
   | some t=>match env t with
    | .bool b=>iq b
      (match want with
       | true=>pop P T o.op (sT env t (.bool true)) h (λv h'=>a (gn (sT env t (.bool true)) o.dst v) h')
       | false=>a (gn (sT env t (.bool true)) o.dst (.fV [])) h)
      (match want with
       | true=>a (gn (sT env t (.bool false)) o.dst (.fV [])) h
       | false=>pop P T o.op (sT env t (.bool false)) h (λv h'=>a (gn (sT env t (.bool false)) o.dst v) h'))
    | .fV []=>a (gn env o.dst (.fV [])) h
    | _=>False
   | none=>False) l
abbrev XQ:=Exit->Env->List aq->Prop
def XQ.then (next:Env->List aq->Prop) (Q:XQ):XQ
 | .normal,env,h=>next env h
 | e,env,h=>Q e env h
def XQ.inBlock (id:Nat) (Q:XQ):XQ
 | .exit a,env,h=>match Nat.beq a id with
  | true=>Q .normal env h
  | false=>Q (.exit a) env h
 | e,env,h=>Q e env h
def Bs (h η:List aq) (k:List Nat) (env:Env):List (Nat×PV)->Prop
 | []=>True
 | (t,v)::r=>Fz h η k (env t) v/\Bs h η k env r
def mW (h η:List aq) (k:List Nat) (m:Nat):Nat->List aq->List Nat->Prop
 | _,[],[]=>True
 | i,o::r,id::a=>Aa h η k m o i id/\mW h η k m (i+1) r a
 | _,_,_=>False
def Bt (m:Nat) (env:Env) (h:List aq) (σ:List (Nat×PV)) (η:List aq):Prop:=
 ∃k:List Nat,qX (qI η k)=true/\m<=k.length/\Bs h η k env σ/\mW h η k m 0 η k
def rC:Env:=λ_=>.j3
def Pa (h h1:List aq):Prop:=∃(id g sz n:Nat) (e:TypeId) (f:Nat->List PV) (i j c a:Nat) (e':TypeId) (d:Nat->List PV) (F:Nat->Prop) (b:Nat->List PV),h[id]? =some (aq.row g sz n e f)/\i<n/\
 (f i)[j]? =some (.eg c a e' d F)/\b i=(f i).set j (.own h.length 0 0 a)/\(∀k,k<n->k≠i->b k=f k)/\h1=h.set id (.row g sz n e b)++[.row 0 c a e' d]
def DC (h:List aq) (id i j sub:Nat) (F:Nat->Prop) (h1:List aq):Prop:=∃(g sz n:Nat) (e:TypeId) (f:Nat->List PV) (g2 mY n2:Nat) (e2:TypeId) (f2 a:Nat->List PV),h[id]? =some (aq.row g sz n e f)/\h[sub]? =some (aq.row g2 mY n2 e2 f2)/\
 id≠sub/\i<n/\(f i)[j]? =some (.own sub g2 0 n2)/\(∀k,k<n2->∀c,c∈f2 k->cO c=true\/eV c=true)/\a i=(f i).set j (.eg mY n2 e2 f2 F)/\(∀k,k<n->k≠i->a k=f k)/\
 h1=(h.set id (.row g sz n e a)).set sub .dead
inductive tA (m:Nat) (body:(Env->List aq->Prop)->Env->List aq->Prop):Env->List aq->Prop
 | take {env:Env} {h:List aq} (σ:List (Nat×PV)) (η:List aq) (ht:Bt m env h σ η) (hk:tA m body (DY rC σ) η):tA m body env h
 | step {env:Env} {h:List aq} (N:Env->List aq->Prop) (hN:∀e h',N e h'->tA m body e h') (hb:body N env h):tA m body env h
 | ex {env:Env} {h:List aq} (h1:List aq) (hx:Pa h h1) (hk:tA m body env h1):tA m body env h
 | ab {env:Env} {h:List aq} (id i j sub:Nat) (h1:(Nat->Prop)->List aq) (ha:∀F,DC h id i j sub F (h1 F)) (hk:∀F,tA m body env (h1 F)):tA m body env h
def aG (m:Nat) (body:(Env->List aq->Prop)->Env->List aq->Prop) (σ:List (Nat×PV)) (η:List aq):Prop:=tA m body (DY rC σ) η
inductive loopGo (m:Nat) (body:(Env->List aq->Prop)->Env->List aq->Prop) (env:Env):List aq->Prop
 | mk {h:List aq} (σ:List (Nat×PV)) (η:List aq) (ht:Bt m env h σ η) (hk:aG m body σ η):loopGo m body env h
 | ex {h:List aq} (h1:List aq) (hx:Pa h h1) (hk:loopGo m body env h1):loopGo m body env h
 | ab {h:List aq} (id i j sub:Nat) (h1:(Nat->Prop)->List aq) (ha:∀F,DC h id i j sub F (h1 F)) (hk:∀F,loopGo m body env (h1 F)):loopGo m body env h
theorem loopGo.to {m:Nat} {body:(Env->List aq->Prop)->Env->List aq->Prop} {env:Env} {h:List aq} (hg:loopGo m body env h):tA m body env h:=by
 induction hg with
 | mk σ η b hk=>exact .take σ η b hk
 | ex h1 hx hk a=>exact .ex h1 hx a
 | ab id i j sub h1 c hk a=>exact .ab id i j sub h1 c a
theorem aG.enter {m:Nat} {body:(Env->List aq->Prop)->Env->List aq->Prop} {env:Env} {h:List aq} (σ:List (Nat×PV)) (η:List aq) (a:Bt m env h σ η) (hk:aG m body σ η):tA m body env h:=.take σ η a hk
theorem aG.round {m:Nat} {body:(Env->List aq->Prop)->Env->List aq->Prop} {σ:List (Nat×PV)} {η:List aq} (a:body (loopGo m body) (DY rC σ) η):aG m body σ η:=
 .step (loopGo m body) (λ_ _ hg=>hg.to) a
inductive Bu (m:Nat) (J:List (Nat×PV)->List aq->Prop) (env:Env):List aq->Prop
 | mk {h:List aq} (σ:List (Nat×PV)) (η:List aq) (ht:Bt m env h σ η) (hj:J σ η):Bu m J env h
 | ex {h:List aq} (h1:List aq) (hx:Pa h h1) (hk:Bu m J env h1):Bu m J env h
 | ab {h:List aq} (id i j sub:Nat) (h1:(Nat->Prop)->List aq) (ha:∀F,DC h id i j sub F (h1 F)) (hk:∀F,Bu m J env (h1 F)):Bu m J env h
inductive xO (m:Nat) (A B:XQ->Env->List aq->Prop) (Q:XQ) (env:Env):List aq->Prop
 | direct {h:List aq} (hd:A (XQ.then (B Q) Q) env h):xO m A B Q env h
 | cut {h:List aq} (J:List (Nat×PV)->List aq->Prop) (ha:A (XQ.then (Bu m J) Q) env h) (hb:∀σ η,J σ η->B Q (DY rC σ) η):xO m A B Q env h
 | ex {h:List aq} (h1:List aq) (hx:Pa h h1) (hk:xO m A B Q env h1):xO m A B Q env h
 | ab {h:List aq} (id i j sub:Nat) (h1:(Nat->Prop)->List aq) (ha:∀F,DC h id i j sub F (h1 F)) (hk:∀F,xO m A B Q env (h1 F)):xO m A B Q env h
def JX:Op->Bool
 | .call ⟨.value _,_,_⟩=>false
 | .call ⟨.builtin .append,_,_⟩=>false
 | .call ⟨.builtin .copy,_,_⟩=>false
 | .store _ _ _=>false
 | .box _ _=>false
 | .alloc _=>false
 | .makeSlice _ _ _=>false
 | .buildSlice _ _ _=>false
 | .makeMap _ _=>false
 | .mapUpdate _ _ _ _=>false
 | _=>true
def AJ:PV->Bool
 | .int _ _=>true
 | .bool _=>true
 | .str _=>true
 | .ck=>true
 | _=>false
def afS (P:Program) (b:PV) (args:List PV) (h:List aq) (K:PV->Prop):Prop:=
 match b with
 | .fn f=>fy (args.all pf) (∃(a:List PV) (v:PV),z7 h [] [] args a/\a.all pf=true/\ACall P f a [] (λres _=>res=v)/\fy (AJ v) (K v))
 | _=>False
def qop (P:Program) (T:sf) (op:Op) (env:Env) (h:List aq) (K:PV->Prop):Prop:=
 match op with
 | .call ⟨.value a,args,_⟩=>afS P (ev env a) (args.toList.map (ev env)) h K
 | op=>dF T op env h K
def Ao (P:Program) (T:sf) (all:List Oper) (h:List aq) (K:Env->Prop) (l:List Oper):Env->Prop:=
 List.rec (motive:=λ_=>Env->Prop) K (λo _ a env=>match o.guard with
  | none=>qop P T o.op env h (λv=>a (gn env o.dst v))
  | some (j,want)=>match(all[j]?).bind (·.dst)with
   | some t=>match env t with
    | .bool b=>iq b
      (match want with
       | true=>qop P T o.op (sT env t (.bool true)) h (λv=>a (gn (sT env t (.bool true)) o.dst v))
       | false=>a (gn (sT env t (.bool true)) o.dst (.fV [])))
      (match want with
       | true=>a (gn (sT env t (.bool false)) o.dst (.fV []))
       | false=>qop P T o.op (sT env t (.bool false)) h (λv=>a (gn (sT env t (.bool false)) o.dst v)))
    | .fV []=>a (gn env o.dst (.fV []))
    | _=>False
   | none=>False) l
def rl:List Nat->Nat->Bool
 | [],_=>false
 | a::r,x=>match Nat.beq a x with
  | true=>true
  | false=>rl r x
def wC:PV->List Nat
 | .own id _ _ _=>[id]
 | .aA id _ _ _=>[id]
 | .qc id=>[id]
 | .ud _ dG=>dG.map (·.1)
 | _=>[]
def pJ (env:Env) (op:Op):List Nat:=match op with | .move _=>[] | _=>op.operands.toList.flatMap λx=>wC (ev env x)
def afU (o:Oper):List Nat:=o.after.toList.filterMap λe=>match Region.binds .any e with | true=>some e.on | false=>none
def eM (all:List Oper) (i:Nat):List Nat:=match all[i]? with | some o=>afU o | none=>[]
def gZ:List (Nat×List Nat)->Nat->List Nat
 | [],_=>[]
 | (j,A)::r,i=>match Nat.beq j i with | true=>A | false=>gZ r i
def ddL:List Nat->List Nat->List Nat
 | [],acc=>acc
 | a::r,acc=>match rl acc a with | true=>ddL r acc | false=>ddL r (a::acc)
def LP (all:List Oper):List (Nat×Bool)->List (Nat×List Nat)->List (Nat×List Nat)
 | [],t=>t
 | (i,_)::r,t=>LP all r ((i,ddL (eM all i++(eM all i).flatMap (gZ t)) [])::t)
def yq (ops:Array Oper) (i j:Nat):Bool:=match ops[i]?,ops[j]? with | some x,some y=>Oper.apart ops x y | _,_=>false
def j4 (ops:Array Oper) (t:List (Nat×List Nat)) (p i:Nat×Bool):Bool:=
 !(Nat.beq p.1 i.1)&&!(rl (eM ops.toList p.1) i.1)&&(rl (eM ops.toList i.1) p.1||(yq ops p.1 i.1&&(p.2||rl (gZ t i.1) p.1)))
def dC (ops:Array Oper) (t:List (Nat×List Nat)):List (Nat×Bool)->Bool
 | []=>true
 | p::r=>r.all (j4 ops t p)&&dC ops t r
def Vb (ops:Array Oper) (ord:List (Nat×Bool)):Bool:=
 Nat.beq ord.length ops.size&&(List.range ops.size).all (λj=>rl (ord.map (·.1)) j)&&ord.all (λp=>Nat.blt p.1 ops.size&&(eM ops.toList p.1).all (λd=>Nat.blt d ops.size&&!(Nat.beq d p.1)))&&dC ops (LP ops.toList ord []) ord
def LW (h h':List aq) (K:Prop):List Nat->Prop
 | []=>K
 | id::r=>eJ h id=eJ h' id/\LW h h' K r
def tF (a:List Nat) (h h':List aq) (K:Prop):List (Nat×List Nat)->Prop
 | []=>K
 | (j,ids)::r=>match rl a j with
  | true=>tF a h h' K r
  | false=>LW h h' (tF a h h' K r) ids
def IB (P:Program) (T:sf) (st:Bool) (op:Op) (env:Env) (h:List aq) (G:PV->List aq->Prop):Prop:=
 match st with
 | true=>dF T op env h (λv=>G v h)
 | false=>pop P T op env h G
def zn (P:Program) (T:sf) (all:List Oper) (st:Bool) (o:Oper) (F:Env->PV->List aq->Prop) (env:Env) (h:List aq):Prop:=
 match o.guard with
 | none=>IB P T st o.op env h (F env)
 | some (j,want)=>match(all[j]?).bind (·.dst)with
  | some t=>match env t with
   | .bool b=>iq b
     (match want with
      | true=>IB P T st o.op (sT env t (.bool true)) h (F (sT env t (.bool true)))
      | false=>F (sT env t (.bool true)) (.fV []) h)
     (match want with
      | true=>F (sT env t (.bool false)) (.fV []) h
      | false=>IB P T st o.op (sT env t (.bool false)) h (F (sT env t (.bool false))))
   | .fV []=>F env (.fV []) h
   | _=>False
  | none=>False
def fw (P:Program) (T:sf) (all:List Oper) (t:List (Nat×List Nat)) (K:Env->List aq->Prop) (l:List (Nat×Bool)):List (Nat×List Nat)->Env->List aq->Prop:=
 List.rec (motive:=λ_=>List (Nat×List Nat)->Env->List aq->Prop) (λ_ env h=>K env h) (λp _ b a env h=>match all[p.1]? with
  | some o=>match p.2 with
   | true=>zn P T all true o (λenv' v h'=>b ((p.1,pJ env' o.op)::a) (gn env' o.dst v) h') env h
   | false=>zn P T all false o (λenv' v h'=>tF (gZ t p.1) h h' (b a (gn env' o.dst v) h') a) env h
  | none=>False) l
def fwE (P:Program) (T:sf) (all:List Oper) (t:List (Nat×List Nat)) (E:List (Nat×List Nat)->Env->List aq->Prop) (l:List (Nat×Bool)):List (Nat×List Nat)->Env->List aq->Prop:=
 List.rec (motive:=λ_=>List (Nat×List Nat)->Env->List aq->Prop) (λa env h=>E a env h) (λp _ b a env h=>match all[p.1]? with
  | some o=>match p.2 with
   | true=>zn P T all true o (λenv' v h'=>b ((p.1,pJ env' o.op)::a) (gn env' o.dst v) h') env h
   | false=>zn P T all false o (λenv' v h'=>tF (gZ t p.1) h h' (b a (gn env' o.dst v) h') a) env h
  | none=>False) l
def afW (ops:Array Oper) (t:List (Nat×List Nat)) (ord:List (Nat×Bool)) (x y:Nat) (a b:List Nat):Bool:=
 Nat.beq a.length b.length&&ord.all (λp=>j4 ops t p (x,false)&&j4 ops t p (y,false)&&(eM ops.toList p.1).all (λd=>!(rl (x::a) d))&&!(rl (x::a) p.1))&&
  (x::a).all (λj=>rl (y::b) j)&&(y::b).all (λj=>rl (x::a) j)&&(eM ops.toList x).all (λd=>!(rl (x::a) d))&&!(rl a x)&&!(rl b y)&&
  a.all (λj=>Nat.beq j y||rl (gZ t j) x||rl (gZ t j) y)
abbrev tD:=List (List (Nat×Bool)×Nat×Nat×List (Nat×Bool))
def IC:tD->List (Nat×Bool)->List (Nat×Bool)
 | [],fin=>fin
 | c::r,fin=>c.1++(c.2.1,false)::IC r fin
def fwC (P:Program) (T:sf) (all:List Oper) (t:List (Nat×List Nat)) (K:Env->List aq->Prop) (fin:List (Nat×Bool)) (cs:tD):List (Nat×List Nat)->Env->List aq->Prop:=
 List.rec (motive:=λ_=>List (Nat×List Nat)->Env->List aq->Prop) (λa env h=>fw P T all t K fin a env h)
  (λc _ b a env h=>fwE P T all t (λa env h=>fwE P T all t b [(c.2.1,false)] a env h/\fw P T all t K ((c.2.2.1,false)::c.2.2.2) a env h) c.1 a env h) cs
def Xl (ops:Array Oper) (t:List (Nat×List Nat)) (fin:List (Nat×Bool)):tD->List (Nat×Bool)->Bool
 | [],pre=>dC ops t (pre++fin)
 | c::r,pre=>afW ops t (pre++c.1) c.2.1 c.2.2.1 ((IC r fin).map (·.1)) (c.2.2.2.map (·.1))&&dC ops t ((pre++c.1)++c.2.2.2)&&Xl ops t fin r (pre++c.1)
def G4 (ops:Array Oper) (cs:tD) (fin:List (Nat×Bool)):Bool:=
 (λall=>(λt=>Nat.beq all.length ops.size&&(List.range ops.size).all (λj=>rl (all.map (·.1)) j)&&all.all (λp=>Nat.blt p.1 ops.size&&(eM ops.toList p.1).all (λd=>Nat.blt d ops.size&&!(Nat.beq d p.1)))&&
  Xl ops t fin cs []) (LP ops.toList all [])) (IC cs fin)
inductive G5 (P:Program) (T:sf) (m:Nat) (ops:Array Oper) (K:Env->List aq->Prop) (env:Env) (h:List aq):Prop
 | quiet (hq:Ao P T ops.toList h (λenv'=>K env' h) ops.toList env):G5 P T m ops K env h
 | FD (cs:tD) (fin:List (Nat×Bool)) (hc:G4 ops cs fin=true) (hf:fwC P T ops.toList (LP ops.toList (IC cs fin) []) K fin cs [] env h):G5 P T m ops K env h
 | float (ord:List (Nat×Bool)) (hc:Vb ops ord=true) (hf:fw P T ops.toList (LP ops.toList ord []) K ord [] env h):G5 P T m ops K env h
def aln (Q:XQ) (env:Env) (h:List aq):Prop:=Q .normal env h
def aGN (Q:XQ) (h:List aq) (env:Env):Prop:=Q .normal env h
def vc (P:Program) (T:sf) (m:Nat) (c:Code):XQ->Env->List aq->Prop:=
 Code.rec (motive:=λ_=>XQ->Env->List aq->Prop)
  (λQ env h=>Q .normal env h)
  (λ_ ops d Q env h=>match d with
   | false=>xX P T ops.toList (Q .normal) ops.toList env h
   | true=>match ops.toList.all (λo=>JX o.op)with
    | true=>Ao P T ops.toList h (aGN Q h) ops.toList env
    | false=>G5 P T m ops (aln Q) env h)
  (λ_ _ a b Q env h=>xO m a b Q env h)
  (λc _ _ a b Q env h=>match ev env c with
   | .bool t=>iq t (a Q env h) (b Q env h)
   | _=>False)
  (λid _ e Q env h=>e (XQ.inBlock id Q) env h)
  (λ_ e Q env h=>tA m (λnext=>e (XQ.then next Q)) env h)
  (λ_ _ _ _ _ _ _ _ _=>False)
  (λid Q env h=>Q (.exit id) env h)
  (λ_ _ _ _ _=>False)
  (λ_ Q env h=>Q .normal env h)
  (λ_ _ _ _=>False)
  (λQ env h=>Q .ret env h)
  (λ_ _ _ _=>False) c
def codeOk (nt:Nat):Code->Bool
 | .region _ ops d=>ops.toList.all (λo=>match o.dst with | some t=>Nat.blt t nt | none=>true)&&(!d||Region.lexB .any ops)
 | .seq a b=>codeOk nt a&&codeOk nt b
 | .cond _ a b=>codeOk nt a&&codeOk nt b
 | .block _ c=>codeOk nt c
 | .loop c=>codeOk nt c
 | _=>true
def yt (T:sf) (env:Env) (h:List aq):List ResultVar->(List PV->Prop)->Prop
 | [],K=>K []
 | .tmp t::r,K=>yt T env h r (λvs=>K (env t::vs))
 | .cell t ty::r,K=>Bj T ty (env t) h (λv=>yt T env h r (λvs=>K (v::vs)))
def oneOf:List PV->PV
 | [v]=>v
 | vs=>.fV vs
inductive Ends (m:Nat) (R:PV->List aq->Prop):List aq->List PV->Prop
 | mk {h:List aq} {vs:List PV} (hn:vs.all pf=true) (k:List Nat) (res:PV) (η:List aq) (hk:qX (qI η k)=true) (hm:m<=k.length) (hz:Fz h η k (oneOf vs) res) (hh:mW h η k m 0 η k) (hR:R res η):Ends m R h vs
 | ex {h:List aq} {vs:List PV} (h1:List aq) (hx:Pa h h1) (hk:Ends m R h1 vs):Ends m R h vs
 | ab {h:List aq} {vs:List PV} (id i j sub:Nat) (h1:(Nat->Prop)->List aq) (ha:∀F,DC h id i j sub F (h1 F)) (hk:∀F,Ends m R (h1 F) vs):Ends m R h vs
def aGg (T:sf) (rs:List ResultVar) (m:Nat) (R:PV->List aq->Prop):XQ
 | .ret,env,h=>yt T env h rs (Ends m R h)
 | .normal,env,h=>yt T env h rs (Ends m R h)
 | _,_,_=>False
def xT (args:List PV):Env:=λt=>args.getD t .j3
def Tr (env env':Env) (op:Op):Prop:=∀x,x∈op.operands.toList->ev env x=ev env' x
def aq7 (h h':List aq) (env:Env) (op:Op):Prop:=∀x,x∈op.operands.toList->∀id,id∈wC (ev env x)->eJ h id=eJ h' id
theorem kE {v:PV} {K:PV->Prop} (h:K v):force v K:=by cases v<;>exact h
theorem G7 {env env':Env} {sz:Nat} {fl:List (Nat×Nat×Bool)} {K:List PV->Prop}:∀(l:List (Nat×Operand)) (acc:List PV),(∀p,p∈l->ev env p.2=ev env' p.2)->sj env sz fl K l acc=sj env' sz fl K l acc
 | [],acc,_=>rfl
 | (k,x)::r,acc,hs=>by
  have e:=hs (k,x) aRN;simp only at e;unfold sj;rw[e];split
  ·congr 1;funext v;rw[G7 r _ (λp hp=>hs p (aOR _ hp))]
  ·rfl
theorem G8 {env env':Env} {sz:Nat} {K:List (List PV)->Prop}:∀(l:List (Nat×Operand)) (acc:List (List PV)),(∀p,p∈l->ev env p.2=ev env' p.2)->ub env sz K l acc=ub env' sz K l acc
 | [],acc,_=>rfl
 | (k,x)::r,acc,hs=>by
  have e:=hs (k,x) aRN;simp only at e;unfold ub;rw[e];congr 1;funext v;rw[G8 r _ (λp hp=>hs p (aOR _ hp))]
theorem Ts {env env':Env} {o:Option Operand} (hs:∀x,o=some x->ev env x=ev env' x):o.map (ev env)=o.map (ev env'):=by
 cases o with
 | none=>rfl
 | some x=>simp [hs x rfl]
theorem BG {T:sf} {env env':Env} {h:List aq} {K:PV->Prop} (op:Op) (hs:Tr env env' op):dF T op env h K=dF T op env' h K:=by
 cases op with
 | move x=>simp only[dF,hs x aRS]
 | assign x=>simp only[dF,hs x aRS]
 | pick c a b=>simp only[dF,hs c aRS,hs a aRS,hs b aRS]
 | binOp l t x y m=>simp only[dF,hs x aRS,hs y aRS]
 | unOp u t x=>simp only[dF,hs x aRS]
 | load t a=>simp only[dF,hs a aRS]
 | convert s d x=>simp only[dF,hs x aRS]
 | nilCheck x=>simp only[dF,hs x aRS]
 | fieldAddr s x k=>simp only[dF,hs x aRS]
 | field s x k=>simp only[dF,hs x aRS]
 | build t parts=>
  have e:∀sz fl (K:List PV->Prop) z,sj env sz fl K parts.toList z=sj env' sz fl K parts.toList z:=λsz fl K z=>G7 _ _ (λp hp=>hs p.2 aSB);simp only[dF,e]
 | indexAddr t x i=>simp only[dF,hs x aRS,hs i aRS]
 | index t x i=>simp only[dF,hs x aRS,hs i aRS]
 | extract x i=>simp only[dF,hs x aRS]
 | lookup t x i ok=>simp only[dF,hs x aRS,hs i aRS]
 | makeFunc fn first captured=>rfl
 | slice t x lo hi f=>
  have g:lo.map (ev env)=lo.map (ev env'):=Ts (λy hy=>hs y aSA);have e2:hi.map (ev env)=hi.map (ev env'):=Ts (λy hy=>hs y aSA);have j:f.map (ev env)=f.map (ev env'):=Ts (λy hy=>hs y aSA);simp only[dF,hs x aRS,g,e2,j]
 | call c=>
  obtain⟨callee,args,ts⟩:=c;cases callee with
  | builtin b=>
   cases b with
   | len=>
    simp only[dF];split
    ·rename_i x t hx n;have e:=hs x (by simp [Op.operands,Call.operands];have:x∈args.toList:=(by rw[hx];simp);simpa using this);rw[e]
    ·rfl
   | _=>rfl
  | _=>rfl
 | _=>rfl
theorem Xn {T:sf} {env:Env} {h h':List aq} {K:PV->Prop} (op:Op) (hs:aq7 h h' env op):dF T op env h K=dF T op env h' K:=by
 cases op with
 | load t a=>
  have q:=hs a aRS;simp only[dF];revert q;generalize ev env a=v;intro q;cases v with
  | aA id g i o=>simp only[Bj,q id aSk]
  | _=>rfl
 | convert s d x=>
  have q:=hs x aRS;simp only[dF];revert q;generalize ev env x=v;intro q
  have e:∀K,zN v h K=zN v h' K:=λK=>by
   cases v with
   | own id g i o=>simp only[zN,q id aSk]
   | _=>rfl
  generalize T.get s=ti;generalize T.get d=f;cases ti with
  | slice a b c z=>cases f with
   | str=>simp only[e]
   | _=>rfl
  | int k=>cases f<;>cases v<;>rfl
  | _=>rfl
 | nilCheck x=>
  have q:=hs x aRS;simp only[dF];revert q;generalize ev env x=v;intro q;cases v with
  | aA id g i o=>simp only[q id aSk]
  | _=>rfl
 | fieldAddr s x k=>
  have q:=hs x aRS;simp only[dF];revert q;generalize ev env x=v;intro q;cases v with
  | aA id g i o=>simp only[q id aSk]
  | _=>rfl
 | indexAddr t x i=>
  have q:=hs x aRS;simp only[dF];revert q;generalize ev env x=v;generalize ev env i=u;generalize T.get t=ti;intro q;cases ti with
  | slice e sz b z=>cases v with
   | own id g o l=>cases u with
    | int k n=>simp only[q id aSk]
    | _=>rfl
   | iT a b c=>cases u<;>rfl
   | _=>rfl
  | _=>rfl
 | lookup t x i ok=>
  have q:=hs x aRS;simp only[dF];revert q;generalize ev env x=v;generalize T.get t=ti;intro q;cases ti with
  | map k e z=>cases v with
   | qc id=>simp only[q id aSk]
   | _=>rfl
  | _=>cases v<;>rfl
 | slice t x lo hi j=>
  have q:=hs x aRS;simp only[dF];revert q;generalize ev env x=v;generalize T.get t=ti;intro q;cases ti with
  | slice e sz b z=>cases v with
   | own id g o l=>simp only[q id aSk]
   | _=>rfl
  | str=>cases v<;>rfl
  | _=>rfl
 | call c=>
  obtain⟨callee,args,ts⟩:=c;cases callee with
  | builtin b=>
   cases b with
   | len=>
    simp only[dF];split
    ·rename_i x t hx m;have q:=hs x (by simp [Op.operands,Call.operands];have:x∈args.toList:=(by rw[hx];simp);simpa using this);revert q;generalize ev env x=v;generalize T.get t=ti;intro q;cases ti with
     | slice e sz b z=>cases v with
      | own id g o l=>simp only[q id aSk]
      | _=>rfl
     | map k e z=>cases v with
      | qc id=>simp only[q id aSk]
      | _=>rfl
     | str=>cases v<;>rfl
     | _=>rfl
    ·rfl
   | _=>rfl
  | _=>rfl
 | _=>rfl
def One (F:(PV->Prop)->Prop):Prop:=∀K,F K->∃v,K v/\∀a,a v->F a
theorem uU (v:PV):One (force v):=λK h=>⟨v,df h,λa hk=>kE hk⟩
theorem bI (v:PV):One (λK=>K v):=λK h=>⟨v,h,λ_ hk=>hk⟩
theorem eC {A:Prop} {F:(PV->Prop)->Prop} (h:One F):One (λK=>A/\F K):=λK hk=>
 let⟨v,h1,h2⟩:=h K hk.2
 ⟨v,h1,λa b=>⟨hk.1,h2 a b⟩⟩
theorem jz {b:Bool} {F:(PV->Prop)->Prop} (h:One F):One (λK=>fy b (F K)):=λK hk=>by
 cases b with
 | true=>exact h K hk
 | false=>exact hk.elim
theorem ya {α:Type} {A:α->Prop} {F:α->(PV->Prop)->Prop} (h:∀c,One (F c)):One (λK=>∃c,A c/\F c K):=λK ⟨c,a,hk⟩=>
 let⟨v,h1,h2⟩:=h c K hk
 ⟨v,h1,λb d=>⟨c,a,h2 b d⟩⟩
theorem G9 {F:(PV->Prop)->Prop} (h:One F):One (λK=>F (Oi K)):=λK hk=>by
 obtain⟨v,h1,h2⟩:=h _ hk;cases v with
 | iT sz n f=>
  obtain⟨b,i,c,e2,d⟩:=h1;exact⟨.iT sz b i,d,λe a=>h2 _ ⟨b,i,c,e2,a⟩⟩
 | own id g off n=>
  obtain⟨j,b,c,e2,d⟩:=h1;exact⟨.own id g j b,d,λe a=>h2 _ ⟨j,b,c,e2,a⟩⟩
 | str s=>
  obtain⟨s',c,d⟩:=h1;exact⟨.str s',d,λe a=>h2 _ ⟨s',c,a⟩⟩
 | _=>exact⟨_,h1,λe a=>h2 _ a⟩
theorem CL {K:List PV->Prop}:∀(n:Nat) (l acc:List PV),n<=l.length->K (acc.reverse++l.take n)->JZ K n l acc
 | 0,l,acc,_,h=>by unfold JZ;simpa using h
 | n+1,[],acc,a,_=>by simp at a
 | n+1,c::r,acc,a,h=>kE (CL n r (c::acc) (by simp at a;omega) aSi)
theorem Ha (T:sf) (t:Nat) (cells:List PV):One (Cv T t cells):=λK hk=>by
 unfold Cv at hk ⊢;generalize T.get t=q1 at hk ⊢;cases q1 with
 | struct sz fl z=>
  obtain⟨h1,h2⟩:=sh _ _ _ hk;exact⟨_,h2,λb a=>CL _ _ _ h1 a⟩
 | other=>exact hk.elim
 | _=>
  cases cells with
  | nil=>exact hk.elim
  | cons c r=>exact uU c K hk
theorem Xo (T:sf) (t:Nat) (a:PV) (h:List aq):One (Bj T t a h):=λK hk=>by
 cases a with
 | ia cells=>exact Ha T t cells K hk
 | aA id gen i off=>
  simp only[Bj]at hk ⊢;generalize eJ h id=q2 at hk ⊢;cases q2 with
  | row g sz n e f=>exact eC (ya (λc=>Ha T t _)) K hk
  | dead=>exact hk.elim
 | _=>exact hk.elim
theorem af2 (ti:TI) (d:BinOp) (x y:PV):One (Wx ti d x y):=λK hk=>by
 cases x with
 | int k a=>cases y with
  | int g b=>
   cases d with
   | shl=>exact eC (bI _) K hk
   | shr=>exact eC (bI _) K hk
   | quo=>exact jz (eC (bI _)) K hk
   | rem=>exact jz (eC (bI _)) K hk
   | _=>exact jz (bI _) K hk
  | _=>exact hk.elim
 | bool a=>cases y with
  | bool b=>cases ti with
   | bool=>cases d with
    | eql=>exact bI _ K hk
    | neq=>exact bI _ K hk
    | _=>exact hk.elim
   | _=>exact hk.elim
  | _=>exact hk.elim
 | str a=>cases y with
  | str b=>cases d with
   | add=>exact eC (ya λc=>bI _) K hk
   | eql=>exact bI _ K hk
   | neq=>exact bI _ K hk
   | lss=>exact bI _ K hk
   | leq=>exact bI _ K hk
   | gtr=>exact bI _ K hk
   | geq=>exact bI _ K hk
   | _=>exact hk.elim
  | _=>exact hk.elim
 | agg xs=>cases y with
  | agg e=>cases ti with
   | struct sz fl z=>
    simp only[Wx]at hk ⊢;generalize C4 z=f at hk ⊢;cases f with
    | false=>exact hk.elim
    | true=>
     simp only[fy]at hk ⊢;generalize Je z xs e=q at hk ⊢;cases q with
     | none=>exact hk.elim
     | some b=>cases d<;>first | exact hk.elim | exact ya (λc=>bI _) K hk
   | _=>exact hk.elim
  | _=>exact hk.elim
 | _=>exact hk.elim
theorem Ap (x:PV) (lo hi:Option PV):One (FP x lo hi):=λK hk=>by
 cases x with
 | iT sz n f=>
  cases lo with
  | none=>cases hi with
   | none=>exact bI _ K hk
   | some u=>cases u<;>first | exact hk.elim | exact eC (bI _) K hk
  | some l=>cases l with
   | int k l=>cases hi with
    | none=>exact eC (bI _) K hk
    | some u=>cases u<;>first | exact hk.elim | exact eC (bI _) K hk
   | _=>cases hi<;>exact hk.elim
 | own id gen off len=>
  cases lo with
  | none=>cases hi with
   | none=>exact bI _ K hk
   | some u=>cases u<;>first | exact hk.elim | exact eC (bI _) K hk
  | some l=>cases l with
   | int k l=>cases hi with
    | none=>exact eC (bI _) K hk
    | some u=>cases u<;>first | exact hk.elim | exact eC (bI _) K hk
   | _=>cases hi<;>exact hk.elim
 | str s=>
  cases lo with
  | none=>cases hi with
   | none=>exact bI _ K hk
   | some u=>cases u<;>first | exact hk.elim | exact eC (bI _) K hk
  | some l=>cases l with
   | int k l=>cases hi with
    | none=>exact eC (bI _) K hk
    | some u=>cases u<;>first | exact hk.elim | exact eC (bI _) K hk
   | _=>cases hi<;>exact hk.elim
 | _=>exact hk.elim
theorem Tt (v:PV) (h:List aq):One (λK=>zN v h (λs=>K (.str s))):=λK hk=>by
 cases v with
 | ck=>exact bI _ K hk
 | iT sz n f=>exact jz (ya λs=>eC (bI _)) K hk
 | own id gen off n=>
  simp only[zN]at hk ⊢;generalize eJ h id=q3 at hk ⊢;cases q3 with
  | row g sz n e f=>exact eC (jz (ya λs=>eC (bI _))) K hk
  | dead=>exact hk.elim
 | _=>exact hk.elim
theorem Hb (env:Env) (sz:Nat) (fl:List (Nat×Nat×Bool)):∀(l:List (Nat×Operand)) (acc:List PV),One (λK=>sj env sz fl (λcs=>K (.agg cs)) l acc)
 | [],acc=>bI _
 | (k,x)::r,acc=>λK hk=>by
  unfold sj at hk ⊢;generalize fl[k]? =q4 at hk ⊢;cases q4 with
  | none=>exact hk.elim
  | some p=>
   obtain⟨o,size,b⟩:=p;have h1:=df hk;obtain⟨v,h2,a⟩:=jz (Hb env sz fl r _) K h1;exact⟨v,h2,λc d=>kE (a c d)⟩
theorem af3 (ti:TI) (n:Nat) (f:Nat->List PV) (a e:PV) (ok:Bool):One (λK=>fy (mj ti a a).isSome (∃r b,ae9 ti f n a e r b/\match ok with
  | true=>K (.fV [r,.bool b])
  | false=>force r K)):=jz (λK hk=>by
 obtain⟨r,b,hm,d⟩:=hk;cases ok with
 | true=>exact⟨_,d,λg c=>⟨r,b,hm,c⟩⟩
 | false=>exact⟨_,df d,λg c=>⟨r,b,hm,kE c⟩⟩)
theorem PJ (T:sf) (op:Op) (env:Env) (h:List aq):One (dF T op env h):=λK hk=>by
 cases op with
 | move x=>exact uU _ K hk
 | assign x=>exact uU _ K hk
 | pick c a b=>
  simp only[dF]at hk ⊢;generalize ev env c=v at hk ⊢;cases v with
  | bool t=>
   obtain⟨h1,h2⟩:=ml hk;cases t with
   | true=>exact⟨_,df (h1 rfl),λq l=>.mk (λ_=>kE l) (λh=>by cases h)⟩
   | false=>exact⟨_,df (h2 rfl),λq l=>.mk (λh=>by cases h) (λ_=>kE l)⟩
  | _=>exact hk.elim
 | binOp V t x y W=>exact af2 _ _ _ _ K hk
 | unOp u t x=>
  simp only[dF]at hk ⊢;generalize ev env x=v at hk ⊢;cases u<;>cases v<;>first | exact hk.elim | exact bI _ K hk
 | load t a=>exact Xo _ _ _ _ K hk
 | convert s d x=>
  simp only[dF]at hk ⊢;generalize ev env x=v at hk ⊢;generalize T.get s=ti at hk ⊢;generalize T.get d=w at hk ⊢;cases ti with
  | int k=>cases w with
   | int X=>cases v<;>first | exact hk.elim | exact bI _ K hk
   | _=>cases v<;>exact hk.elim
  | slice e sz b z=>cases w with
   | str=>
    simp only at hk ⊢;generalize T.get e=P at hk ⊢;cases P with
    | int k=>cases k<;>first | exact hk.elim | exact Tt _ _ K hk
    | _=>exact hk.elim
   | _=>cases v<;>exact hk.elim
  | _=>cases w<;>cases v<;>exact hk.elim
 | nilCheck x=>
  simp only[dF]at hk ⊢;generalize ev env x=v at hk ⊢;cases v with
  | ia cs=>exact bI _ K hk
  | aA id gen i off=>
   simp only at hk ⊢;generalize eJ h id=Q at hk ⊢;cases Q with
   | row g sz n e f=>exact eC (bI _) K hk
   | dead=>exact hk.elim
  | _=>exact hk.elim
 | fieldAddr s x k=>
  simp only[dF]at hk ⊢;generalize ev env x=v at hk ⊢;generalize T.get s=A at hk ⊢;cases A with
  | struct sz fl z=>
   simp only at hk ⊢;generalize fl[k]? =B at hk ⊢;cases B with
   | none=>exact hk.elim
   | some p=>
    obtain⟨o,a,b⟩:=p;cases v with
    | ia cs=>exact bI _ K hk
    | aA id gen i off=>
     simp only at hk ⊢;generalize eJ h id=C at hk ⊢;cases C with
     | row g sz n e f=>exact eC (bI _) K hk
     | dead=>exact hk.elim
    | _=>exact hk.elim
  | _=>exact hk.elim
 | field s x k=>
  simp only[dF]at hk ⊢;generalize ev env x=v at hk ⊢;generalize T.get s=A at hk ⊢;cases A with
  | struct sz fl z=>
   simp only at hk ⊢;generalize fl[k]? =B at hk ⊢;cases B with
   | none=>exact hk.elim
   | some p=>
    obtain⟨o,a,b⟩:=p;cases v with
    | agg cs=>
     cases b with
     | true=>
      obtain⟨h1,h2⟩:=sh _ _ _ hk;exact⟨_,h2,λq l=>CL _ _ _ h1 l⟩
     | false=>
      simp only at hk ⊢;generalize cs.drop o=C at hk ⊢;cases C with
      | nil=>exact hk.elim
      | cons c r=>exact uU c K hk
    | _=>exact hk.elim
  | _=>exact hk.elim
 | build t parts=>
  simp only[dF]at hk ⊢;generalize T.get t=D at hk ⊢;cases D with
  | struct sz fl z=>exact Hb _ _ _ _ _ K hk
  | _=>exact hk.elim
 | indexAddr t x i=>
  simp only[dF]at hk ⊢;generalize ev env x=v at hk ⊢;generalize ev env i=u at hk ⊢;generalize T.get t=E at hk ⊢;cases E with
  | slice e sz b z=>cases v with
   | iT R n f=>cases u<;>first | exact hk.elim | exact jz (eC (ya λc=>bI _)) K hk
   | own id gen off len=>cases u with
    | int k n=>
     simp only at hk ⊢;generalize eJ h id=F at hk ⊢;cases F with
     | row g sz n e f=>exact eC (jz (eC (ya λj=>bI _))) K hk
     | dead=>exact hk.elim
    | _=>exact hk.elim
   | _=>cases u<;>exact hk.elim
  | _=>cases v<;>cases u<;>exact hk.elim
 | index t x i=>
  simp only[dF]at hk ⊢;generalize ev env x=v at hk ⊢;generalize ev env i=u at hk ⊢;generalize T.get t=G at hk ⊢;cases G with
  | str=>cases v with
   | str s=>cases u<;>first | exact hk.elim | exact eC (ya λc=>bI _) K hk
   | _=>cases u<;>exact hk.elim
  | _=>cases v<;>cases u<;>exact hk.elim
 | extract x i=>
  simp only[dF]at hk ⊢;generalize ev env x=v at hk ⊢;cases v with
  | fV vs=>
   simp only at hk ⊢;generalize vs[i]? =H at hk ⊢;cases H with
   | none=>exact hk.elim
   | some u=>exact uU _ K hk
  | _=>exact hk.elim
 | makeFunc fn first captured=>exact(show False from hk).elim
 | lookup t x i ok=>
  simp only[dF]at hk ⊢;generalize ev env x=v at hk ⊢;generalize T.get t=I at hk ⊢;cases I with
  | map kt S O=>cases v with
   | qc id=>
    simp only at hk ⊢;generalize eJ h id=J at hk ⊢;cases J with
    | row g sz n e f=>
     obtain⟨u,h2,U⟩:=af3 (T.get kt) n f (ev env i) O ok K (df hk);exact⟨u,h2,λq l=>kE (U q l)⟩
    | dead=>exact hk.elim
   | _=>exact hk.elim
  | _=>cases v<;>exact hk.elim
 | slice t x lo hi Y=>
  simp only[dF]at hk ⊢;generalize ev env x=v at hk ⊢;generalize T.get t=L at hk ⊢;cases L with
  | slice e sz b z=>cases v with
   | iT R n f=>exact jz (eC (G9 (Ap _ _ _))) K hk
   | own id gen off len=>
    simp only at hk ⊢;generalize eJ h id=M at hk ⊢;cases M with
    | row g sz n e f=>exact eC (jz (eC (G9 (Ap _ _ _)))) K hk
    | dead=>exact hk.elim
   | _=>exact hk.elim
  | str=>cases v with
   | str s=>exact jz (G9 (Ap _ _ _)) K hk
   | _=>exact hk.elim
  | _=>cases v<;>exact hk.elim
 | call c=>
  obtain⟨callee,args,ts⟩:=c;cases callee with
  | builtin b=>
   cases b with
   | len=>
    simp only[dF]at hk ⊢;split at hk
    ·rename_i x t hx Z;generalize ev env x=v at hk ⊢;generalize T.get t=N at hk ⊢;cases N with
     | slice e sz b z=>cases v with
      | iT a n f=>exact bI _ K hk
      | ck=>exact bI _ K hk
      | own id gen off n=>
       simp only at hk ⊢;generalize eJ h id=m at hk ⊢;cases m with
       | row g sz n e f=>exact eC (bI _) K hk
       | dead=>exact hk.elim
      | _=>exact hk.elim
     | str=>cases v<;>first | exact hk.elim | exact bI _ K hk
     | map kt S O=>cases v with
      | qc id=>
       simp only at hk ⊢;generalize eJ h id=m at hk ⊢;cases m with
       | row g sz n e f=>exact bI _ K hk
       | dead=>exact hk.elim
      | _=>exact hk.elim
     | _=>cases v<;>exact hk.elim
    ·exact hk.elim
   | _=>exact hk.elim
  | _=>exact hk.elim
 | _=>exact hk.elim
theorem sI {v:PV} {K a:PV->Prop} (hk:∀v,K v->a v) (h:force v K):force v a:=kE (hk _ (df h))
theorem fP {b:Bool} {K a:Prop} (hk:K->a) (h:fy b K):fy b a:=by cases b;exact h;exact hk h
theorem Dj {env:Env} {sz:Nat} {K a:List (List PV)->Prop} (hk:∀l,K l->a l):∀(l:List (Nat×Operand)) (acc:List (List PV)),ub env sz K l acc->ub env sz a l acc
 | [],acc,h=>hk _ h
 | (k,x)::r,acc,h=>sI (λv h=>fP (Dj hk r _) h) h
theorem J0 {x:PV} {h:List aq} {sz:Nat} {K a:Nat->(Nat->List PV)->Prop} (hk:∀n g,K n g->a n g) (hp:Td x h sz K):Td x h sz a:=by
 cases x with
 | ck=>exact hk _ _ hp
 | iT b m g=>exact fP (hk _ _) hp
 | own id gen off m=>
  simp only[Td]at hp ⊢;generalize eJ h id=q at hp ⊢;cases q with
  | row g b n e f=>exact⟨hp.1,hp.2.1,fP (hk _ _) hp.2.2⟩
  | dead=>exact hp
 | str s=>exact fP (hk _ _) hp
 | _=>exact hp
theorem LX {e sz bytes:Nat} {s x:PV} {h:List aq} {K d:PV->List aq->Prop} (hk:∀v h',K v h'->d v h') (hp:ym e sz bytes s x h K):ym e sz bytes s x h d:=by
 cases s with
 | ck=>
  simp only[ym]at hp ⊢;exact J0 (λm g ⟨h,a,b,c,e2,h2⟩=>⟨h,a,b,c,e2,hk _ _ h2⟩) hp
 | own id gen off len=>
  simp only[ym]at hp ⊢;generalize eJ h id=q at hp ⊢;cases q with
  | row g i n e' f=>exact⟨hp.1,fP (J0 (λm g ⟨h,a,b,c,e2,h2⟩=>⟨h,a,b,c,e2,hk _ _ h2⟩)) hp.2⟩
  | dead=>exact hp
 | _=>exact hp
theorem Tu {e sz bytes:Nat} {s x:PV} {h:List aq} {K a:PV->List aq->Prop} (hk:∀v h',K v h'->a v h') (hp:Py e sz bytes s x h K):Py e sz bytes s x h a:=by
 unfold Py at hp ⊢;split at hp
 ·split at hp
  ·exact⟨hp.1,fP (λq=>⟨q.1,hk _ _ q.2⟩) hp.2⟩
  ·exact hp
 ·split at hp
  ·split at hp
   ·exact⟨hp.1,hp.2.1,fP (λq=>⟨q.1,hk _ _ q.2⟩) hp.2.2⟩
   ·exact hp
  ·exact hp
 ·exact aRg
theorem Tf.mono {e sz bytes:Nat} {s x:PV} {h:List aq} {K a:PV->List aq->Prop} (hk:∀v h',K v h'->a v h') (hp:Tf e sz bytes s x h K):Tf e sz bytes s x h a:=by
 cases hp with
 | ez hp=>exact .ez (LX hk hp)
 | move hp=>exact .move (Tu hk hp)
theorem uV {T:sf} {op:Op} {env:Env} {h:List aq} {K a:PV->Prop} (hk:∀v,K v->a v) (hp:dF T op env h K):dF T op env h a:=
 let⟨v,h1,h2⟩:=PJ T op env h K hp
 h2 a (hk v h1)
theorem af4 {P:Program} {T:sf} {env:Env} {h:List aq} {K A:PV->List aq->Prop} (hk:∀v h',K v h'->A v h') (op:Op) (hp:pop P T op env h K):pop P T op env h A:=by
 cases op with
 | store t a x=>
  simp only[pop]at hp ⊢;generalize ev env a=v at hp ⊢;cases v with
  | aA id gen i off=>
   simp only at hp ⊢;generalize eJ h id=q at hp ⊢;cases q with
   | row g sz n e f=>exact⟨hp.1,sI (λv h=>fP (λ⟨c,j,o,e2,h2⟩=>⟨c,j,o,e2,hk _ _ h2⟩) h) hp.2⟩
   | dead=>exact hp
  | _=>exact hp
 | box t x=>
  simp only[pop]at hp ⊢;exact sI (λv h=>fP (hk _ _) h) hp
 | alloc t=>
  simp only[pop]at hp ⊢;generalize FH (T.get t)=q at hp ⊢;cases q<;>first | exact hp | exact hk _ _ hp
 | makeSlice t l c=>
  simp only[pop]at hp ⊢;generalize T.get t=q at hp ⊢;generalize ev env l=u at hp ⊢;generalize ev env c=v at hp ⊢;cases q with
  | slice e sz b z=>cases u with
   | int k n=>cases v with
    | int D m=>(obtain⟨h,p,j,o,e2,h2⟩:=hp;exact⟨h,p,j,o,e2,hk _ _ h2⟩)
    | _=>exact hp
   | _=>cases v<;>exact hp
  | _=>cases u<;>cases v<;>exact hp
 | buildSlice t len parts=>
  simp only[pop]at hp ⊢;generalize T.get t=q at hp ⊢;cases q with
  | slice e sz b z=>exact fP (Dj (λ_ ⟨j,o,h2⟩=>⟨j,o,hk _ _ h2⟩) _ _) hp
  | _=>exact hp
 | convert s d x=>
  simp only[pop]at hp ⊢;split at hp
  ·split at hp
   ·exact let⟨j,o,h2⟩:=hp;⟨j,o,hk _ _ h2⟩
   ·exact hp
  ·exact uV (λv=>hk v h) hp
 | binOp E t x y ty=>
  simp only[pop]at hp ⊢;split at hp
  ·exact⟨λh0=>hk _ _ (hp.1 h0),hk _ _ hp.2⟩
  ·exact uV (λv=>hk v h) hp
 | makeMap t r=>
  cases r with
  | none=>
   simp only[pop]at hp ⊢;generalize T.get t=q at hp ⊢;cases q with
   | map k e z=>exact let⟨j,h2⟩:=hp;⟨j,hk _ _ h2⟩
   | _=>exact hp
  | some r=>exact hp
 | mapUpdate t m k x=>
  simp only[pop]at hp ⊢;generalize T.get t=q at hp ⊢;generalize ev env m=v at hp ⊢;cases q with
  | map kt F z=>cases v with
   | qc id=>
    simp only at hp ⊢;generalize eJ h id=q2 at hp ⊢;cases q2 with
    | row g sz n e f=>exact sI (λG h=>sI (λH h=>fP (λ⟨p,j,o,h2⟩=>⟨p,j,o,hk _ _ h2⟩) h) h) hp
    | dead=>exact hp
   | _=>exact hp
  | _=>cases v<;>exact hp
 | call c=>
  obtain⟨callee,args,ts⟩:=c;cases callee with
  | value C=>
   simp only[pop]at hp ⊢;generalize ev env C=v at hp ⊢;cases v with
   | fn f=>exact fP (λ⟨R,h1,h2⟩=>⟨R,h1,λres h' w=>hk _ _ (h2 res h' w)⟩) hp
   | ud f dG=>exact fP (λ⟨R,h1,h2⟩=>⟨R,h1,λres h' w=>hk _ _ (h2 res h' w)⟩) hp
   | _=>exact hp
  | builtin b=>
   cases b with
   | append=>
    simp only[pop]at hp ⊢;split at hp
    ·rename_i s x t tx I J;generalize T.get t=q at hp ⊢;generalize T.get tx=B at hp ⊢;cases q with
     | slice e sz b z=>cases B<;>first | exact hp | exact Tf.mono hk hp
     | _=>cases B<;>exact hp
    ·exact hp
   | len=>(simp only[pop]at hp ⊢;exact uV (λv=>hk v h) hp)
   | _=>exact hp
  | _=>exact hp
 | _=>(simp only[pop]at hp ⊢;exact uV (λv=>hk v h) hp)
theorem af5 {env env':Env} {args:Array Operand} (hs:∀x,x∈args.toList->ev env x=ev env' x):args.toList.map (ev env)=args.toList.map (ev env'):=
 List.map_congr_left hs
theorem ai9 {env env':Env} {l:List Operand} (hs:∀x,x∈l->ev env x=ev env' x):l.all (λx=>pf (ev env x))=l.all (λx=>pf (ev env' x)):=by
 induction l with
 | nil=>rfl
 | cons a r b=>simp only[aOv,hs a aRN,b (λx hx=>hs x (aOR _ hx))]
theorem aja {P:Program} {T:sf} {env env':Env} {h:List aq} {K:PV->List aq->Prop} (op:Op) (hs:Tr env env' op):pop P T op env h K=pop P T op env' h K:=by
 cases op with
 | store t a x=>simp only[pop,hs a aRS,hs x aRS]
 | box t x=>simp only[pop,hs x aRS]
 | alloc t=>rfl
 | makeSlice t l c=>simp only[pop,hs l aRS,hs c aRS]
 | buildSlice t len parts=>
  have e:∀sz (K:List (List PV)->Prop) z,ub env sz K parts.toList z=ub env' sz K parts.toList z:=λsz K z=>G8 _ _ (λp hp=>hs p.2 aSB);simp only[pop,e]
 | convert s d x=>simp only[pop,dF,hs x aRS]
 | binOp j t x y ty=>simp only[pop,dF,hs x aRS,hs y aRS]
 | makeMap t r=>cases r<;>rfl
 | mapUpdate t m k x=>simp only[pop,hs m aRS,hs k aRS,hs x aRS]
 | call c=>
  obtain⟨callee,args,ts⟩:=c;cases callee with
  | value i=>
   have e0:=hs i (by simp [Op.operands,Call.operands]);have f:∀x,x∈args.toList->ev env x=ev env' x:=λx hx=>hs x (by simp [Op.operands,Call.operands];right;simpa using hx);simp only[pop,e0,af5 f,ai9 f]
  | builtin b=>
   have f:∀x,x∈args.toList->ev env x=ev env' x:=λx hx=>hs x (by simp [Op.operands,Call.operands];simpa using hx);cases b with
   | append=>
    simp only[pop];split
    ·rename_i s x t tx g n;rw[f s (by rw[g];simp),f x (by rw[g];simp)]
    ·rfl
   | len=>(simp only[pop];exact BG _ hs)
   | _=>rfl
  | _=>rfl
 | _=>(simp only[pop];exact BG _ hs)
section
variable {P:Program}{T:sf}
def fs (P:Program) (T:sf) (all:List Oper) (st:Bool) (o:Oper) (G:PV->List aq->Prop) (env:Env) (h:List aq):Prop:=
 match o.guard with
 | none=>IB P T st o.op env h G
 | some (j,want)=>match(all[j]?).bind (·.dst)with
  | some t=>match env t with
   | .bool b=>match b==want with
    | true=>IB P T st o.op env h G
    | false=>G (.fV []) h
   | .fV []=>G (.fV []) h
   | _=>False
  | none=>False
theorem Ej {env:Env} {t:Nat} {v:PV} (h:env t=v):sT env t v=env:=by
 funext j;unfold sT;cases a:Nat.beq j t with
 | true=>rw[abL a,<-h];rfl
 | false=>rfl
theorem J1 {st:Bool} {op:Op} {env:Env} {h:List aq} {G a:PV->List aq->Prop} (hk:∀v h',G v h'->a v h') (hp:IB P T st op env h G):IB P T st op env h a:=by
 cases st with
 | true=>exact uV (λv=>hk v h) hp
 | false=>exact af4 hk _ hp
theorem jV {all:List Oper} {st:Bool} {o:Oper} {env:Env} {h:List aq} {G e:PV->List aq->Prop} (hk:∀v h',G v h'->e v h') (hp:fs P T all st o G env h):fs P T all st o e env h:=by
 unfold fs at hp ⊢;generalize o.guard=g at hp ⊢;cases g with
 | none=>exact J1 hk hp
 | some q=>
  obtain⟨j,want⟩:=q;simp only at hp ⊢;generalize(all[j]?).bind (·.dst)=d at hp ⊢;cases d with
  | none=>exact hp
  | some t=>
   simp only at hp ⊢;generalize env t=v at hp ⊢;cases v with
   | bool b=>
    simp only at hp ⊢;generalize(b==want)=c at hp ⊢;cases c with
    | true=>exact J1 hk hp
    | false=>exact hk _ _ hp
   | fV l=>cases l with
    | nil=>exact hk _ _ hp
    | cons a r=>exact hp
   | _=>exact hp
theorem tG {all:List Oper} {st:Bool} {o:Oper} {F:Env->PV->List aq->Prop} {env:Env} {h:List aq} (hp:zn P T all st o F env h):fs P T all st o (F env) env h:=by
 unfold zn at hp;unfold fs;generalize o.guard=g at hp ⊢;cases g with
 | none=>exact hp
 | some q=>
  obtain⟨j,want⟩:=q;simp only at hp ⊢;generalize(all[j]?).bind (·.dst)=d at hp ⊢;cases d with
  | none=>exact hp
  | some t=>
   simp only at hp ⊢;generalize hv:env t=v at hp ⊢;cases v with
   | bool b=>
    simp only at hp ⊢;obtain⟨h1,h2⟩:=ml hp;cases b with
    | true=>
     have h1:=h1 rfl;rw[Ej hv]at h1;cases want<;>exact h1
    | false=>
     have h2:=h2 rfl;rw[Ej hv]at h2;cases want<;>exact h2
   | fV l=>cases l with
    | nil=>exact hp
    | cons a r=>exact hp
   | _=>exact hp
theorem BH {env env':Env} {o:Oper} {ops:Array Oper} (a:∀t,t∈o.looksAt ops->env t=env' t):Tr env env' o.op:=λx hx=>by
 cases x with
 | tmp t=>exact a t (by unfold Oper.looksAt;rw[aOx];left;rw[List.mem_filterMap];exact⟨_,hx,rfl⟩)
 | _=>rfl
theorem vR {env env':Env} {o:Oper} {ops:Array Oper} (b:∀t,t∈o.looksAt ops->env t=env' t) {j:Nat} {w:Bool} (hg:o.guard=some (j,w)) {t:Nat} (a:(ops.toList[j]?).bind (·.dst)=some t):env t=env' t:=
 b t (by
  unfold Oper.looksAt;rw[aOx,hg];right;have:ops.toList[j]? =ops[j]?:=by simp
  rw[this]at a;show t∈((ops[j]?).bind (·.dst)).toList;rw[a];simp)
theorem af6 {ops:Array Oper} {st:Bool} {o:Oper} {G:PV->List aq->Prop} {env env':Env} {h:List aq} (a:∀t,t∈o.looksAt ops->env t=env' t) (hp:fs P T ops.toList st o G env h):fs P T ops.toList st o G env' h:=by
 have b:IB P T st o.op env h G=IB P T st o.op env' h G:=by
  cases st with
  | true=>exact BG _ (BH a)
  | false=>exact aja _ (BH a)
 unfold fs at hp ⊢;cases hg:o.guard with
 | none=>rw[hg]at hp;simp only at hp ⊢;rw[<-b];exact hp
 | some q=>
  obtain⟨j,want⟩:=q;rw[hg]at hp;simp only at hp ⊢;cases hd:(ops.toList[j]?).bind (·.dst)with
  | none=>rw[hd]at hp;exact hp
  | some t=>
   rw[hd]at hp;simp only at hp ⊢;rw[<-vR a hg hd,<-b];exact hp
theorem BI {α β:Type} {f g:α->List β}:∀(l:List α),(∀x,x∈l->f x=g x)->l.flatMap f=l.flatMap g
 | [],_=>rfl
 | a::r,h=>by rw[List.flatMap_cons,List.flatMap_cons,h a aRN,BI r (λx hx=>h x (aOR _ hx))]
theorem Hc (env:Env) (op:Op):(∃x,op=.move x)\/pJ env op=op.operands.toList.flatMap (λx=>wC (ev env x)):=by
 cases op<;>first | exact .inl ⟨_,rfl⟩ | exact .inr rfl
theorem Tv {T:sf} {env:Env} {h h':List aq} {K:PV->Prop} {op:Op} (hi:∀id,id∈pJ env op->eJ h id=eJ h' id):dF T op env h K=dF T op env h' K:=by
 rcases Hc env op with⟨x,rfl⟩ | e
 ·rfl
 ·exact Xn op (λx hx id hid=>hi id (by rw[e,List.mem_flatMap];exact⟨x,hx,hid⟩))
theorem Hd {env env':Env} {op:Op} (hs:∀x,x∈op.operands.toList->ev env x=ev env' x):pJ env' op=pJ env op:=by
 rcases Hc env op with⟨x,rfl⟩ | e
 ·rfl
 ·rcases Hc env' op with⟨x,rfl⟩ | e'
  ·rfl
  ·rw[e,e'];exact BI _ (λx hx=>by rw[hs x hx])
theorem LY {ops:Array Oper} {o:Oper} {G:PV->List aq->Prop} {env:Env} {h:List aq} (hp:fs P T ops.toList true o G env h):
  ∃v,G v h/\∀(env':Env) (h':List aq) (c:PV->List aq->Prop),(∀t,t∈o.looksAt ops->env t=env' t)->(∀id,id∈pJ env o.op->eJ h id=eJ h' id)->c v h'->fs P T ops.toList true o c env' h':=by
 have run:dF T o.op env h (λv=>G v h)->∃v,G v h/\∀(env':Env) (h':List aq) (c:PV->List aq->Prop),(∀t,t∈o.looksAt ops->env t=env' t)->(∀id,id∈pJ env o.op->eJ h id=eJ h' id)->c v h'->dF T o.op env' h' (λv=>c v h'):=λhs=>by
  obtain⟨v,h1,h2⟩:=PJ T o.op env h _ hs;refine⟨v,h1,λenv' h' c d hi hg=>?_⟩;rw[<-BG o.op (BH d),<-Tv (op:=o.op) hi];exact h2 _ hg
 unfold fs at hp;cases hg:o.guard with
 | none=>
  rw[hg]at hp;obtain⟨v,h1,h2⟩:=run hp;refine⟨v,h1,λenv' h' c d hi hk=>?_⟩;unfold fs;rw[hg];exact h2 env' h' c d hi hk
 | some q=>
  obtain⟨j,want⟩:=q;rw[hg]at hp;simp only at hp;cases hd:(ops.toList[j]?).bind (·.dst)with
  | none=>rw[hd]at hp;exact hp.elim
  | some t=>
   rw[hd]at hp;simp only at hp;cases hv:env t with
   | bool b=>
    rw[hv]at hp;simp only at hp;cases hc:(b==want)with
    | true=>
     rw[hc]at hp;obtain⟨v,h1,h2⟩:=run hp;refine⟨v,h1,λenv' h' c d hi hk=>?_⟩;unfold fs;rw[hg];simp only;rw[hd];simp only;rw[<-vR d hg hd,hv];simp only;rw[hc];exact h2 env' h' c d hi hk
    | false=>
     rw[hc]at hp;refine⟨_,hp,λenv' h' c d hi hk=>?_⟩;unfold fs;rw[hg];simp only;rw[hd];simp only;rw[<-vR d hg hd,hv];simp only;rw[hc];exact hk
   | fV l=>
    rw[hv]at hp;cases l with
    | nil=>
     refine⟨_,hp,λenv' h' c d hi hk=>?_⟩;unfold fs;rw[hg];simp only;rw[hd];simp only;rw[<-vR d hg hd,hv];exact hk
    | cons a r=>exact hp.elim
   | _=>rw[hv]at hp;exact hp.elim
def Tl (P:Program) (T:sf) (all:List Oper) (t:List (Nat×List Nat)) (K:Env->List aq->Prop):List (Nat×Bool)->List (Nat×List Nat)->Env->List aq->Prop
 | [],_,env,h=>K env h
 | (i,st)::r,a,env,h=>∃o,all[i]? =some o/\fs P T all st o (λv h'=>match st with
   | true=>Tl P T all t K r ((i,pJ env o.op)::a) (gn env o.dst v) h'
   | false=>(∀j ids,(j,ids)∈a->rl (gZ t i) j=false->∀id,id∈ids->eJ h id=eJ h' id)/\Tl P T all t K r a (gn env o.dst v) h') env h
theorem BJ {h h':List aq} {K:Prop}:∀(ids:List Nat),LW h h' K ids->(∀id,id∈ids->eJ h id=eJ h' id)/\K
 | [],hk=>⟨λid hid=>by simp at hid,hk⟩
 | a::r,hk=>by
  obtain⟨h1,h2⟩:=BJ r hk.2;refine⟨λid hid=>?_,h2⟩;simp only[aOz]at hid;rcases hid with rfl | hid
  ·exact hk.1
  ·exact h1 id hid
theorem rE {b:List Nat} {h h':List aq} {K:Prop}:∀(e:List (Nat×List Nat)),tF b h h' K e->(∀j ids,(j,ids)∈e->rl b j=false->∀id,id∈ids->eJ h id=eJ h' id)/\K
 | [],hk=>⟨λj ids hj=>by simp at hj,hk⟩
 | (a,l)::r,hk=>by
  unfold tF at hk;cases d:rl b a with
  | true=>
   rw[d]at hk;obtain⟨h1,h2⟩:=rE r hk;refine⟨λj ids hj c=>?_,h2⟩;simp only[aOz]at hj;rcases hj with hj | hj
   ·injection hj with f e2;subst f;rw[d]at c;cases c
   ·exact h1 j ids hj c
  | false=>
   rw[d]at hk;obtain⟨q1,q2⟩:=BJ l hk;obtain⟨h1,h2⟩:=rE r q2;refine⟨λj ids hj c=>?_,h2⟩;simp only[aOz]at hj;rcases hj with hj | hj
   ·injection hj with f e2;subst e2;exact q1
   ·exact h1 j ids hj c
theorem uT {all:List Oper} {t:List (Nat×List Nat)} {K:Env->List aq->Prop}:∀(l:List (Nat×Bool)) (a:List (Nat×List Nat)) (env:Env) (h:List aq),fw P T all t K l a env h->Tl P T all t K l a env h
 | [],_,_,_,hp=>hp
 | (i,true)::r,a,env,h,hp=>by
  have hp:(match all[i]? with
   | some o=>zn P T all true o (λenv' v h'=>fw P T all t K r ((i,pJ env' o.op)::a) (gn env' o.dst v) h') env h
   | none=>False):=hp
  cases b:all[i]? with
  | none=>rw[b]at hp;exact hp.elim
  | some o=>
   rw[b]at hp;exact⟨o,b,jV (λv h' hk=>uT r _ _ _ hk) (tG hp)⟩
 | (i,false)::r,a,env,h,hp=>by
  have hp:(match all[i]? with
   | some o=>zn P T all false o (λenv' v h'=>tF (gZ t i) h h' (fw P T all t K r a (gn env' o.dst v) h') a) env h
   | none=>False):=hp
  cases b:all[i]? with
  | none=>rw[b]at hp;exact hp.elim
  | some o=>
   rw[b]at hp;refine⟨o,b,jV (λv h' hk=>?_) (tG hp)⟩;obtain⟨h1,h2⟩:=rE _ hk;exact⟨h1,uT r _ _ _ h2⟩
theorem BK {all:List Oper} {t:List (Nat×List Nat)} {K:Env->List aq->Prop}:∀(l:List (Nat×Bool)) (a b:List (Nat×List Nat)) (env:Env) (h:List aq),(∀x,x∈b->x∈a)->Tl P T all t K l a env h->Tl P T all t K l b env h
 | [],_,_,_,_,_,hp=>hp
 | (i,st)::r,a,b,env,h,hs,hp=>by
  obtain⟨o,c,hp⟩:=hp;refine⟨o,c,jV (λv h' hk=>?_) hp⟩;cases st with
  | true=>exact BK r _ _ _ _ (λx hx=>by simp only[aOz]at hx ⊢;exact hx.imp id (hs x)) hk
  | false=>exact⟨λj ids hj=>hk.1 j ids (hs _ hj),BK r _ _ _ _ hs hk.2⟩
theorem J2 {env:Env} {d e:Option Nat} {u v:PV} (b:∀x,d=some x->e≠some x):gn (gn env d u) e v=gn (gn env e v) d u:=by
 cases d with
 | none=>rfl
 | some x=>
  cases e with
  | none=>rfl
  | some y=>
   have a:x≠y:=λhe=>b x rfl (by rw[he]);funext j;simp only[gn,sT];cases h1:Nat.beq j y with
   | true=>
    have:=abL h1;subst this;cases h2:Nat.beq j x with
    | true=>exact absurd (abL h2).symm a
    | false=>rfl
   | false=>cases h2:Nat.beq j x<;>rfl
theorem yu {env:Env} {d:Option Nat} {v:PV} {l:List Nat} (a:∀x,d=some x->x∉l):∀t,t∈l->env t=gn env d v t:=λt b=>by
 cases d with
 | none=>rfl
 | some x=>
  have:t≠x:=λhe=>a x rfl (he▸b);simp only[gn,sT];cases h2:Nat.beq t x with
  | true=>exact absurd (abL h2) this
  | false=>rfl
theorem PG {ops:Array Oper} {t:List (Nat×List Nat)} {K:Env->List aq->Prop} {i:Nat} {st:Bool} {b:Oper} (l:ops.toList[i]? =some b):
  ∀(e f:List (Nat×Bool)) (g:List (Nat×List Nat)) (env:Env) (h:List aq),(∀p,p∈e->p.2=true/\rl (gZ t i) p.1=false/\yq ops p.1 i=true)->Tl P T ops.toList t K (e++(i,st)::f) g env h->
   fs P T ops.toList st b (λv h'=>(st=true->h'=h)/\(st=false->∀j ids,(j,ids)∈g->rl (gZ t i) j=false->∀id,id∈ids->eJ h id=eJ h' id)/\Tl P T ops.toList t K (e++f) g (gn env b.dst v) h') env h
 | [],f,g,env,h,_,hp=>by
  obtain⟨o,c,hp⟩:=hp;rw[l]at c;injection c with c;subst c;cases st with
  | true=>
   obtain⟨v,h1,h2⟩:=LY hp;exact h2 env h _ (λ_ _=>rfl) (λ_ _=>rfl) ⟨λ_=>rfl,λhc=>Bool.noConfusion hc,BK _ _ _ _ _ (λx hx=>aOR _ hx) h1⟩
  | false=>exact jV (λv h' hk=>⟨λhc=>Bool.noConfusion hc,λ_=>hk.1,hk.2⟩) hp
 | (a,y)::e,f,g,env,h,s,hp=>by
  obtain⟨h1,h2,k⟩:=s (a,y) aRN;simp only at h1 h2 k;subst h1;obtain⟨o,c,hp⟩:=hp
  have m:Oper.apart ops o b=true:=by
   unfold yq at k;have z:ops[a]? =some o:=by simpa using c
   have e2:ops[i]? =some b:=by simpa using l
   rw[z,e2]at k;exact k
  obtain⟨a1,A,B⟩:=Oper.apart_spec m;obtain⟨u,k1,C⟩:=LY hp;have D:=PG l e f _ _ h (λp hp=>s p (aOR _ hp)) k1;have n:=af6 (env':=env) (λx hx=>(yu (λd hd=>a1 d hd) x hx).symm) D;refine jV (λv h' hk=>⟨hk.1,λhc j ids hj=>hk.2.1 hc j ids (aOR _ hj),?_⟩) n
  have q:∀id,id∈pJ env o.op->eJ h id=eJ h' id:=λid hid=>by
   cases st with
   | true=>rw[hk.1 rfl]
   | false=>exact hk.2.1 rfl a _ aRN h2 id hid
  have w:∀x,x∈o.looksAt ops->env x=gn env b.dst v x:=yu (λd hd=>B d hd);refine⟨o,c,C _ h' _ w q ?_⟩
  have r:pJ (gn env b.dst v) o.op=pJ env o.op:=by
   exact Hd (BH w)
  simp only;rw[r,J2 (λx hx=>(λhe=>A x he hx):∀x,b.dst=some x->o.dst≠some x)];exact hk.2.2
def oB (P:Program) (T:sf) (all:List Oper) (t:List (Nat×List Nat)) (E:List (Nat×List Nat)->Env->List aq->Prop):List (Nat×Bool)->List (Nat×List Nat)->Env->List aq->Prop
 | [],a,env,h=>E a env h
 | (i,st)::r,a,env,h=>∃o,all[i]? =some o/\fs P T all st o (λv h'=>match st with
   | true=>oB P T all t E r ((i,pJ env o.op)::a) (gn env o.dst v) h'
   | false=>(∀j ids,(j,ids)∈a->rl (gZ t i) j=false->∀id,id∈ids->eJ h id=eJ h' id)/\oB P T all t E r a (gn env o.dst v) h') env h
def wB (E:List (Nat×List Nat)->Env->List aq->Prop):Prop:=∀(a b:List (Nat×List Nat)) (env:Env) (h:List aq),(∀x,x∈b->x∈a)->E a env h->E b env h
theorem yv {all:List Oper} {t:List (Nat×List Nat)} {E:List (Nat×List Nat)->Env->List aq->Prop} (c:wB E):∀(l:List (Nat×Bool)) (a b:List (Nat×List Nat)) (env:Env) (h:List aq),(∀x,x∈b->x∈a)->oB P T all t E l a env h->oB P T all t E l b env h
 | [],a,b,_,_,hs,hp=>c a b _ _ hs hp
 | (i,st)::r,a,b,env,h,hs,hp=>by
  obtain⟨o,d,hp⟩:=hp;refine⟨o,d,jV (λv h' hk=>?_) hp⟩;cases st with
  | true=>exact yv c r _ _ _ _ (λx hx=>by simp only[aOz]at hx ⊢;exact hx.imp id (hs x)) hk
  | false=>exact⟨λj ids hj=>hk.1 j ids (hs _ hj),yv c r _ _ _ _ hs hk.2⟩
theorem yr {ops:Array Oper} {t:List (Nat×List Nat)} {E:List (Nat×List Nat)->Env->List aq->Prop} (s:wB E) {i:Nat} {st:Bool} {b:Oper} (l:ops.toList[i]? =some b):
  ∀(e f:List (Nat×Bool)) (g:List (Nat×List Nat)) (env:Env) (h:List aq),(∀p,p∈e->p.2=true/\rl (gZ t i) p.1=false/\yq ops p.1 i=true)->oB P T ops.toList t E (e++(i,st)::f) g env h->
   fs P T ops.toList st b (λv h'=>(st=true->h'=h)/\(st=false->∀j ids,(j,ids)∈g->rl (gZ t i) j=false->∀id,id∈ids->eJ h id=eJ h' id)/\oB P T ops.toList t E (e++f) g (gn env b.dst v) h') env h
 | [],f,g,env,h,_,hp=>by
  obtain⟨o,c,hp⟩:=hp;rw[l]at c;injection c with c;subst c;cases st with
  | true=>
   obtain⟨v,h1,h2⟩:=LY hp;exact h2 env h _ (λ_ _=>rfl) (λ_ _=>rfl) ⟨λ_=>rfl,λhc=>Bool.noConfusion hc,yv s _ _ _ _ _ (λx hx=>aOR _ hx) h1⟩
  | false=>exact jV (λv h' hk=>⟨λhc=>Bool.noConfusion hc,λ_=>hk.1,hk.2⟩) hp
 | (a,z)::e,f,g,env,h,w,hp=>by
  obtain⟨h1,h2,k⟩:=w (a,z) aRN;simp only at h1 h2 k;subst h1;obtain⟨o,c,hp⟩:=hp
  have m:Oper.apart ops o b=true:=by
   unfold yq at k;have A:ops[a]? =some o:=by simpa using c
   have e2:ops[i]? =some b:=by simpa using l
   rw[A,e2]at k;exact k
  obtain⟨a1,B,C⟩:=Oper.apart_spec m;obtain⟨u,k1,D⟩:=LY hp;have F:=yr s l e f _ _ h (λp hp=>w p (aOR _ hp)) k1;have n:=af6 (env':=env) (λx hx=>(yu (λd hd=>a1 d hd) x hx).symm) F;refine jV (λv h' hk=>⟨hk.1,λhc j ids hj=>hk.2.1 hc j ids (aOR _ hj),?_⟩) n
  have q:∀id,id∈pJ env o.op->eJ h id=eJ h' id:=λid hid=>by
   cases st with
   | true=>rw[hk.1 rfl]
   | false=>exact hk.2.1 rfl a _ aRN h2 id hid
  have y:∀x,x∈o.looksAt ops->env x=gn env b.dst v x:=yu (λd hd=>C d hd);refine⟨o,c,D _ h' _ y q ?_⟩
  have r:pJ (gn env b.dst v) o.op=pJ env o.op:=by
   exact Hd (BH y)
  simp only;rw[r,J2 (λx hx=>(λhe=>B x he hx):∀x,b.dst=some x->o.dst≠some x)];exact hk.2.2
theorem xZ {all:List Oper} {t:List (Nat×List Nat)} {E:List (Nat×List Nat)->Env->List aq->Prop} {b:List (Nat×Bool)}:∀(l:List (Nat×Bool)) (a:List (Nat×List Nat)) (env:Env) (h:List aq),oB P T all t (λa env h=>oB P T all t E b a env h) l a env h->oB P T all t E (l++b) a env h
 | [],_,_,_,hp=>hp
 | (i,st)::r,a,env,h,hp=>by
  obtain⟨o,c,hp⟩:=hp;refine⟨o,c,jV (λv h' hk=>?_) hp⟩;cases st with
  | true=>exact xZ r _ _ _ hk
  | false=>exact⟨hk.1,xZ r _ _ _ hk.2⟩
theorem BF {all:List Oper} {t:List (Nat×List Nat)} {E b:List (Nat×List Nat)->Env->List aq->Prop} (hi:∀a env h,E a env h->b a env h):∀(l:List (Nat×Bool)) (a:List (Nat×List Nat)) (env:Env) (h:List aq),oB P T all t E l a env h->oB P T all t b l a env h
 | [],_,_,_,hp=>hi _ _ _ hp
 | (i,st)::r,a,env,h,hp=>by
  obtain⟨o,c,hp⟩:=hp;refine⟨o,c,jV (λv h' hk=>?_) hp⟩;cases st with
  | true=>exact BF hi r _ _ _ hk
  | false=>exact⟨hk.1,BF hi r _ _ _ hk.2⟩
theorem xY {all:List Oper} {t:List (Nat×List Nat)} {K:Env->List aq->Prop} {b:List (Nat×Bool)}:∀(l:List (Nat×Bool)) (a:List (Nat×List Nat)) (env:Env) (h:List aq),oB P T all t (λa env h=>Tl P T all t K b a env h) l a env h->Tl P T all t K (l++b) a env h
 | [],_,_,_,hp=>hp
 | (i,st)::r,a,env,h,hp=>by
  obtain⟨o,c,hp⟩:=hp;refine⟨o,c,jV (λv h' hk=>?_) hp⟩;cases st with
  | true=>exact xY r _ _ _ hk
  | false=>exact⟨hk.1,xY r _ _ _ hk.2⟩
theorem tE {all:List Oper} {t:List (Nat×List Nat)} {E c:List (Nat×List Nat)->Env->List aq->Prop} (hi:∀a env h,E a env h->c a env h):∀(l:List (Nat×Bool)) (a:List (Nat×List Nat)) (env:Env) (h:List aq),fwE P T all t E l a env h->oB P T all t c l a env h
 | [],_,_,_,hp=>hi _ _ _ hp
 | (i,true)::r,a,env,h,hp=>by
  have hp:(match all[i]? with
   | some o=>zn P T all true o (λenv' v h'=>fwE P T all t E r ((i,pJ env' o.op)::a) (gn env' o.dst v) h') env h
   | none=>False):=hp
  cases b:all[i]? with
  | none=>rw[b]at hp;exact hp.elim
  | some o=>
   rw[b]at hp;exact⟨o,b,jV (λv h' hk=>tE hi r _ _ _ hk) (tG hp)⟩
 | (i,false)::r,a,env,h,hp=>by
  have hp:(match all[i]? with
   | some o=>zn P T all false o (λenv' v h'=>tF (gZ t i) h h' (fwE P T all t E r a (gn env' o.dst v) h') a) env h
   | none=>False):=hp
  cases b:all[i]? with
  | none=>rw[b]at hp;exact hp.elim
  | some o=>
   rw[b]at hp;refine⟨o,b,jV (λv h' hk=>?_) (tG hp)⟩;obtain⟨h1,h2⟩:=rE _ hk;exact⟨h1,tE hi r _ _ _ h2⟩
theorem CJ {all:List Oper} {t:List (Nat×List Nat)} {K:Env->List aq->Prop} (l:List (Nat×Bool)):wB (λa env h=>Tl P T all t K l a env h):=λa b env h hs hp=>BK l a b env h hs hp
theorem sH {all:List Oper} {t:List (Nat×List Nat)} {E:List (Nat×List Nat)->Env->List aq->Prop} (b:wB E) (l:List (Nat×Bool)):wB (λa env h=>oB P T all t E l a env h):=λa c env h hs hp=>yv b l a c env h hs hp
theorem JV {E b:List (Nat×List Nat)->Env->List aq->Prop} (h1:wB E) (h2:wB b):wB (λa env h=>E a env h/\b a env h):=λa c env h hs hp=>⟨h1 a c env h hs hp.1,h2 a c env h hs hp.2⟩
end
theorem ba.mono {S S':Nat->Prop} {w w':World} (hw:∀b,S b->w'.heap[b]? =w.heap[b]?) (g:∀b,S b->S' b) {pv:PV} {v:Value} (h:ba S w pv v):ba S' w' pv v:=by
 induction h with
 | int k n=>exact .int k n
 | bool b=>exact .bool b
 | str s=>exact .str s
 | ck=>exact .ck
 | jS=>exact .jS
 | fn f=>exact .fn f
 | uE sz f a c=>exact .uE sz f a c
 | iT sz n f b off c d h1 h2 l h4 _ e=>
  exact .iT sz n f b off c d (g b h1) h2 l (λi j pv hi hj=>(World.cell?_of_block (w:=w) (hw b h1)).trans (h4 i j pv hi hj)) e
 | ia cs b off d h1 h4 _ e=>
  exact .ia cs b off d (g b h1) (λj pv hj=>(World.cell?_of_block (w:=w) (hw b h1)).trans (h4 j pv hj)) e
theorem lH.of_same {w w':World} {b k:Nat} (h:w'.heap[b]? =w.heap[b]?) (hc:lH w b k):lH w' b k:=by
 obtain⟨cur,e,z,h1,h2⟩:=hc;exact⟨cur,e,z,h.trans h1,h2⟩
theorem lH.least {w:World} {b k:Nat} (h:lH w b k):lH w b 0:=by
 obtain⟨cur,e,z,h1,h2⟩:=h;exact⟨cur,e,z,h1,aPF _⟩
theorem nU.mono {S S':Nat->Prop} {w w':World} (hw:∀b,S b->w'.heap[b]? =w.heap[b]?) (p:∀b,S b->S' b) {pv:PV} {v:Value} (h:nU S w pv v):
  (∀sz n e f F,pv=.eg sz n e f F->∀b,F b->w'.heap[b]? =w.heap[b]?)->nU S' w' pv v:=by
 induction h with
 | nil sz e f F d=>exactλ_=>.nil sz e f F d
 | PB sz n e f F b off c a cur r d s hlen hc t u x y D g z A=>
  intro hk;have hk:=hk _ _ _ _ _ rfl
  exact .PB sz n e f F b off c a cur r d ((hk b d).trans s) hlen hc t u x (λi j pv hi hj=>(y i j pv hi hj).imp_left (λq=>q.mono hw p))
   (λi j k l e' m B hi hj=>A i j k l e' m B hi hj (λ_ _ _ _ _ he o C=>by
    injection he with _ _ _ _ he;subst he;exact hk o (g i j k l e' m _ hi hj o C).1)) g z
inductive OG (G:PV->Prop):PV->Prop
 | mk (sz n:Nat) (e:TypeId) (f:Nat->List PV) (F:Nat->Prop) (h1:∀(i j:Nat) (pv:PV),i<n->(f i)[j]? =some pv->eV pv=false->G pv)
   (h2:∀(i j cW n':Nat) (e':TypeId) (f':Nat->List PV) (F':Nat->Prop),i<n->(f i)[j]? =some (.eg cW n' e' f' F')->OG G (.eg cW n' e' f' F')):OG G (.eg sz n e f F)
theorem nU.og {S S':Nat->Prop} {w:World} {G:PV->Prop} (o:∀pv v,G pv->ba S w pv v->ba S' w pv v) {pv:PV} {v:Value} (h:nU S w pv v):OG G pv->nU S' w pv v:=by
 induction h with
 | nil sz e f F d=>exactλ_=>.nil sz e f F d
 | PB sz n e f F b off c a cur p d r hlen hc s t u x B y z A=>
  intro hg;cases hg with
  | mk _ _ _ _ _ h1 h2=>
   exact .PB sz n e f F b off c a cur p d r hlen hc s t u (λi j pv hi hj=>by
    cases hx:eV pv with
    | false=>exact(x i j pv hi hj).imp_left (λq=>o pv _ (h1 i j pv hi hj hx) q)
    | true=>exact .inr (by cases pv<;>first | exact⟨_,_,_,_,_,rfl⟩ | cases hx)) (λi j g k e' l m hi hj=>A i j g k e' l m hi hj (h2 i j g k e' l m hi hj)) y z
theorem nU.all {S:Nat->Prop} {w:World} {pv:PV} {v:Value} (h:nU S w pv v):OG (λ_=>True) pv:=by
 induction h with
 | nil sz e f F d=>exact .mk sz 0 e f F (λ_ _ _ _ _ _=>trivial) (λi j _ _ _ _ _ hi=>absurd hi (aOX _))
 | PB sz n e f F b off c a cur k d l hlen hc m o p q r s t g=>exact .mk sz n e f F (λ_ _ _ _ _ _=>trivial) g
theorem nU.one {S:Nat->Prop} {w:World} {pv:PV} {v:Value} (h:nU S w pv v):v.oneCell'=true:=by cases h<;>rfl
section
variable {μ μ':Mu}{h h':List aq}{S S':Nat->Prop}{w w':World}
theorem cV.mK {pv:PV} {v:Value} (hp:ba S w pv v):cV μ h S w pv v:=by
 cases hp<;>first | exact .int _ _ | exact .bool _ | exact .str _ | exact .ck | exact .jS | exact .fn _ | exact .uE _ _ _ _ | (rename_i h1 h2 a h4 b _;first | exact .iT _ _ _ _ _ _ _ ‹_› ‹_› ‹_› ‹_› ‹_›) | exact .ia _ _ _ _ ‹_› ‹_› ‹_›
theorem cV.fr (hf:Fr μ h S w μ' h' S' w') (hm:vz μ h S w) {pv:PV} {v:Value} (hc:cV μ h S w pv v):cV μ' h' S' w' pv v:=by
 have j:∀b,S b->w'.heap[b]? =w.heap[b]?:=λb z=>hf.blocks b (hm.slt b z) (λc=>hm.apart b c z)
 have A:∀(id gen i off:Nat) (v:Value),db μ h w id gen i off v->db μ' h' w' id gen i off v:=λid gen i off v hc=>by
  unfold db at hc ⊢;obtain⟨m,hc⟩:=hc;refine⟨m,?_⟩;cases c:h[id]? with
  | none=>rw[c]at hc;exact hc.elim
  | some o=>
   cases o with
   | dead=>rw[hf.dead id c];trivial
   | row g sz n e f=>
    rw[c]at hc;have hg:=hf.FX id g sz n e f c;cases d:h'[id]? with
    | none=>rw[d]at hg;exact hg
    | some t=>
     cases t with
     | dead=>trivial
     | row r B C e' D=>
      rw[d]at hg;obtain⟨hle,x⟩:=hg;obtain⟨l,hc⟩:=hc;refine⟨aPr l hle,λhe=>?_⟩;have heq:r=g:=by omega
      obtain⟨hμ,rfl,rfl,rfl⟩:=x heq;obtain⟨h1,h2⟩:=hc aRK;refine⟨h1,?_⟩;rw[hμ];obtain⟨b,base,q1,q2,q3⟩:=h2;exact⟨b,base,q1,⟨hf.dG b _ (.inl ⟨id,g,_,_,_,_,base,c,q1⟩) q2.1,q2.2⟩,q3⟩
 cases pv with
 | own id gen off len=>
  have hc:bK μ h w id gen off len v:=hc;show bK μ' h' w' id gen off len v;unfold bK at hc ⊢;obtain⟨m,hc⟩:=hc;refine⟨m,?_⟩;cases c:h[id]? with
  | none=>rw[c]at hc;exact hc.elim
  | some o=>
   cases o with
   | dead=>rw[hf.dead id c];trivial
   | row g sz n e f=>
    rw[c]at hc;have hg:=hf.FX id g sz n e f c;cases d:h'[id]? with
    | none=>rw[d]at hg;exact hg
    | some t=>
     cases t with
     | dead=>trivial
     | row r B C e' D=>
      rw[d]at hg;obtain⟨hle,x⟩:=hg;obtain⟨l,hc⟩:=hc;refine⟨aPr l hle,λhe=>?_⟩;have heq:r=g:=by omega
      obtain⟨hμ,rfl,rfl,rfl⟩:=x heq;obtain⟨h1,h2⟩:=hc aRK;refine⟨h1,?_⟩;rw[hμ];cases y:μ id with
      | none=>rw[y]at h2;exact h2
      | some p=>
       obtain⟨b,base⟩:=p;rw[y]at h2;obtain⟨a,cap,E,h4,G,H⟩:=h2;exact⟨a,cap,E,h4,G,hf.dG b _ (.inl ⟨id,g,_,_,_,_,base,c,y⟩) H⟩
 | aA id gen i off=>exact A _ _ _ _ _ hc
 | ud f dG=>exact wL.mono (show sn μ h w f dG v from hc) (λid g u hu=>A _ _ _ _ _ hu)
 | qc id=>
  have hc:ik μ h w id v:=hc;show ik μ' h' w' id v;unfold ik at hc ⊢;obtain⟨m,hc⟩:=hc;refine⟨m,?_⟩;cases c:h[id]? with
  | none=>rw[c]at hc;exact hc.elim
  | some o=>
   cases o with
   | dead=>rw[hf.dead id c];trivial
   | row g sz n e f=>
    rw[c]at hc;obtain⟨b,base,q1,q2,q3⟩:=hc;obtain⟨r1,q⟩:=hf.maps id g sz n e f b base c q1 q2;rcases q with q | ⟨⟨r,B,C,e',D,q⟩,I⟩
    ·rw[q];trivial
    ·rw[q];exact⟨b,base,I,r1,q3⟩
 | j3=>exact hc
 | eg sz n e f F=>exact hc
 | agg cs=>exact hc.elim
 | fV cs=>exact hc.elim
 | int k n=>exact ba.mono j hf.sub hc
 | bool b=>exact ba.mono j hf.sub hc
 | str s=>exact ba.mono j hf.sub hc
 | ck=>exact ba.mono j hf.sub hc
 | jS=>exact ba.mono j hf.sub hc
 | iT sz n f=>exact ba.mono j hf.sub hc
 | ia cs=>exact ba.mono j hf.sub hc
 | fn f=>exact ba.mono j hf.sub hc
theorem ky.fr (hf:Fr μ h S w μ' h' S' w') (hm:vz μ h S w) {pv:PV} {v:Value} (hc:ky μ h S w pv v):ky μ' h' S' w' pv v:=by
 cases pv with
 | agg cs=>
  obtain⟨vs,h1,h2,a⟩:=hc;exact⟨vs,h1,h2,λj pv hj=>let⟨u,hu,c⟩:=a j pv hj;⟨u,hu,c.fr hf hm⟩⟩
 | int k n=>exact cV.fr (pv:=.int k n) hf hm hc
 | bool b=>exact cV.fr (pv:=.bool b) hf hm hc
 | str s=>exact cV.fr (pv:=.str s) hf hm hc
 | ck =>exact cV.fr (pv:=.ck) hf hm hc
 | jS=>exact cV.fr (pv:=.jS) hf hm hc
 | iT sz n f=>exact cV.fr (pv:=.iT sz n f) hf hm hc
 | ia cs=>exact cV.fr (pv:=.ia cs) hf hm hc
 | own id gen off len=>exact cV.fr (pv:=.own id gen off len) hf hm hc
 | aA id gen i off=>exact cV.fr (pv:=.aA id gen i off) hf hm hc
 | qc id=>exact cV.fr (pv:=.qc id) hf hm hc
 | ud f dG=>exact cV.fr (pv:=.ud f dG) hf hm hc
 | fn f=>exact cV.fr (pv:=.fn f) hf hm hc
 | j3=>trivial
 | eg sz n e f F=>exact cV.fr (pv:=.eg sz n e f F) hf hm hc
 | fV cs=>exact(show False from hc).elim
theorem cj.fr (hf:Fr μ h S w μ' h' S' w') (hm:vz μ h S w) {pv:PV} {v:Value} (hc:cj μ h S w pv v):cj μ' h' S' w' pv v:=by
 cases pv with
 | fV cs=>
  obtain⟨vs,h1,h2,a⟩:=hc;exact⟨vs,h1,h2,λj pv hj=>let⟨u,hu,c⟩:=a j pv hj;⟨u,hu,c.fr hf hm⟩⟩
 | int k n=>exact ky.fr (pv:=.int k n) hf hm hc
 | bool b=>exact ky.fr (pv:=.bool b) hf hm hc
 | str s=>exact ky.fr (pv:=.str s) hf hm hc
 | ck =>exact ky.fr (pv:=.ck) hf hm hc
 | jS=>exact ky.fr (pv:=.jS) hf hm hc
 | iT sz n f=>exact ky.fr (pv:=.iT sz n f) hf hm hc
 | ia cs=>exact ky.fr (pv:=.ia cs) hf hm hc
 | own id gen off len=>exact ky.fr (pv:=.own id gen off len) hf hm hc
 | aA id gen i off=>exact ky.fr (pv:=.aA id gen i off) hf hm hc
 | qc id=>exact ky.fr (pv:=.qc id) hf hm hc
 | ud f dG=>exact ky.fr (pv:=.ud f dG) hf hm hc
 | fn f=>exact ky.fr (pv:=.fn f) hf hm hc
 | j3=>trivial
 | eg sz n e f F=>exact ky.fr (pv:=.eg sz n e f F) hf hm hc
 | agg cs=>exact ky.fr (pv:=.agg cs) hf hm hc
theorem ba.one {pv:PV} {v:Value} (hp:ba S w pv v):v.oneCell'=true:=by cases hp<;>rfl
theorem cV.one {pv:PV} {v:Value} (hc:cV μ h S w pv v):v.oneCell'=true:=by
 cases pv with
 | own id gen off len=>
  obtain⟨⟨a,l,c,rfl⟩,_⟩:=(show bK μ h w id gen off len v from hc);rfl
 | aA id gen i off=>
  obtain⟨⟨a,rfl⟩,_⟩:=(show db μ h w id gen i off v from hc);rfl
 | qc id=>
  obtain⟨⟨a,rfl⟩,_⟩:=(show ik μ h w id v from hc);rfl
 | ud f dG=>
  obtain⟨vs,rfl,_⟩:=(show sn μ h w f dG v from hc);rfl
 | j3=>exact hc
 | eg sz n e f F=>exact hc
 | agg cs=>exact(show False from hc).elim
 | fV cs=>exact(show False from hc).elim
 | int k n=>exact ba.one (show ba S w _ v from hc)
 | bool b=>exact ba.one (show ba S w _ v from hc)
 | str s=>exact ba.one (show ba S w _ v from hc)
 | ck=>exact ba.one (show ba S w _ v from hc)
 | jS=>exact ba.one (show ba S w _ v from hc)
 | iT sz n f=>exact ba.one (show ba S w _ v from hc)
 | ia cs=>exact ba.one (show ba S w _ v from hc)
 | fn f=>exact ba.one (show ba S w _ v from hc)
theorem qT.c {pv:PV} {v:Value} (hc:qT μ h S w pv v):cV μ h S w pv v:=by
 cases pv with
 | eg sz n e f F=>exact nU.one (show nU S w (.eg sz n e f F) v from hc)
 | _=>exact hc
theorem cV.k {pv:PV} {v:Value} (hc:cV μ h S w pv v) (a:eV pv=false):qT μ h S w pv v:=by
 cases pv with
 | eg sz n e f F=>cases a
 | _=>exact hc
theorem qT.fr (hf:Fr μ h S w μ' h' S' w') (hm:vz μ h S w) {pv:PV} {v:Value} (d:∀sz n e f F,pv=.eg sz n e f F->∀b,F b->w'.heap[b]? =w.heap[b]?) (hc:qT μ h S w pv v):qT μ' h' S' w' pv v:=by
 cases pv with
 | eg sz n e f F=>exact nU.mono (λb a=>hf.blocks b (hm.slt b a) (λg=>hm.apart b g a)) hf.sub (show nU S w (.eg sz n e f F) v from hc) d
 | _=>exact(cV.fr hf hm (qT.c hc)).k rfl
theorem Br {id i j b:Nat}:¬eK [] id i j b:=λ⟨_,_,_,_,_,_,_,_,_,_,h1,_⟩=>by simp at h1
theorem mL {μ:Mu} {b:Nat}:¬dE μ [] b:=λh=>by
 rcases h with⟨id,g,sz,n,e,f,base,h1,_⟩ | ⟨_,_,_,h1⟩
 ·simp at h1
 ·exact Br h1
theorem Fr.refl:Fr μ h S w μ h S w where
 len:=Of _
 blocks _ _ _:=rfl
 sub _ a:=a
 new _ a:=.inl a
 own _ a:=.inl a
 size:=Of _
 os:=rfl
 tape:=rfl
 output:=rfl
 FX id g sz n e f hh:=by rw[hh];exact⟨Of _,λ_=>⟨rfl,rfl,rfl,rfl⟩⟩
 dead _ hh:=hh
 dG _ _ _ hc:=hc
 maps id g sz n e f b base c hm a:=⟨a,.inr ⟨⟨g,sz,n,e,f,c⟩,hm⟩⟩
 ze b id i j hh a:=a
theorem Fr.trans {μ'':Mu} {o:List aq} {s:Nat->Prop} {t:World} (a:Fr μ h S w μ' h' S' w') (b:Fr μ' h' S' w' μ'' o s t):Fr μ h S w μ'' o s t where
 len:=aPr a.len b.len
 blocks k hk H:=(b.blocks k (aOE hk a.size) (λu=>by
  rcases a.own k u with h1 | h1
  ·exact H h1
  ·omega)).trans (a.blocks k hk H)
 sub k hk:=b.sub k (a.sub k hk)
 new k hk:=by
  rcases b.new k hk with h1 | h1 | h1
  ·exact a.new k h1
  ·rcases a.own k h1 with h2 | h2
   ·exact .inr (.inl h2)
   ·exact .inr (.inr h2)
  ·exact .inr (.inr (aPr a.size h1))
 own k hk:=by
  rcases b.own k hk with h1 | h1
  ·exact a.own k h1
  ·exact .inr (aPr a.size h1)
 size:=aPr a.size b.size
 os:=b.os.trans a.os
 tape:=b.tape.trans a.tape
 output:=b.output.trans a.output
 FX id g sz n e f hh:=by
  have h1:=a.FX id g sz n e f hh;cases d:h'[id]? with
  | none=>rw[d]at h1;exact h1.elim
  | some J=>
   cases J with
   | dead=>rw[b.dead id d];trivial
   | row l p q e' r=>
    rw[d]at h1;have h2:=b.FX id l p q e' r d;cases m:o[id]? with
    | none=>rw[m]at h2;exact h2
    | some A=>
     cases A with
     | dead=>trivial
     | row B I K L M=>
      rw[m]at h2;refine⟨aPr h1.1 h2.1,λhe=>?_⟩;have N:l=g:=by have:=h1.1;have:=h2.1;omega
      have e2:B=l:=by omega
      obtain⟨O,P,Q,R⟩:=h1.2 N;obtain⟨y1,T,U,V⟩:=h2.2 e2;exact⟨y1.trans O,T.trans P,U.trans Q,V.trans R⟩
 dead id hh:=b.dead id (a.dead id hh)
 dG k c u hc:=by
  have h1:=a.dG k c u hc;by_cases h2:dE μ' h' k
  ·exact b.dG k c h2 h1
  ·refine lH.of_same (b.blocks k ?_ h2) h1;obtain⟨cur,e,z,C,_⟩:=h1;exact(amb.1 C).1
 maps id g sz n e f k base u hm D:=by
  obtain⟨h1,h2⟩:=a.maps id g sz n e f k base u hm D;rcases h2 with h2 | ⟨⟨l,p,q,e',r,h2⟩,C⟩
  ·refine⟨?_,.inl (b.dead id h2)⟩;by_cases h4:dE μ' h' k
   ·rcases h4 with⟨j,l,p,q,e',r,E,F,G⟩ | ⟨j,x,y,h4⟩
    ·exact(b.maps j l p q e' r k E F G h1).1
    ·exact b.ze k j x y h4 h1
   ·obtain⟨es,c,v⟩:=h1;exact⟨es,c,(b.blocks k (amb.1 v).1 h4).trans v⟩
  ·exact b.maps id l p q e' r k base h2 C h1
 ze k id i j hh D:=by
  have h1:=a.ze k id i j hh D;by_cases h4:dE μ' h' k
  ·rcases h4 with⟨j,l,p,q,e',r,E,F,G⟩ | ⟨j,x,y,h4⟩
   ·exact(b.maps j l p q e' r k E F G h1).1
   ·exact b.ze k j x y h4 h1
  ·obtain⟨es,c,v⟩:=h1;exact⟨es,c,(b.blocks k (amb.1 v).1 h4).trans v⟩
structure dt (w w':World):Prop where
 blocks:∀b,b<w.heap.size->w'.heap[b]? =w.heap[b]?
 size:w.heap.size<=w'.heap.size
 os:w'.os=w.os
 tape:w'.tape=w.tape
 output:w'.output=w.output
theorem dt.refl (w:World):dt w w:=⟨λ_ _=>rfl,Of _,rfl,rfl,rfl⟩
theorem dt.trans {a b c:World} (x:dt a b) (y:dt b c):dt a c:=
 ⟨λk hk=>(y.blocks k (aOE hk x.size)).trans (x.blocks k hk),aPr x.size y.size,y.os.trans x.os,y.tape.trans x.tape,y.output.trans x.output⟩
theorem dt.cell {w w':World} (h:dt w w') {a:Addr} {u:Value} (hc:w.cell? a=some u):w'.cell? a=some u:=
 (World.cell?_of_block (w:=w) (h.blocks a.block (World.block_lt_of_cell? _ _ hc))).trans hc
theorem dt.drew (w:World):dt w w.drew:=⟨λ_ _=>rfl,Of _,rfl,rfl,rfl⟩
theorem dt.drewN (w:World) (n:Nat):dt w (w.drewN n):=⟨λ_ _=>rfl,Of _,rfl,rfl,rfl⟩
theorem lH.lt {b k:Nat} (h:lH w b k):b<w.heap.size:=by
 obtain⟨cur,e,z,h1,_⟩:=h;exact(amb.1 h1).1
theorem Fr.uk (d:dt w w'):Fr μ h S w μ h S w' where
 len:=Of _
 blocks b a _:=d.blocks b a
 sub _ a:=a
 new _ a:=.inl a
 own _ a:=.inl a
 size:=d.size
 os:=d.os
 tape:=d.tape
 output:=d.output
 FX id g sz n e f hh:=by rw[hh];exact⟨Of _,λ_=>⟨rfl,rfl,rfl,rfl⟩⟩
 dead _ hh:=hh
 dG b k _ hc:=lH.of_same (d.blocks b hc.lt) hc
 maps id g sz n e f b base m hm a:=⟨let⟨es,c,l⟩:=a;⟨es,c,(d.blocks b (amb.1 l).1).trans l⟩,.inr ⟨⟨g,sz,n,e,f,m⟩,hm⟩⟩
 ze b id i j _ a:=let⟨es,c,l⟩:=a;⟨es,c,(d.blocks b (amb.1 l).1).trans l⟩
theorem vz.Cw (hm:vz μ h S w) (a:Fr μ h S w μ' h' S' w'):TB S' w':=
 hm.known.ez (λb c=>a.blocks b (hm.slt b c) (λd=>hm.apart b d c)) a.sub
theorem vz.agree (c:dt w w') (hm:vz μ h S w):vz μ h S w':=
 ⟨hm.apart,λb a=>aOE (hm.lt b a) c.size,λb a=>aOE (hm.slt b a) c.size,hm.inj,hm.known.ez (λb a=>c.blocks b (hm.slt b a)) (λ_ a=>a),hm.hv,hm.hh⟩
theorem dB.agree (a:dt w w') (hm:vz μ h S w) (hh:dB μ h S w):dB μ h S w':=by
 intro id g sz n e f c;obtain⟨h1,h2⟩:=hh id g sz n e f c;refine⟨h1,?_⟩;cases d:μ id with
 | none=>rw[d]at h2;exact h2
 | some p=>
  obtain⟨b,base⟩:=p;rw[d]at h2;obtain⟨o,k,h4⟩:=h2;have m:b<w.heap.size:=(amb.1 k).1;exact⟨o,(a.blocks b m).trans k,h4.mono (λi j pv v hi hj q=>q.fr (Fr.uk a) hm (λr s e' t u he l x=>a.blocks l (hm.lt l (.inr ⟨id,i,j,g,sz,n,e,f,r,s,e',t,u,c,hi,by rw[hj,he],x⟩))))⟩
end
end Go.Am
