/- Texts of the proof, joined and shortened. -/
import Derived.WalkKit
import Derived.Deep.Draws
import Derived.Deep.Quiet
namespace Go.Am
open Go Go.RowKit
set_option linter.unusedVariables false
abbrev An:=@if_neg
abbrev As:=@if_pos
abbrev Is:=@List.getElem?_eq_some_iff
abbrev No:=@Bool.and_eq_true
abbrev abF:=@List.getElem?_eq_getElem
abbrev ahx:=@Nat.zero_add
abbrev ahy:=@Nat.le_refl
abbrev ahz:=@Nat.eq_of_beq_eq_true
abbrev ahA:=@List.getD_eq_getElem?_getD
abbrev ahB:=@Array.getElem?_eq_some_iff
abbrev ahC:=@List.all_eq_true
abbrev ahD:=@List.getElem_mem
abbrev ahE:=@List.map_cons
abbrev ahF:=@Int.toNat_natCast
abbrev ahG:=@decide_eq_false
abbrev ahH:=@Nat.mul_le_mul_right
abbrev ahI:=@decide_eq_true
abbrev ahJ:=@List.mem_of_getElem?
abbrev ahK:=@Nat.add_mul
abbrev ahL:=@List.mem_append
abbrev ahM:=@List.mem_cons
abbrev ahN:=@List.length_cons
abbrev ahO:=@List.getElem?_eq_none
abbrev ahP:=@Nat.not_lt_zero
abbrev ahQ:=@List.getElem?_set_ne
abbrev ahR:=@List.map_nil
abbrev ahS:=@Nat.lt_of_lt_of_le
abbrev ahT:=@List.getElem?_map
abbrev ahU:=@List.getElem?_append_right
abbrev ahV:=@Array.getElem?_toList
abbrev ahW:=@Nat.le_of_ble_eq_true
abbrev ahX:=@Array.getElem?_eq_getElem
abbrev ahY:=@List.drop_eq_getElem_cons
abbrev ahZ:=@List.mem_cons_of_mem
abbrev aia:=@List.getElem?_append_left
abbrev aib:=@List.drop_zero
abbrev aic:=@Bool.eq_iff_iff
abbrev aid:=@Bool.not_eq_true'
abbrev aie:=@List.eq_nil_of_length_eq_zero
abbrev aif:=@List.mem_map
abbrev aih:=@Nat.zero_le
abbrev aii:=@List.length_nil
abbrev aij:=@decide_eq_true_eq
abbrev aik:=@List.drop_eq_nil_of_le
abbrev ail:=@Array.getElem?_append_left
abbrev aim:=@Option.some.inj
abbrev ain:=@List.getElem?_set_self
abbrev aio:=@beq_iff_eq
abbrev aip:=@Nat.lt_or_ge
abbrev aiq:=@Nat.eq_zero_or_pos
abbrev air:=@Nat.le_trans
abbrev ais:=@Array.length_toList
abbrev ait:=@List.append_assoc
abbrev aiu:=@List.getElem?_cons_succ
abbrev aiv:=@Nat.add_zero
abbrev aiw:=@List.mem_iff_getElem
abbrev aix:=@Array.eq_empty_of_size_eq_zero
abbrev aiy:=@List.length_append
abbrev aiz:=@if_true
abbrev aiA:=@List.all_cons
abbrev aiB:=@Bool.true_and
abbrev aiC:=@List.nil_append
abbrev aiD:=@Bool.or_eq_true
abbrev aiE:=@List.getElem?_drop
abbrev aiF:=@decide_eq_true_iff
abbrev aiG:=@List.getElem?_set
abbrev aiH:=@List.length_set
abbrev aiI:=@Ne.symm
abbrev aiJ:=@List.getElem?_cons_zero
abbrev aiK:=@decide_eq_false_iff_not
abbrev aiL:=@List.append_nil
abbrev aiM:=@Nat.sub_self
abbrev aiN:=@Bool.false_or
abbrev aiO:=@if_false
abbrev aiP:=@Bool.false_eq_true
abbrev aiQ:=@List.mem_singleton
abbrev aiR:=@Bool.false_ne_true
abbrev aiS:=@List.map_append
abbrev aiT:=@List.ext_getElem?
abbrev aiU:=@Bool.eq_false_iff
abbrev aiV:=@List.cons_append
abbrev aiW:=@Bool.false_and
abbrev aiX:=@Nat.beq_refl
abbrev aiY:=@List.length_map
abbrev aiZ:=@List.getElem?_nil
abbrev aja:=@of_decide_eq_true
abbrev ajb:=@List.getElem_append_right
abbrev ajc:=@List.length_drop
abbrev ajd:=@List.getElem_append_left
abbrev aje:=@List.take_append_getElem
abbrev ajf:=@beq_eq_false_iff_ne
abbrev ajg:=@Bool.and_true
abbrev ajh:=@Nat.eq_or_lt_of_le
abbrev aji:=@List.drop_of_length_le
abbrev ajj:=@Array.size_append
abbrev ajk:=@List.mem_range
abbrev ajl:=@List.getElem?_toArray
abbrev ajm:=@Array.getElem?_modify
abbrev ajn:=@List.drop_succ_cons
abbrev ajo:=@Option.map_some
abbrev ajp:=@List.getElem?_take
abbrev ajq:=@Array.getElem?_map
abbrev ajr:=@Array.empty_append
abbrev ajs:=@Nat.lt_of_lt_of_eq
abbrev ajt:=@Bool.true_or
abbrev aju:=@Nat.lt_succ_iff_lt_or_eq
abbrev ajv:=@cond_false
abbrev ajw:=@Int.le_refl
abbrev ajx:=@List.any_cons
abbrev ajy:=@List.map_toArray
abbrev ajz:=@List.length_take
abbrev ajA:=@List.drop_length
abbrev ajB:=@decide_eq_decide
abbrev ajC:=@Array.getElem?_setIfInBounds_ne
abbrev ajD:=@Nat.zero_lt_one
abbrev ajE:=@bne_iff_ne
abbrev ajF:=@Bool.and_false
abbrev ajG:=@List.set_cons_zero
abbrev ajH:=@List.set_cons_succ
abbrev ajI:=@cond_true
abbrev ajJ:=@Nat.add_assoc
abbrev ajK:=@Decidable.not_not
abbrev ajL:=@Nat.not_lt
abbrev ajM:=@List.reverse_nil
abbrev ajN:=@Option.getD_some
abbrev ajO:=@List.ext_getElem
abbrev ajP:=@List.getElem_map
abbrev ajQ:=@Option.bind_some
abbrev ajR:=@Nat.le_of_eq
abbrev ajS:=@Nat.lt_succ_self
abbrev ajT:=@List.not_mem_nil
abbrev ajU:=@Bool.or_true
abbrev ajV:=@List.take_length
abbrev ajW:=@UInt8.not_lt
theorem ajX {p:Prop} (h:p:=by
  obtain rfl:=si h;replace h:=c8;exact eI h):p:=h
theorem ajY {p:Prop} (h:p:=by
  obtain rfl:=si h;replace h:=kg;exact eB h):p:=h
theorem ajZ {p:Prop} (h:p:=by
  rintro _ _ ⟨y1,rfl,rfl,rfl⟩;replace h:=c8;exact .d (eI h)):p:=h
theorem aka {p:Prop} (h:p:=by
  obtain rfl:=si h;replace h:=oT;exact eB h):p:=h
theorem akb {p:Prop} (h:p:=by
  obtain rfl:=si rF;exact en [0] ⟨rfl,rfl⟩ yv ss):p:=h
theorem akc {p:Prop} (h:p:=by
  rintro _ _ ⟨y2,rfl,rfl,rfl⟩;replace h:=vR;exact .d (eI h)):p:=h
theorem akd {p:Prop} (h:p:=by
  rintro _ _ ⟨rfl,rfl,rfl⟩;replace h:=c8;exact .d (eB h)):p:=h
theorem ake {p:Prop} (h:p:=by
  obtain rfl:=si oT;exact⟨rfl,_,rfl,(en [] ⟨rfl,rfl⟩ Gn ⟨⟩)⟩):p:=h
theorem akf {p:Prop} (h:p:=by
  obtain rfl:=si sy;exact en [] ⟨rfl,rfl⟩ yv ⟨⟩):p:=h
theorem akg {p:Prop} (h:p:=by
  obtain rfl:=si sy;exact en [] ⟨rfl,rfl⟩ .z ⟨⟩):p:=h
theorem akh {p:Prop} (h:p:=by
  obtain rfl:=si h;replace h:=yG;exact eB h):p:=h
theorem aki {p:Prop} (h:p:=by
  obtain rfl:=si h;replace h:=H8;exact eB h):p:=h
theorem akj {p:Prop} (h:p:=by
  obtain rfl:=si oT;exact⟨rfl,_,rfl,(en [] ⟨rfl,rfl⟩ AR ⟨⟩)⟩):p:=h
theorem akk {p:Prop} (h:p:=by
  obtain rfl:=si h;replace h:=vR;exact eI h):p:=h
theorem akl {p:Prop} (h:p:=by
  obtain rfl:=si h;replace h:=c8;exact eB h):p:=h
theorem akm {p:Prop} (h:p:=by
  obtain rfl:=si h;replace h:=vR;exact eB h):p:=h
theorem akn {p:Prop} (h:p:=by
  obtain rfl:=si Ih;exact en [0] ⟨rfl,rfl⟩ .z ss):p:=h
theorem ako {p:Prop} (h:p:=by
  obtain rfl:=si Ct;exact en [] ⟨rfl,rfl⟩ Pk ⟨⟩):p:=h
theorem akp {p:Prop} (h:p:=by
  obtain rfl:=si oT;exact en [0,1,2,3] ⟨oh,vD,rfl,rfl⟩ .b Pg):p:=h
theorem akq {p:Prop} (h:p:=by
  rintro _ _ ⟨rfl,rfl,rfl⟩;replace h:=oT;exact .d (eI h)):p:=h
theorem akr {p:Prop} (h:p:=by
  obtain rfl:=si oT;exact en [0] ⟨rfl,rfl⟩ Vp ss):p:=h
theorem aks {p:Prop} (h:p:=by
  obtain rfl:=si UU;exact en [0] ⟨rfl,rfl⟩ .z ss):p:=h
theorem akt {p:Prop} (h:p:=by
  obtain rfl:=si Wk;exact en [] ⟨rfl,rfl⟩ Rh ⟨⟩):p:=h
theorem aku {p:Prop} (h:p:=by
  obtain rfl:=si c8;exact en [] ⟨rfl,rfl⟩ yu ⟨⟩):p:=h
theorem akv {p:Prop} (h:p:=by
  obtain rfl:=si PM;exact en [] ⟨rfl,rfl⟩ .z ⟨⟩):p:=h
theorem akw {p:Prop} (h:p:=by
  obtain⟨dst,op,ty,pos,after,guard⟩:=o;subst hg;exact hp):p:=h
theorem akx {p:Prop} (h:p:=by
  obtain rfl:=si h;replace h:=oT;exact eI h):p:=h
theorem aky {p:Prop} (h:p:=by
  obtain rfl:=si h;replace h:=xR;exact eB h):p:=h
theorem akz {p:Prop} (h:p:=by
  obtain rfl:=si h;replace h:=FH;exact eB h):p:=h
theorem akA {p:Prop} (h:p:=by
  obtain rfl:=si h;replace h:=C9;exact eB h):p:=h
theorem akB {p:Prop} (h:p:=by
  obtain rfl:=si h;replace h:=rF;exact eB h):p:=h
theorem akC {p:Prop} (h:p:=by
  obtain rfl:=si h;exact en [] ⟨rfl,rfl⟩ tO ⟨⟩):p:=h
theorem akD {p:Prop} (h:p:=by
  obtain rfl:=si h;exact⟨rfl,_,rfl,(en [] ⟨rfl,rfl⟩ Gn ⟨⟩)⟩):p:=h
theorem akE {p:Prop} (h:p:=by
  obtain rfl:=si h;exact⟨rfl,_,rfl,(en [] ⟨rfl,rfl⟩ Cb ⟨⟩)⟩):p:=h
theorem akF {p:Prop} (h:p:=by
  obtain rfl:=si h;exact⟨rfl,_,rfl,(en [] ⟨rfl,rfl⟩ AR ⟨⟩)⟩):p:=h
theorem akG {p:Prop} (h:p:=by
  obtain rfl:=si h;exact en [] ⟨rfl,rfl⟩ yu ⟨⟩):p:=h
theorem akH {p:Prop} (h:p:=by
  obtain rfl:=si h;exact en [] ⟨rfl,rfl⟩ Cc ⟨⟩):p:=h
theorem akI {p:Prop} (h:p:=by
  obtain rfl:=si h;exact⟨rfl,_,rfl,(en [] ⟨rfl,rfl⟩ JJ ⟨⟩)⟩):p:=h
theorem akJ {p:Prop} (h:p:=by
  obtain rfl:=si h;exact en [0] ⟨f3,d4,rfl,rfl⟩ .i mq):p:=h
theorem akK {p:Prop} (h:p:=by
  obtain rfl:=si h;exact⟨rfl,_,rfl,(en [] ⟨rfl,rfl⟩ L6 ⟨⟩)⟩):p:=h
theorem akL {p:Prop} (h:p:=by
  obtain rfl:=si h;exact⟨rfl,_,rfl,(en [2,3,4,5] ⟨rfl,rfl⟩ Hu Hx)⟩):p:=h
theorem akM {p:Prop} (h:p:=by
  obtain rfl:=si h;exact en [0] ⟨rfl,rfl⟩ .o kQ):p:=h
theorem akN {p:Prop} (h:p:=by
  obtain rfl:=si h;exact⟨rfl,_,rfl,(en [] ⟨rfl,rfl⟩ Re ⟨⟩)⟩):p:=h
theorem akO {p:Prop} (h:p:=by
  obtain rfl:=si h;exact en [] ⟨rfl,rfl⟩ .r ⟨⟩):p:=h
theorem akP {p:Prop} (h:p:=by
  obtain rfl:=si h;exact en [0] ⟨rfl,rfl⟩ .g ⟨gh,⟨⟩⟩):p:=h
theorem akQ {p:Prop} (h:p:=by
  replace h:=DF;exact akh):p:=h
theorem akR {p:Prop} (h:p:=by
  replace h:=DH;exact aki):p:=h
theorem akS {p:Prop} (h:p:=by
  obtain rfl:=si h;exact akb):p:=h
theorem akT {p:Prop} (h:p:=by
  obtain rfl:=si h;exact en [0] ⟨f5,d6.self,rfl,rfl⟩ (.oe) tR):p:=h
theorem akU {p:Prop} (h:p:=by
  obtain rfl:=si h;exact⟨rfl,_,rfl,(en [] ⟨rfl,rfl⟩ YB ⟨⟩)⟩):p:=h
theorem akV {p:Prop} (h:p:=by
  obtain rfl:=si h;exact akf):p:=h
theorem akW {p:Prop} (h:p:=by
  obtain rfl:=si h;exact akg):p:=h
theorem akX {p:Prop} (h:p:=by
  replace h:=NL;exact ajY):p:=h
theorem akY {p:Prop} (h:p:=by
  obtain rfl:=si h;exact ake):p:=h
theorem akZ {p:Prop} (h:p:=by exact ct ⟨_,si h,rfl,rfl⟩ (tk [0] dK bB)):p:=h
theorem ala {p:Prop} (h:p:=by exact .d (eI h)):p:=h
theorem alb {p:Prop} (h:p:=by exact .d (eB h)):p:=h
theorem alc {p:Prop} (h:p:=by exact hp.elim):p:=h
theorem ald {p:Prop} (h:p:=by exact ct ⟨si h,rfl,rfl⟩ (tk [] ⟨⟩ ⟨⟩)):p:=h
theorem ale {p:Prop} (h:p:=by exact ct ⟨_,si h,rfl,rfl⟩ (tk [] kJ ⟨⟩)):p:=h
theorem alf {p:Prop} (h:p:=by exact .d ⟨rfl,rfl,_,rfl,(eI h)⟩):p:=h
theorem alg {p:Prop} (h:p:=by exact ct ⟨si h,rfl,rfl⟩ (tk [0] tS bB)):p:=h
theorem alh {p:Prop} (h:p:=by exact ct ⟨_,si h,rfl,rfl⟩ (tk [0] AS bB)):p:=h
theorem ali {p:Prop} (h:p:=by exact ct ⟨_,_,f9,d10,si h,rfl,rfl⟩ (tk [0] kJ mq)):p:=h
theorem alj {p:Prop} (h:p:=by exact .f (.f (.f (ct ⟨_,si h,rfl,rfl⟩ (tk [0,1] xN pJ))))):p:=h
theorem alk {p:Prop} (h:p:=by exact⟨_,hu,rfl,h1,ahz h2,h4,λu=>by rw[show 9999=9998+1 from rfl,Instr.checkKey];simp [run_underlying hu]⟩):p:=h
theorem alm {p:Prop} (h:p:=by exact .d ⟨rfl,rfl,_,rfl,by decide,(eI h)⟩):p:=h
theorem aln {p:Prop} (h:p:=by exact .d (.d ⟨rfl,_,_,rfl,aG,rfl,_,rfl,(en [] ⟨rfl,rfl⟩ Rg ⟨⟩)⟩)):p:=h
theorem alo {p:Prop} (h:p:=by exact⟨_,rfl,.inr ⟨z0,by unfold zS;omega,z2⟩⟩):p:=h
theorem alp {p:Prop} (h:p:=by exact ct ⟨_,si h,rfl,rfl⟩ (tk [0] JL bB)):p:=h
theorem alq {p:Prop} (h:p:=by exact ct ⟨_,si h,rfl,rfl⟩ (tk [0] JK bB)):p:=h
theorem alr {p:Prop} (h:p:=by exact⟨rfl,(.t ⟨rfl,_,rfl,(.t (.t (ct ⟨_,si h,rfl,rfl⟩ (tk [0,1] xN pJ))))⟩)⟩):p:=h
theorem als {p:Prop} (h:p:=by exact .f (.f (.f (.f (.f (.f (.f (.f (ct ⟨si h,rfl,rfl⟩ (tk [0] tS bB)))))))))):p:=h
theorem alu {p:Prop} (h:p:=by exact ct ⟨_,si h,rfl,rfl⟩ (tk [0] Hy kQ)):p:=h
theorem alv {p:Prop} (h:p:=by exact ct ⟨_,si h,rfl,rfl⟩ (tk [0,1,2] Pj QH)):p:=h
theorem alw {p:Prop} (h:p:=by exact lg (C6 _ _ _ h rfl) (tk [] mo ⟨⟩)):p:=h
theorem alx {p:Prop} (h:p:=by exact lg (uJ _ _ _ h rfl) (tk [] mo ⟨⟩)):p:=h
theorem aly {p:Prop} (h:p:=by exact .f (.f (eB h))):p:=h
theorem alz {p:Prop} (h:p:=by exact lg (Fa _ _ h rfl) (tk [] xO ⟨⟩)):p:=h
theorem alA {p:Prop} (h:p:=by exact⟨_,rfl,.inl (by decide)⟩):p:=h
theorem alB {p:Prop} (h:p:=by exact ct ⟨_,si h,rfl,rfl⟩ (tk [] Pm ⟨⟩)):p:=h
theorem alC {p:Prop} (h:p:=by exact .d ⟨rfl,rfl,_,rfl,(eB h)⟩):p:=h
theorem alD {p:Prop} (h:p:=by exact ct ⟨_,si h,rfl,rfl⟩ (tk [1,2,3,4,5,6] oR Yy)):p:=h
theorem alE {p:Prop} (h:p:=by exact⟨λhq=>As hq,λhq=>An (by rw[hq];decide)⟩):p:=h
theorem alF {p:Prop} (h:p:=by exact hc.ok.inj i j _ _ _ _ _ _ _ _ _ _ _ _ _ hi hj oQ nN):p:=h
theorem alG {p:Prop} (h:p:=by exact .f (.f (.f (eB h)))):p:=h
theorem alH {p:Prop} (h:p:=by exact .t (.t (eB h))):p:=h
theorem alI {p:Prop} (h:p:=by exact .f (.f (.f (.f (eB h))))):p:=h
theorem alJ {p:Prop} (h:p:=by exact .t (.t (.t (.t (.t (.d (eB h))))))):p:=h
theorem alK {p:Prop} (h:p:=by exact .t (.t (.t (.t (.t (.t (.t (.t (.t (.t (.d (eB h)))))))))))):p:=h
theorem alL {p:Prop} (h:p:=by exact ct ⟨_,f11,d12,si h,rfl,rfl⟩ (tk [0] ⟨.oe,⟨⟩⟩ tR)):p:=h
theorem alM {p:Prop} (h:p:=by exact .f (.f (.f (.f (.f (.f (.f (eB h)))))))):p:=h
theorem alN {p:Prop} (h:p:=by exact⟨ahy _,λ_=>⟨rfl,rfl,rfl,rfl⟩⟩):p:=h
theorem alO {p:Prop} (h:p:=by exact⟨false,rfl,rfl,λh=>by cases h⟩):p:=h
theorem alP {p:Prop} (h:p:=by exact⟨rfl,(.t ⟨rfl,_,rfl,(.t (.t (.t (eB h))))⟩)⟩):p:=h
theorem alQ {p:Prop} (h:p:=by exact⟨_,_,_,_,_,_,_,_,_,_,q1,q2,q3,q4⟩):p:=h
theorem alR {p:Prop} (h:p:=by exact⟨rfl,(.t ⟨rfl,_,rfl,(.t (.t (eB h)))⟩)⟩):p:=h
theorem alS {p:Prop} (h:p:=by exact⟨_,rfl,.inl ⟨rfl,h⟩⟩):p:=h
theorem alT {p:Prop} (h:p:=by exact ct ⟨_,si h,rfl,rfl⟩ (tk [] JN ⟨⟩)):p:=h
theorem alU {p:Prop} (h:p:=by exact .inr ⟨_,_,_,q⟩):p:=h
theorem alV {p:Prop} (h:p:=by omega):p:=h
theorem alW {p:Prop} (h:p:=by simp):p:=h
theorem alX {p:Prop} (h:p:=by simp;omega):p:=h
theorem alY {p:Prop} (h:p:=by simp [Op.operands]):p:=h
theorem alZ {p:Prop} (h:p:=by kernel_rfl):p:=h
theorem ama {p:Prop} (h:p:=by decide):p:=h
theorem amb {p:Prop} (h:p:=by simp [Region.wanted,hg,hy]):p:=h
theorem amc {p:Prop} (h:p:=by simpa using hj):p:=h
theorem amd {p:Prop} (h:p:=by simp only[Nat.reduceAdd,Nat.reducePow];omega):p:=h
theorem ame {p:Prop} (h:p:=by assumption):p:=h
theorem amf {p:Prop} (h:p:=by simpa using h2):p:=h
theorem amg {p:Prop} (h:p:=by simpa using h):p:=h
theorem amh {p:Prop} (h:p:=by simp only[ahE,ahR,shr,Fp d4];rfl):p:=h
theorem ami {p:Prop} (h:p:=by simp only[vI,nR,ahE,ahR,List.drop,ahN,aii,mT mY];rfl):p:=h
theorem amj {p:Prop} (h:p:=by simpa using hp):p:=h
theorem amk {p:Prop} (h:p:=by simpa using h1):p:=h
theorem aml {p:Prop} (h:p:=by simp [vH]):p:=h
theorem amm {p:Prop} (h:p:=by rw[<-hf i hi];exact hj):p:=h
theorem amn {p:Prop} (h:p:=by simpa using q1):p:=h
theorem amo {p:Prop} (h:p:=by simpa using hy):p:=h
theorem amp {p:Prop} (h:p:=by simp [Region.wanted,hg,vb hs hj he]):p:=h
theorem amq {p:Prop} (h:p:=by rw[he];exact hu):p:=h
theorem amr {p:Prop} (h:p:=by simpa using hq):p:=h
theorem ams {p:Prop} (h:p:=by simpa using hl):p:=h
theorem amt {p:Prop} (h:p:=by subst hy;simp [Op.operands]):p:=h
theorem amu {p:Prop} (h:p:=by simp [Op.operands];exact⟨p.1,by simpa using hp⟩):p:=h
end Go.Am
set_option linter.unusedVariables false
set_option linter.unusedSimpArgs false
namespace Go.Am
open Go
def La:List Int:=[1,10,100,1000,10000,100000,1000000,10000000,100000000,1000000000,10000000000,100000000000,1000000000000,10000000000000,100000000000000,1000000000000000,10000000000000000,100000000000000000,1000000000000000000,10000000000000000000]
def IM:List (Nat×Array Value):=[(3,(La.map λz=>Value.int .u64 z).toArray)]
def Aq:List Nat:=[1,2]
def OY:List Nat:=[0]
def Ug:Nat:=4294967295
end Go.Am
namespace Go.Am
open Go Go.RowKit
inductive PV where
 | int (k:IntKind) (n:Int)
 | bool (b:Bool)
 | str (s:List UInt8)
 | az
 | iH
 | fF (sz n:Nat) (f:Nat->List PV)
 | fC (cells:List PV)
 | own (id gen off len:Nat)
 | aF (id gen i off:Nat)
 | ke (id:Nat)
 | qE (f:Nat) (bJ:List (Nat×Nat))
 | fn (f:Nat)
 | agg (cs:List PV)
 | eG (vs:List PV)
 | jw
 | bu (sz n:Nat) (e:TypeId) (f:Nat->List PV) (F:Nat->Prop)
 deriving Inhabited
abbrev Env:=Nat->PV
inductive al where
 | row (gen sz n:Nat) (e:TypeId) (f:Nat->List PV)
 | dead
 deriving Inhabited
inductive TI where
 | int (k:IntKind)
 | bool
 | str
 | slice (e sz bytes:Nat) (zero:List PV)
 | struct (sz:Nat) (fields:List (Nat×Nat×Bool)) (zero:List PV)
 | ptr (e:Nat)
 | map (k e:Nat) (zero:PV)
 | other
 deriving Inhabited
structure rO where
 get:Nat->TI
def sB (env:Env) (t:Nat) (v:PV):Env:=λj=>bif Nat.beq j t then v else env j
def eg (env:Env) (d:Option Nat) (v:PV):Env:=match d with | some t=>sB env t v | none=>env
def CH (env:Env):List (Nat×PV)->Env
 | []=>env
 | (t,v)::r=>sB (CH env r) t v
inductive ef (b:Bool) (T F:Prop):Prop
 | mk (ht:b=true->T) (hf:b=false->F):ef b T F
theorem lD {b:Bool} {T F:Prop} (h:ef b T F):(b=true->T)/\(b=false->F):=by cases h with | mk a b=>exact⟨a,b⟩
def dh (b:Bool) (K:Prop):Prop:=match b with | true=>K | false=>False
theorem bw {b:Bool} {K:Prop} (h:dh b K):b=true/\K:=by cases b;exact h.elim;exact⟨rfl,h⟩
def rN:IntKind->IntKind->Bool
 | .i8,.i8=>true
 | .i16,.i16=>true
 | .i32,.i32=>true
 | .i64,.i64=>true
 | .u8,.u8=>true
 | .u16,.u16=>true
 | .u32,.u32=>true
 | .u64,.u64=>true
 | _,_=>false
theorem ez {k a:IntKind} (h:rN k a=true):k=a:=by cases k<;>cases a<;>first | rfl | cases h
def aax:Value->Option PV
 | .int k n=>some (.int k n)
 | .bool b=>some (.bool b)
 | .string s=>some (.str s.data.toList)
 | .slice none 0 0=>some .az
 | .pointer none=>some .iH
 | _=>none
def PS:List Value->Option (List PV)
 | []=>some []
 | v::r=>match aax v,PS r with
  | some p,some l=>some (p::l)
  | _,_=>none
def adX:Option (List PV)->PV
 | some l=>.agg l
 | none=>.jw
def ofValue:Value->PV
 | .int k n=>.int k n
 | .bool b=>.bool b
 | .string s=>.str s.data.toList
 | .slice none 0 0=>.az
 | .pointer none=>.iH
 | .agg vs=>adX (PS vs.toList)
 | _=>.jw
inductive QU:PV->PV->Prop
 | same (a:PV):QU a a
 | nil (sz:Nat) (f:Nat->List PV):QU .az (.fF sz 0 f)
 | zq (sz:Nat) (e:TypeId) (f:Nat->List PV):QU .az (.bu sz 0 e f (λ_=>False))
def ng:List PV->List PV->Prop
 | [],[]=>True
 | a::l,b::r=>QU a b/\ng l r
 | _,_=>False
def ev (env:Env):Operand->PV
 | .tmp t=>env t
 | .const v=>ofValue v
 | .func f=>.fn f
 | .global _=>.jw
abbrev Mu:=Nat->Option (Nat×Nat)
inductive aR (S:Nat->Prop) (w:World):PV->Value->Prop
 | int (k:IntKind) (n:Int):aR S w (.int k n) (.int k n)
 | bool (b:Bool):aR S w (.bool b) (.bool b)
 | str (s:List UInt8):aR S w (.str s) (.string ⟨⟨s⟩⟩)
 | az:aR S w .az (.slice none 0 0)
 | iH:aR S w .iH (.pointer none)
 | fn (f:Nat):aR S w (.fn f) (.func (.func f) #[] #[])
 | qH (sz:Nat) (f:Nat->List PV) (a:Option Addr) (c:Nat):aR S w (.fF sz 0 f) (.slice a 0 c)
 | fF (sz n:Nat) (f:Nat->List PV) (b off c:Nat) (vf:Nat->Nat->Value) (hS:S b) (hlen:∀i,i<n->(f i).length=sz) (hc:n<=c)
   (aY:∀(i j:Nat) (pv:PV),i<n->(f i)[j]? =some pv->w.cell? ⟨b,off+i*sz+j,none⟩=some (vf i j))
   (oY:∀(i j:Nat) (pv:PV),i<n->(f i)[j]? =some pv->aR S w pv (vf i j)):aR S w (.fF sz n f) (.slice (some ⟨b,off,none⟩) n c)
 | fC (cs:List PV) (b off:Nat) (vf:Nat->Value) (hS:S b)
   (aY:∀(j:Nat) (pv:PV),cs[j]? =some pv->w.cell? ⟨b,off+j,none⟩=some (vf j))
   (oY:∀(j:Nat) (pv:PV),cs[j]? =some pv->aR S w pv (vf j)):aR S w (.fC cs) (.pointer (some ⟨b,off,none⟩))
inductive nq (S:Nat->Prop) (w:World):PV->Value->Prop
 | nil (sz:Nat) (e:TypeId) (f:Nat->List PV) (F:Nat->Prop) (hF:∀b,¬F b):nq S w (.bu sz 0 e f F) (.slice none 0 0)
 | Aa (sz n:Nat) (e:TypeId) (f:Nat->List PV) (F:Nat->Prop) (b off c:Nat) (a:Addr) (cur:Array Value) (vf:Nat->Nat->Value) (hF:F b) (hb:w.heap[b]? =some (.cells cur e (0,0))) (hlen:∀i,i<n->(f i).length=sz) (hc:n<=c)
   (ha:0<c->a=⟨b,off,none⟩) (dy:off+c*sz<=cur.size)
   (aY:∀(i j:Nat) (pv:PV),i<n->(f i)[j]? =some pv->cur[off+i*sz+j]? =some (vf i j))
   (oY:∀(i j:Nat) (pv:PV),i<n->(f i)[j]? =some pv->aR S w pv (vf i j)\/∃bF n' e' f' F',pv=.bu bF n' e' f' F')
   (wW:∀(i j bF n':Nat) (e':TypeId) (f':Nat->List PV) (F':Nat->Prop),i<n->(f i)[j]? =some (.bu bF n' e' f' F')->nq S w (.bu bF n' e' f' F') (vf i j))
   (Gf:∀(i j bF n':Nat) (e':TypeId) (f':Nat->List PV) (F':Nat->Prop),i<n->(f i)[j]? =some (.bu bF n' e' f' F')->∀b',F' b'->F b'/\b'≠b)
   (Lr:∀(i j bF n':Nat) (e':TypeId) (f':Nat->List PV) (F':Nat->Prop) (i2 j2 oZ n2:Nat) (e2:TypeId) (f2:Nat->List PV) (F2:Nat->Prop),i<n->(f i)[j]? =some (.bu bF n' e' f' F')->i2<n->(f i2)[j2]? =some (.bu oZ n2 e2 f2 F2)->
    ∀b',F' b'->F2 b'->i=i2/\j=j2):nq S w (.bu sz n e f F) (.slice (some a) n c)
def jV (w:World) (b k:Nat):Prop:=∃cur e z,w.heap[b]? =some (.cells cur e z)/\k<=cur.size
def bg (μ:Mu) (h:List al) (w:World) (id gen off len:Nat) (v:Value):Prop:=
 (∃a l c,v=.slice a l c)/\match h[id]? with
 | some (al.row g sz n _ _)=>gen<=g/\(gen=g->off+len<=n/\match μ id with
  | none=>v=.slice none 0 0
  | some (b,base)=>∃a cap,v=.slice (some a) len cap/\len<=cap/\(0<cap->a=⟨b,base+off*sz,none⟩)/\jV w b (base+(off+cap)*sz))
 | some al.dead=>True
 | none=>False
def bS (μ:Mu) (h:List al) (w:World) (id gen i off:Nat) (v:Value):Prop:=
 (∃a,v=.pointer a)/\match h[id]? with
 | some (al.row g sz n e _)=>gen<=g/\(gen=g->i<n/\∃b base,μ id=some (b,base)/\(jV w b 0/\(Nat.beq e Ug=true->base=0))/\v=.pointer (some ⟨b,base+i*sz+off,none⟩))
 | some al.dead=>True
 | none=>False
def pr (w:World) (b:Nat):Prop:=∃es clock,w.heap[b]? =some (.map es clock)
def gg (μ:Mu) (h:List al) (w:World) (id:Nat) (v:Value):Prop:=
 (∃a,v=.map a)/\match h[id]? with
 | some (al.row _ _ _ _ _)=>∃b base,μ id=some (b,base)/\pr w b/\v=.map (some b)
 | some al.dead=>True
 | none=>False
def vP (O:Nat->Nat->Value->Prop) (f:Nat) (bJ:List (Nat×Nat)) (v:Value):Prop:=
 ∃vs:Array Value,v=.func (.func f) #[] vs/\vs.size=bJ.length/\∀(j:Nat) (p:Nat×Nat),bJ[j]? =some p->∃u:Value,vs[j]? =some u/\O p.1 p.2 u
theorem vP.mono {O a:Nat->Nat->Value->Prop} {f:Nat} {bJ:List (Nat×Nat)} {v:Value} (h:vP O f bJ v) (b:∀id g u,O id g u->a id g u):vP a f bJ v:=by
 obtain⟨vs,h1,h2,h3⟩:=h;exact⟨vs,h1,h2,λj p hj=>let⟨u,q1,q2⟩:=h3 j p hj;⟨u,q1,b _ _ _ q2⟩⟩
def uZ (σ:Nat->Nat) (bJ:List (Nat×Nat)):List (Nat×Nat):=bJ.map λp=>(σ p.1,p.2)
theorem vP.map {O:Nat->Nat->Value->Prop} {σ:Nat->Nat} {f:Nat} {bJ:List (Nat×Nat)} {v:Value} (h:vP (λid g u=>O (σ id) g u) f bJ v):vP O f (uZ σ bJ) v:=by
 obtain⟨vs,h1,h2,h3⟩:=h;refine⟨vs,h1,by unfold uZ;rw[aiY];exact h2,λj p hj=>?_⟩;unfold uZ at hj;rw[ahT]at hj;cases a:bJ[j]? with
 | none=>rw[a]at hj;cases hj
 | some q=>
  rw[a]at hj;injection hj with hj;subst hj;exact h3 j q a
theorem vP.adl {O:Nat->Nat->Value->Prop} {σ:Nat->Nat} {f:Nat} {bJ:List (Nat×Nat)} {v:Value} (h:vP O f (uZ σ bJ) v):vP (λid g u=>O (σ id) g u) f bJ v:=by
 obtain⟨vs,h1,h2,h3⟩:=h;refine⟨vs,h1,by unfold uZ at h2;rw[aiY]at h2;exact h2,λj p hj=>?_⟩;obtain⟨u,q1,q2⟩:=h3 j (σ p.1,p.2) (by unfold uZ;rw[ahT,hj];rfl);exact⟨u,q1,q2⟩
def qv (μ:Mu) (h:List al) (w:World) (f:Nat) (bJ:List (Nat×Nat)) (v:Value):Prop:=vP (λid g u=>bS μ h w id g 0 0 u) f bJ v
def wU:PV->Bool
 | .int _ _=>true
 | .bool _=>true
 | .str _=>true
 | .jw=>true
 | _=>false
def kO:PV->Bool
 | .agg cs=>cs.all wU
 | v=>wU v
def vA:PV->Value->Prop
 | .int k n,v=>v=.int k n
 | .bool b,v=>v=.bool b
 | .str s,v=>v=.string ⟨⟨s⟩⟩
 | _,v=>v.oneCell'=true
def tF:PV->Value->Prop
 | .agg cs,v=>∃vs:Array Value,v=.agg vs/\vs.size=cs.length/\∀(j:Nat) (pv:PV),cs[j]? =some pv->∃u:Value,vs[j]? =some u/\vA pv u
 | .jw,_=>True
 | pv,v=>vA pv v
def yQ (C:PV->Value->Prop) (base sz n:Nat) (e:TypeId) (f:Nat->List PV):Obj->Prop
 | .cells cur b z=>b=e/\z=(0,0)/\base+n*sz<=cur.size/\∀(i j:Nat) (pv:PV),i<n->(f i)[j]? =some pv->∃v:Value,cur[base+i*sz+j]? =some v/\C pv v
 | .map es _=>es.size=n/\∀i,i<n->∃(kp a:PV) (en:MapEntry),f i=[kp,a]/\kO kp=true/\kO a=true/\es[i]? =some en/\tF kp en.key/\tF a en.val
 | _=>False
theorem yQ.mono {C a:PV->Value->Prop} {base sz n:Nat} {e:TypeId} {f:Nat->List PV} {o:Obj} (h:yQ C base sz n e f o) (hc:∀(i j:Nat) (pv:PV) (v:Value),i<n->(f i)[j]? =some pv->C pv v->a pv v):yQ a base sz n e f o:=by
 cases o with
 | cells cur b z=>
  obtain⟨h1,h2,h3,h4⟩:=h;exact⟨h1,h2,h3,λi j pv hi hj=>let⟨v,q1,q2⟩:=h4 i j pv hi hj;⟨v,q1,hc i j pv v hi hj q2⟩⟩
 | map es c=>exact h
 | _=>exact h.elim
def bK (μ:Mu) (h:List al) (S:Nat->Prop) (w:World):PV->Value->Prop
 | .own id gen off len,v=>bg μ h w id gen off len v
 | .aF id gen i off,v=>bS μ h w id gen i off v
 | .ke id,v=>gg μ h w id v
 | .qE f bJ,v=>qv μ h w f bJ v
 | .jw,v=>v.oneCell'=true
 | .bu _ _ _ _ _,v=>v.oneCell'=true
 | .agg _,_=>False
 | .eG _,_=>False
 | pv,v=>aR S w pv v
def qw (μ:Mu) (h:List al) (S:Nat->Prop) (w:World):PV->Value->Prop
 | .bu sz n e f F,v=>nq S w (.bu sz n e f F) v
 | pv,v=>bK μ h S w pv v
def jz (μ:Mu) (h:List al) (S:Nat->Prop) (w:World):PV->Value->Prop
 | .agg cs,v=>∃vs:Array Value,v=.agg vs/\vs.size=cs.length/\∀(j:Nat) (pv:PV),cs[j]? =some pv->∃u:Value,vs[j]? =some u/\bK μ h S w pv u
 | .jw,_=>True
 | pv,v=>bK μ h S w pv v
def bz (μ:Mu) (h:List al) (S:Nat->Prop) (w:World):PV->Value->Prop
 | .eG ps,v=>∃vs:Array Value,v=.tuple vs/\vs.size=ps.length/\∀(j:Nat) (pv:PV),ps[j]? =some pv->∃u:Value,vs[j]? =some u/\jz μ h S w pv u
 | pv,v=>jz μ h S w pv v
def bH (μ:Mu) (h:List al) (S:Nat->Prop) (w:World):Prop:=
 ∀(id g sz n:Nat) (e:TypeId) (f:Nat->List PV),h[id]? =some (al.row g sz n e f)->(∀i,i<n->(f i).length=sz)/\match μ id with
  | none=>n=0
  | some (b,base)=>∃o:Obj,w.heap[b]? =some o/\yQ (qw μ h S w) base sz n e f o
theorem bH.cells {μ:Mu} {h:List al} {S:Nat->Prop} {w:World} {b base k sz n:Nat} {e:TypeId} {f:Nat->List PV} (hc:jV w b k) (a:∃o:Obj,w.heap[b]? =some o/\yQ (qw μ h S w) base sz n e f o):
  ∃cur:Array Value,w.heap[b]? =some (.cells cur e (0,0))/\base+n*sz<=cur.size/\
    ∀(i j:Nat) (pv:PV),i<n->(f i)[j]? =some pv->∃v:Value,cur[base+i*sz+j]? =some v/\qw μ h S w pv v:=by
 obtain⟨cur,c,z,h1,_⟩:=hc;obtain⟨o,h2,h3⟩:=a;obtain rfl:=aim (h1.symm.trans h2);obtain⟨rfl,rfl,q1,q2⟩:=h3;exact⟨cur,h1,q1,q2⟩
theorem bH.Ec {C:PV->Value->Prop} {w:World} {b base sz n:Nat} {e:TypeId} {f:Nat->List PV} (a:∃cur:Array Value,w.heap[b]? =some (.cells cur e (0,0))/\base+n*sz<=cur.size/\
    ∀(i j:Nat) (pv:PV),i<n->(f i)[j]? =some pv->∃v:Value,cur[base+i*sz+j]? =some v/\C pv v):∃o:Obj,w.heap[b]? =some o/\yQ C base sz n e f o:=by
 obtain⟨cur,h1,h2,h3⟩:=a;exact⟨_,h1,rfl,rfl,h2,h3⟩
def CV (μ:Mu) (h:List al) (b:Nat):Prop:=∃(id g sz n:Nat) (e:TypeId) (f:Nat->List PV) (base:Nat),h[id]? =some (al.row g sz n e f)/\μ id=some (b,base)
def cV (h:List al) (id i j b:Nat):Prop:=∃(g sz n:Nat) (e:TypeId) (f:Nat->List PV) (a c:Nat) (d:TypeId) (k:Nat->List PV) (F:Nat->Prop),h[id]? =some (al.row g sz n e f)/\i<n/\(f i)[j]? =some (.bu a c d k F)/\F b
def cf (μ:Mu) (h:List al) (b:Nat):Prop:=CV μ h b\/∃id i j,cV h id i j b
def QG (S:Nat->Prop) (w:World):Prop:=(∀p,p∈IM->S p.1/\∃t z,w.heap[p.1]? =some (.cells p.2 t z))/\(∀g,g∈Aq->S g/\∃a p t z,w.heap[g]? =some (.cells #[.iface a p] t z))/\
 ∀g,g∈OY->S g/\∃m t z,w.heap[g]? =some (.cells #[.int .i64 m] t z)
theorem QG.keep {S S':Nat->Prop} {w w':World} (h:QG S w) (a:∀b,S b->w'.heap[b]? =w.heap[b]?) (hs:∀b,S b->S' b):QG S' w':=
 ⟨λp hp=>⟨hs _ (h.1 p hp).1,by rw[a _ (h.1 p hp).1];exact(h.1 p hp).2⟩,λg hg=>⟨hs _ (h.2.1 g hg).1,by rw[a _ (h.2.1 g hg).1];exact(h.2.1 g hg).2⟩,
  λg hg=>⟨hs _ (h.2.2 g hg).1,by rw[a _ (h.2.2 g hg).1];exact(h.2.2 g hg).2⟩⟩
structure sA (μ:Mu) (h:List al) (S:Nat->Prop) (w:World):Prop where
 apart:∀b,cf μ h b->¬S b
 lt:∀b,cf μ h b->b<w.heap.size
 slt:∀b,S b->b<w.heap.size
 inj:∀(i j g sz n:Nat) (e:TypeId) (f:Nat->List PV) (g' bF n':Nat) (e':TypeId) (f':Nat->List PV) (b o o':Nat),h[i]? =some (al.row g sz n e f)->h[j]? =some (al.row g' bF n' e' f')->μ i=some (b,o)->μ j=some (b,o')->i=j
 known:QG S w
 hv:∀b,CV μ h b->∀id i j,¬cV h id i j b
 hh:∀b id i j id' i' j',cV h id i j b->cV h id' i' j' b->id=id'/\i=i'/\j=j'
structure Fr (μ:Mu) (h:List al) (S:Nat->Prop) (w:World) (μ':Mu) (h':List al) (S':Nat->Prop) (w':World):Prop where
 len:h.length<=h'.length
 blocks:∀b,b<w.heap.size->¬cf μ h b->w'.heap[b]? =w.heap[b]?
 sub:∀b,S b->S' b
 new:∀b,S' b->S b\/cf μ h b\/w.heap.size<=b
 own:∀b,cf μ' h' b->cf μ h b\/w.heap.size<=b
 size:w.heap.size<=w'.heap.size
 os:w'.os=w.os
 tape:w'.tape=w.tape
 output:w'.output=w.output
 Ed:∀(id g sz n:Nat) (e:TypeId) (f:Nat->List PV),h[id]? =some (al.row g sz n e f)->match h'[id]? with
  | some (al.row g' bF n' e' _)=>g<=g'/\(g'=g->μ' id=μ id/\bF=sz/\n'=n/\e'=e)
  | some al.dead=>True
  | none=>False
 dead:∀id:Nat,h[id]? =some al.dead->h'[id]? =some al.dead
 bJ:∀b k,cf μ h b->jV w b k->jV w' b k
 maps:∀(id g sz n:Nat) (e:TypeId) (f:Nat->List PV) (b base:Nat),h[id]? =some (al.row g sz n e f)->μ id=some (b,base)->pr w b->
  pr w' b/\(h'[id]? =some al.dead\/((∃g' bF n' e' f',h'[id]? =some (al.row g' bF n' e' f'))/\μ' id=some (b,base)))
 yj:∀b id i j,cV h id i j b->pr w b->pr w' b
def adC (P:Program) (f:FuncId):Prop:=∃fn c,P.funcs[f]? =some fn/\fn.body=some c/\(fn.name== "runtime.NumGoroutine")=false
def ACall (P:Program) (f:FuncId) (args:List PV) (h:List al) (R:PV->List al->Prop):Prop:=
 adC P f/\∀(w:World) (vs:Array Value) (μ:Mu) (S:Nat->Prop),bH μ h S w->sA μ h S w->vs.size=args.length->
  (∀(j:Nat) (pv:PV),args[j]? =some pv->∃v:Value,vs[j]? =some v/\jz μ h S w pv v)->
  Calls P f vs w (λe w'=>∃(v:Value) (res:PV) (h':List al) (μ':Mu) (S':Nat->Prop),e=.returned v/\R res h'/\bz μ' h' S' w' res v/\bH μ' h' S' w'/\sA μ' h' S' w'/\Fr μ h S w μ' h' S' w')
def bx:PV->Bool
 | .int _ _=>true
 | .bool _=>true
 | .str _=>true
 | .az=>true
 | .iH=>true
 | .fF _ _ _=>true
 | .fC _=>true
 | .fn _=>true
 | _=>false
def dj:PV->Bool
 | .bu _ _ _ _ _=>true
 | _=>false
inductive CE:PV->PV->Prop
 | mk (sz n:Nat) (e:TypeId) (f f':Nat->List PV) (F:Nat->Prop) (hl:∀i,i<n->(f' i).length=(f i).length) (hf:∀(i j:Nat) (pv pv':PV),i<n->(f i)[j]? =some pv->(f' i)[j]? =some pv'->dj pv=false->pv'=pv) (ho:∀(i j:Nat) (pv pv':PV),i<n->(f i)[j]? =some pv->(f' i)[j]? =some pv'->dj pv=true->CE pv pv')
   (hp:∀(i j:Nat) (pv':PV),i<n->(f' i)[j]? =some pv'->bx pv'=true):CE (.bu sz n e f F) (.fF sz n f')
inductive Fz (h η:List al) (k:List Nat):PV->PV->Prop
 | int (k':IntKind) (n:Int):Fz h η k (.int k' n) (.int k' n)
 | bool (b:Bool):Fz h η k (.bool b) (.bool b)
 | str (s:List UInt8):Fz h η k (.str s) (.str s)
 | az:Fz h η k .az .az
 | iH:Fz h η k .iH .iH
 | X5 (sz:Nat) (f:Nat->List PV):Fz h η k .az (.fF sz 0 f)
 | adv (id id' g' bF:Nat) (e':TypeId) (f':Nat->List PV) (hk:k[id']? =some id) (ho:h[id]? =none) (hη:η[id']? =some (al.row g' bF 0 e' f')):Fz h η k .az (.own id' g' 0 0)
 | fn (f:Nat):Fz h η k (.fn f) (.fn f)
 | fF (sz n:Nat) (f f':Nat->List PV) (hf:∀i,i<n->f' i=f i):Fz h η k (.fF sz n f) (.fF sz n f')
 | fC (cs:List PV):Fz h η k (.fC cs) (.fC cs)
 | jw (pv:PV):Fz h η k pv .jw
 | bu (sz n:Nat) (e:TypeId) (f:Nat->List PV) (F:Nat->Prop):Fz h η k (.bu sz n e f F) (.bu sz n e f F)
 | zq (sz:Nat) (e:TypeId) (f:Nat->List PV):Fz h η k .az (.bu sz 0 e f (λ_=>False))
 | own (id id' g g' sz bF n n' off len:Nat) (e e':TypeId) (f f':Nat->List PV) (hk:k[id']? =some id) (ho:h[id]? =some (al.row g sz n e f)) (hη:η[id']? =some (al.row g' bF n' e' f')) (hn:off+len<=n'):Fz h η k (.own id g off len) (.own id' g' off len)
 | aF (id id' g g' sz bF n n' i off:Nat) (e e':TypeId) (f f':Nat->List PV) (hk:k[id']? =some id) (ho:h[id]? =some (al.row g sz n e f)) (hη:η[id']? =some (al.row g' bF n' e' f')) (hn:i<n'):Fz h η k (.aF id g i off) (.aF id' g' i off)
 | ke (id id' g g' sz bF n n':Nat) (e e':TypeId) (f f':Nat->List PV) (hk:k[id']? =some id) (ho:h[id]? =some (al.row g sz n e f)) (hη:η[id']? =some (al.row g' bF n' e' f')):Fz h η k (.ke id) (.ke id')
 | qE (f:Nat) (bJ Ah:List (Nat×Nat)) (hl:Ah.length=bJ.length) (hc:∀(j:Nat) (p p':Nat×Nat),bJ[j]? =some p->Ah[j]? =some p'->k[p'.1]? =some p.1/\(∃sz n e f,h[p.1]? =some (al.row p.2 sz n e f))/\∃sz n e f,η[p'.1]? =some (al.row p'.2 sz n e f)/\0<n):Fz h η k (.qE f bJ) (.qE f Ah)
 | frz (id g sz n off len:Nat) (e:TypeId) (f f':Nat->List PV) (hk:id∉k) (ho:h[id]? =some (al.row g sz n e f)) (hl:∀i,i<len->(f' i).length=(f (off+i)).length)
   (hp:∀(i j:Nat) (pv':PV),i<len->(f' i)[j]? =some pv'->bx pv'=true)
   (hf:∀(i j:Nat) (pv pv':PV),i<len->(f (off+i))[j]? =some pv->(f' i)[j]? =some pv'->¬CE pv pv'->Fz h η k pv pv'):Fz h η k (.own id g off len) (.fF sz len f')
 | agg (cs AP:List PV) (hl:AP.length=cs.length) (hc:∀(j:Nat) (pv pv':PV),cs[j]? =some pv->AP[j]? =some pv'->Fz h η k pv pv'):Fz h η k (.agg cs) (.agg AP)
 | eG (cs AP:List PV) (hl:AP.length=cs.length) (hc:∀(j:Nat) (pv pv':PV),cs[j]? =some pv->AP[j]? =some pv'->Fz h η k pv pv'):Fz h η k (.eG cs) (.eG AP)
def vn (h η:List al) (k:List Nat):List PV->List PV->Prop
 | [],[]=>True
 | a::l,b::r=>Fz h η k a b/\vn h η k l r
 | _,_=>False
def Qq:List Nat->Nat->Bool
 | [],_=>false
 | a::r,x=>match Nat.beq a x with
  | true=>true
  | false=>Qq r x
def pt:List Nat->Bool
 | []=>true
 | a::r=>match Qq r a with
  | true=>false
  | false=>pt r
def oU:List al->List Nat->List Nat
 | .row _ _ _ _ _::r,i::is=>i::oU r is
 | .dead::r,_::is=>oU r is
 | _,_=>[]
def vQ (h η:List al) (k:List Nat) (m:Nat) (o:al) (a id:Nat):Prop:=
 match o,h[id]? with
 | .row c d b j l,some (al.row g sz n e f)=>(a<m->a=id/\c=g)/\d=sz/\(b=n\/m<=a/\sz≠2/\b<=n)/\j=e/\
   ∀i,i<b->vn h η k (f i) (l i)
 | .dead,_=>True
 | .row _ _ b _ _,none=>m<=a/\b=0
 | _,_=>False
def eF (l:List PV) (off:Nat):List PV->List PV
 | []=>l
 | c::r=>eF (l.set off c) (off+1) r
def cellsOf:PV->List PV
 | .agg cs=>cs
 | v=>[v]
def cH (h:List al) (id:Nat):al:=h.getD id .dead
def force (v:PV) (K:PV->Prop):Prop:=
 match v with
 | .int k n=>K (.int k n)
 | .bool b=>K (.bool b)
 | .str s=>K (.str s)
 | .az=>K .az
 | .iH=>K .iH
 | .fF sz n f=>K (.fF sz n f)
 | .fC cs=>K (.fC cs)
 | .own id gen off len=>K (.own id gen off len)
 | .aF id gen i off=>K (.aF id gen i off)
 | .ke id=>K (.ke id)
 | .qE f bJ=>K (.qE f bJ)
 | .fn f=>K (.fn f)
 | .agg cs=>K (.agg cs)
 | .eG vs=>K (.eG vs)
 | .jw=>K .jw
 | .bu sz n e f F=>K (.bu sz n e f F)
theorem bT {v:PV} {K:PV->Prop} (h:force v K):K v:=by cases v<;>exact h
def Hi (K:List PV->Prop):Nat->List PV->List PV->Prop
 | 0,_,acc=>K acc.reverse
 | _+1,[],_=>False
 | n+1,c::r,acc=>force c λv=>Hi K n r (v::acc)
theorem rQ {K:List PV->Prop}:∀(n:Nat) (l acc:List PV),Hi K n l acc->n<=l.length/\K (acc.reverse++l.take n)
 | 0,l,acc,h=>⟨aih _,by simp only[List.take_zero,aiL];exact h⟩
 | _+1,[],_,h=>h.elim
 | n+1,c::r,acc,h=>by
  obtain⟨h1,h2⟩:=rQ n r (c::acc) (bT h);exact⟨by simp;omega,by simpa using h2⟩
def Bg (T:rO) (t:Nat) (cells:List PV) (K:PV->Prop):Prop:=
 match T.get t with
 | .struct sz _ _=>Hi (λl=>K (.agg l)) sz cells []
 | .other=>False
 | _=>match cells with
  | c::_=>force c K
  | []=>False
def zY (T:rO) (t:Nat) (a:PV) (h:List al) (K:PV->Prop):Prop:=
 match a with
 | .fC cells=>Bg T t cells K
 | .aF id gen i off=>match cH h id with
  | .row g _ _ _ f=>g=gen/\∃c,f i=c/\Bg T t (c.drop off) K
  | .dead=>False
 | _=>False
def bP (f:Nat->List PV) (i:Nat) (l:List PV):Nat->List PV:=λk=>bif Nat.beq k i then l else f k
def BP:List PV->Bool
 | []=>true
 | .int _ _::r=>BP r
 | .bool _::r=>BP r
 | .str _::r=>BP r
 | _=>false
def GI (g:Bool) (q:Bool):Option Bool->Option Bool
 | some c=>match g with
  | true=>some (q&&c)
  | false=>none
 | none=>none
def GJ:List PV->List PV->List PV->Option Bool
 | [],[],[]=>some true
 | .int k _::z,.int d a::r,.int e b::c=>GI (rN k d&&rN k e) (a==b) (GJ z r c)
 | .bool _::z,.bool a::r,.bool b::c=>GI true (a==b) (GJ z r c)
 | .str _::z,.str a::r,.str b::c=>GI true (a==b) (GJ z r c)
 | _,_,_=>none
def kA (ti:TI) (a b:PV):Option Bool:=
 match ti,a,b with
 | .int k,.int c x,.int d y=>GI (rN k c&&rN k d) (x==y) (some true)
 | .str,.str x,.str y=>some (x==y)
 | .struct _ _ z,.agg xs,.agg e=>match BP z with
  | true=>GJ z xs e
  | false=>none
 | _,_,_=>none
def GN (ti:TI) (f:Nat->List PV) (n:Nat) (a:PV):Prop:=∀j,j<n->∃kp b,f j=[kp,b]/\kA ti a kp=some false
def MAt (ti:TI) (f:Nat->List PV) (n:Nat) (a:PV) (i:Nat) (r:PV):Prop:=i<n/\GN ti f i a/\∃kp,f i=[kp,r]/\kA ti a kp=some true
def TG (ti:TI) (f:Nat->List PV) (n:Nat) (a c r:PV) (b:Bool):Prop:=(b=true/\∃i,MAt ti f n a i r)\/(b=false/\r=c/\GN ti f n a)
def adu (ti:TI) (f:Nat->List PV) (n:Nat) (a c:PV) (d:Nat) (b:Nat->List PV):Prop:=
 (∃i r,MAt ti f n a i r/\d=n/\b i=[a,c]/\∀j,j<n->j≠i->b j=f j)\/(GN ti f n a/\d=n+1/\b n=[a,c]/\∀j,j<n->b j=f j)
def PU (ti:TI) (d:BinOp) (x y:PV) (K:PV->Prop):Prop:=
 match x,y with
 | .int k a,.int e b=>
  match d with
  | .shl=>0<=b/\K (.int k (k.wrap (a*2 ^ min b.toNat k.bits)))
  | .shr=>0<=b/\K (.int k (a.fdiv (2 ^ min b.toNat k.bits)))
  | _=>dh (rN k e)<|match d with
  | .and=>K (.int k (bits .and k a b))
  | .or=>K (.int k (bits .or k a b))
  | .xor=>K (.int k (bits .xor k a b))
  | .andNot=>K (.int k (bits .andNot k a b))
  | .add=>K (.int k (k.wrap (a+b)))
  | .sub=>K (.int k (k.wrap (a - b)))
  | .mul=>K (.int k (k.wrap (a*b)))
  | .quo=>b≠0/\K (.int k (k.wrap (a.tdiv b)))
  | .rem=>b≠0/\K (.int k (a.tmod b))
  | .eql=>K (.bool (a==b))
  | .neq=>K (.bool (a != b))
  | .lss=>K (.bool (decide (a<b)))
  | .leq=>K (.bool (decide (a<=b)))
  | .gtr=>K (.bool (decide (a>b)))
  | .geq=>K (.bool (decide (a>=b)))
  | _=>False
 | .bool a,.bool b=>match ti,d with
  | .bool,.eql=>K (.bool (a==b))
  | .bool,.neq=>K (.bool (!(a==b)))
  | _,_=>False
 | .str a,.str b=>match d with
  | .add=>a.length+b.length<=4611686018427387904/\∃s,a++b=s/\K (.str s)
  | .eql=>K (.bool (a==b))
  | .neq=>K (.bool (!(a==b)))
  | .lss=>K (.bool (Op.bytesLess a b))
  | .leq=>K (.bool (Op.bytesLess a b||a==b))
  | .gtr=>K (.bool !(Op.bytesLess a b||a==b))
  | .geq=>K (.bool !(Op.bytesLess a b))
  | _=>False
 | .agg xs,.agg f=>match ti with
  | .struct _ _ z=>dh (BP z) (match GJ z xs f with
   | some b=>match d with
    | .eql=>∃c,b=c/\K (.bool c)
    | .neq=>∃c,b=c/\K (.bool !c)
    | _=>False
   | none=>False)
  | _=>False
 | _,_=>False
def D6 (x:PV) (lo hi:Option PV) (K:PV->Prop):Prop:=
 match x with
 | .fF sz n f=>match lo,hi with
  | none,none=>K (.fF sz n f)
  | some (.int _ l),none=>(0<=l/\l<=n)/\K (.fF sz (n - l.toNat) (λi=>f (l.toNat+i)))
  | none,some (.int _ m)=>(0<=m/\m<=n)/\K (.fF sz m.toNat f)
  | some (.int _ l),some (.int _ m)=>(0<=l/\l<=m/\m<=n)/\K (.fF sz (m.toNat - l.toNat) (λi=>f (l.toNat+i)))
  | _,_=>False
 | .own id gen off len=>match lo,hi with
  | none,none=>K (.own id gen off len)
  | some (.int _ l),none=>(0<=l/\l<=len)/\K (.own id gen (off+l.toNat) (len - l.toNat))
  | none,some (.int _ m)=>(0<=m/\m<=len)/\K (.own id gen off m.toNat)
  | some (.int _ l),some (.int _ m)=>(0<=l/\l<=m/\m<=len)/\K (.own id gen (off+l.toNat) (m.toNat - l.toNat))
  | _,_=>False
 | .str s=>match lo,hi with
  | none,none=>K (.str s)
  | some (.int _ l),none=>(0<=l/\l<=s.length)/\K (.str (s.drop l.toNat))
  | none,some (.int _ m)=>(0<=m/\m<=s.length)/\K (.str (s.take m.toNat))
  | some (.int _ l),some (.int _ m)=>(0<=l/\l<=m/\m<=s.length)/\K (.str ((s.take m.toNat).drop l.toNat))
  | _,_=>False
 | _=>False
def KK (K:PV->Prop) (v:PV):Prop:=
 match v with
 | .fF sz n f=>∃a b,a=n/\(∀i,i<a->b i=f i)/\K (.fF sz a b)
 | .str s=>∃c,s=c/\K (.str c)
 | .own id g off n=>∃d a,d=off/\a=n/\K (.own id g d a)
 | v=>K v
def V7 (n:Nat) (hi a:Option PV):Prop:=
 match a with
 | none=>True
 | some (.int _ q)=>match hi with
  | some (.int _ m)=>m<=q/\q<=n
  | _=>False
 | _=>False
def isByte:List PV->Bool
 | [.int .u8 _]=>true
 | _=>false
def byteOf:List PV->UInt8
 | [.int _ v]=>UInt8.ofNat v.toNat
 | _=>0
def yO (v:PV) (h:List al) (K:List UInt8->Prop):Prop:=
 match v with
 | .az=>K []
 | .fF sz n f=>dh (Nat.beq sz 1) (∃s:List UInt8,s.length=n/\(∀i,i<n->f i=[.int .u8 (s.getD i 0).toNat])/\K s)
 | .own id gen off n=>match cH h id with
  | .row g sz _ _ f=>g=gen/\dh (Nat.beq sz 1) (∃s:List UInt8,s.length=n/\(∀i,i<n->f (off+i)=[.int .u8 (s.getD i 0).toNat])/\K s)
  | .dead=>False
 | _=>False
def nE:PV->Bool
 | .agg _=>false
 | .eG _=>false
 | .jw=>false
 | .bu _ _ _ _ _=>false
 | _=>true
def storable:PV->Bool
 | .agg cs=>cs.all nE
 | v=>nE v
def rR (env:Env) (sz:Nat) (fl:List (Nat×Nat×Bool)) (K:List PV->Prop):List (Nat×Operand)->List PV->Prop
 | [],acc=>K acc
 | (k,x)::r,acc=>match fl[k]? with
  | some (o,size,_)=>force (ev env x) λv=>dh (storable v&&Nat.beq (cellsOf v).length size&&Nat.ble (o+size) sz) (rR env sz fl K r (eF acc o (cellsOf v)))
  | none=>False
def wV (env:Env) (K:List (Nat×Nat)->Prop):List Operand->List (Nat×Nat)->Prop
 | [],acc=>K acc.reverse
 | x::r,acc=>match ev env x with
  | .aF id gen 0 0=>wV env K r ((id,gen)::acc)
  | _=>False
def ck (T:rO) (op:Op) (env:Env) (h:List al) (K:PV->Prop):Prop:=
 match op with
 | .move x=>force (ev env x) K
 | .assign x=>force (ev env x) K
 | .pick c a b=>match ev env c with
  | .bool t=>ef t (force (ev env a) K) (force (ev env b) K)
  | _=>False
 | .binOp w t x y _=>PU (T.get t) w (ev env x) (ev env y) K
 | .unOp u _ x=>match u,ev env x with
  | .not,.bool b=>K (.bool !b)
  | .neg,.int k n=>K (.int k (k.wrap (0 - n)))
  | _,_=>False
 | .load t a=>zY T t (ev env a) h K
 | .convert s d x=>match T.get s,T.get d,ev env x with
  | .int _,.int k,.int _ n=>K (.int k (k.wrap n))
  | .slice e _ _ _,.str,v=>match T.get e with
   | .int .u8=>yO v h (λs=>K (.str s))
   | _=>False
  | _,_,_=>False
 | .nilCheck x=>match ev env x with
  | .fC cs=>K (.fC cs)
  | .aF id gen i off=>match cH h id with
   | .row g _ _ _ _=>g=gen/\K (.aF id gen i off)
   | .dead=>False
  | _=>False
 | .fieldAddr s x k=>match T.get s with
  | .struct _ fl _=>match fl[k]? with
   | some (o,_,_)=>match ev env x with
    | .fC cs=>K (.fC (cs.drop o))
    | .aF id gen i off=>match cH h id with
     | .row g _ _ _ _=>g=gen/\K (.aF id gen i (off+o))
     | .dead=>False
    | _=>False
   | none=>False
  | _=>False
 | .field s x k=>match T.get s with
  | .struct _ fl _=>match fl[k]? with
   | some (o,size,A)=>match ev env x with
    | .agg cs=>match A with
     | true=>Hi (λl=>K (.agg l)) size (cs.drop o) []
     | false=>match cs.drop o with
      | c::_=>force c K
      | []=>False
    | _=>False
   | none=>False
  | _=>False
 | .build t parts=>match T.get t with
  | .struct sz fl z=>rR env sz fl (λcs=>K (.agg cs)) parts.toList z
  | _=>False
 | .indexAddr t x i=>match T.get t,ev env x,ev env i with
  | .slice _ sz _ _,.fF m n f,.int _ i=>dh (Nat.beq sz m) ((0<=i/\i<n)/\∃c,f i.toNat=c/\K (.fC c))
  | .slice _ sz _ _,.own id gen off len,.int _ i=>match cH h id with
   | .row g m _ B _=>g=gen/\dh (Nat.beq sz m&&!Nat.beq B Ug) ((0<=i/\i<len)/\∃j,off+i.toNat=j/\K (.aF id gen j 0))
   | .dead=>False
  | _,_,_=>False
 | .index t x i=>match T.get t,ev env x,ev env i with
  | .str,.str s,.int _ i=>(0<=i/\i<s.length)/\∃c,s.getD i.toNat 0=c/\K (.int .u8 (c:UInt8).toNat)
  | _,_,_=>False
 | .lookup t x i ok=>match T.get t,ev env x with
  | .map kt _ C,.ke id=>match cH h id with
   | .row _ _ n _ f=>force (ev env i) λp=>dh (kA (T.get kt) p p).isSome (∃r b,TG (T.get kt) f n p C r b/\match ok with
    | true=>K (.eG [r,.bool b])
    | false=>force r K)
   | .dead=>False
  | _,_=>False
 | .makeFunc fn first captured=>match fn with
  | .func f=>dh first.isEmpty (wV env (λbJ=>K (.qE f bJ)) captured.toList [])
  | _=>False
 | .extract x i=>match ev env x with
  | .eG vs=>match vs[i]? with
   | some v=>force v K
   | none=>False
  | _=>False
 | .slice t x lo hi q=>match T.get t,ev env x with
  | .slice _ sz _ _,.fF m n f=>dh (Nat.beq sz m) (V7 n (hi.map (ev env)) (q.map (ev env))/\D6 (.fF m n f) (lo.map (ev env)) (hi.map (ev env)) (KK K))
  | .slice _ sz _ _,.own id gen off len=>match cH h id with
   | .row g m _ _ _=>g=gen/\dh (Nat.beq sz m) (V7 len (hi.map (ev env)) (q.map (ev env))/\D6 (.own id gen off len) (lo.map (ev env)) (hi.map (ev env)) (KK K))
   | .dead=>False
  | .str,.str s=>dh q.isNone (D6 (.str s) (lo.map (ev env)) (hi.map (ev env)) (KK K))
  | _,_=>False
 | .call ⟨.builtin .len,args,D⟩=>match args.toList,D.toList with
  | [x],[t]=>match T.get t,ev env x with
   | .slice _ _ _ _,.fF _ n _=>K (.int .i64 n)
   | .slice _ _ _ _,.az=>K (.int .i64 0)
   | .slice _ _ _ _,.own id gen _ n=>match cH h id with
    | .row g _ _ _ _=>g=gen/\K (.int .i64 n)
    | .dead=>False
   | .str,.str s=>K (.int .i64 s.length)
   | .map _ _ _,.ke id=>match cH h id with
    | .row _ _ n _ _=>K (.int .i64 n)
    | .dead=>False
   | _,_=>False
  | _,_=>False
 | _=>False
def mi:TI->Nat
 | .struct sz _ _=>sz
 | .other=>0
 | _=>1
def DY:TI->Option (List PV)
 | .int k=>some [.int k 0]
 | .bool=>some [.bool false]
 | .str=>some [.str []]
 | .slice _ _ _ _=>some [.az]
 | .struct _ _ z=>some z
 | _=>none
def BU (len:Nat):Nat->List (Nat×Operand)->Bool
 | k,[]=>Nat.beq k len
 | k,(i,_)::r=>Nat.beq i k&&BU len (k+1) r
def tM (env:Env) (sz:Nat) (K:List (List PV)->Prop):List (Nat×Operand)->List (List PV)->Prop
 | [],acc=>K acc.reverse
 | (_,x)::r,acc=>force (ev env x) λv=>dh (storable v&&Nat.beq (cellsOf v).length sz) (tM env sz K r (cellsOf v::acc))
theorem BV {env:Env} {sz:Nat} {K:List (List PV)->Prop}:∀(l:List (Nat×Operand)) (acc:List (List PV)),tM env sz K l acc->
  (∀p∈l,storable (ev env p.2)=true/\Nat.beq (cellsOf (ev env p.2)).length sz=true)/\K (acc.reverse++l.map λp=>cellsOf (ev env p.2))
 | [],acc,h=>⟨λp hp=>by simp at hp,by simp only[ahR,aiL];exact h⟩
 | (i,x)::r,acc,h=>by
  obtain⟨h1,h2⟩:=bw (bT h);simp only[No]at h1;obtain⟨h3,h4⟩:=BV r _ h2;refine⟨λp hp=>?_,by simpa using h4⟩;simp only[ahM]at hp;rcases hp with rfl | hp
  ·exact h1
  ·exact h3 p hp
def noO:List PV->Bool
 | []=>true
 | .bu _ _ _ _ _::_=>false
 | _::r=>noO r
def Li (x:PV) (h:List al) (sz:Nat) (K:Nat->(Nat->List PV)->Prop):Prop:=
 match x with
 | .az=>K 0 (λ_=>[])
 | .fF a m g=>dh (Nat.beq sz a) (K m g)
 | .own id gen off m=>match cH h id with
  | .row g a _ _ f=>g=gen/\(∀i,i<m->noO (f (off+i))=true)/\dh (Nat.beq sz a) (K m (λi=>f (off+i)))
  | .dead=>False
 | .str s=>dh (Nat.beq sz 1)<|K s.length (λi=>[.int .u8 (s.getD i 0).toNat])
 | _=>False
def xB (e sz bytes:Nat) (s x:PV) (h:List al) (K:PV->List al->Prop):Prop:=
 match s with
 | .az=>Li x h sz λm g=>m*bytes<=140737488355328/\∃a b,a=m/\(∀i,i<a->ng (g i) (b i))/\K (.own h.length 0 0 a) (h++[.row 0 sz a e b])
 | .own id gen off len=>match cH h id with
  | .row g c _ d f=>g=gen/\dh (Nat.beq sz c&&Nat.beq e d) (Li x h sz λm q=>(len+m)*bytes<=140737488355328/\∃a b,a=len+m/\
    (∀i,i<a->ng (bif Nat.blt i len then f (off+i)else q (i - len)) (b i))/\
    K (.own id (gen+1) 0 a) (h.set id (.row (gen+1) sz a e b)))
  | .dead=>False
 | _=>False
def fjn (f:Nat->List PV) (n:Nat) (q:Nat->List PV):Nat->List PV:=λi=>bif Nat.blt i n then f i else q (i - n)
def Ln (e sz bytes:Nat) (s x:PV) (h:List al) (K:PV->List al->Prop):Prop:=
 match s,x with
 | .az,.own a b 0 m=>match cH h a with
  | .row c oZ _ _ q=>c=b/\dh (Nat.beq sz oZ) (m*bytes<=140737488355328/\K (.own h.length 1 0 m) (((h++[al.row 0 sz 0 e (λ_=>[])]).set h.length (al.row 1 sz m e q)).set a al.dead))
  | .dead=>False
 | .own id gen 0 len,.own a b 0 m=>match cH h id with
  | .row g d _ i f=>match cH h a with
   | .row c oZ _ _ q=>g=gen/\c=b/\dh (Nat.beq sz d&&(Nat.beq e i&&(Nat.beq sz oZ&&!Nat.beq a id))) ((len+m)*bytes<=140737488355328/\K (.own id (gen+1) 0 (len+m)) ((h.set id (al.row (gen+1) sz (len+m) e (fjn f len q))).set a al.dead))
   | .dead=>False
  | .dead=>False
 | _,_=>False
inductive NV (e sz bytes:Nat) (s x:PV) (h:List al) (K:PV->List al->Prop):Prop
 | keep (hp:xB e sz bytes s x h K)
 | move (hp:Ln e sz bytes s x h K)
def TH (f:Nat->List PV) (off m:Nat) (q:Nat->List PV):Nat->List PV:=λi=>bif Nat.blt i off then f i else bif Nat.blt i (off+m)then q (i - off)else f i
def Ey (e sz:Nat) (s x:PV) (h:List al) (K:PV->List al->Prop):Prop:=
 match s with
 | .own id gen off len=>match cH h id with
  | .row g b n c f=>g=gen/\dh (Nat.beq sz b&&Nat.beq e c) (Li x h sz λm q=>m<=len/\∃a,(∀i,i<n->ng (TH f off m q i) (a i))/\K (.int .i64 m) (h.set id (.row g sz n e a)))
  | .dead=>False
 | _=>False
def lF:PV->Bool
 | .eG _=>false
 | _=>true
inductive vV (P:Program) (f:FuncId) (args:List PV) (h:List al) (K:PV->List al->Prop):Prop
 | mk (R:PV->List al->Prop) (hA:ACall P f args h R) (hk:∀res h',R res h'->K res h')
def pop (P:Program) (T:rO) (op:Op) (env:Env) (h:List al) (K:PV->List al->Prop):Prop:=
 match op with
 | .store t a x=>match ev env a with
  | .aF id gen i off=>match cH h id with
   | .row g sz n e f=>g=gen/\force (ev env x) λv=>dh (storable v&&Nat.ble 1 (mi (T.get t))&&Nat.beq (mi (T.get t)) (cellsOf v).length&&Nat.ble (off+(cellsOf v).length) sz)
     (∃c o,f i=c/\(∀j,j<n->ng (bP f i (eF c off (cellsOf v)) j) (o j))/\K .jw (h.set id (.row g sz n e o)))
   | .dead=>False
  | _=>False
 | .box t x=>force (ev env x) λv=>dh (storable v&&Nat.beq (cellsOf v).length (mi (T.get t))) (K (.aF h.length 0 0 0) (h++[.row 0 (mi (T.get t)) 1 t (λ_=>cellsOf v)]))
 | .alloc t=>match DY (T.get t)with
  | some z=>K (.aF h.length 0 0 0) (h++[.row 0 (mi (T.get t)) 1 t (λ_=>z)])
  | none=>False
 | .makeSlice t l c=>match T.get t,ev env l,ev env c with
  | .slice e sz bytes zero,.int _ n,.int _ m=>(0<=n/\n<=m/\m<=4611686018427387904/\m.toNat*bytes<=140737488355328)/\∃q o,q=n.toNat/\(∀i,i<q->ng zero (o i))/\K (.own h.length 0 0 q) (h++[.row 0 sz q e o])
  | _,_,_=>False
 | .buildSlice t len parts=>match T.get t with
  | .slice e sz _ _=>dh (BU len 0 parts.toList&&Nat.ble (len*sz) 65536) (tM env sz (λcs=>∃o,(∀i,i<len->ng (cs.getD i []) (o i))/\K (.own h.length 0 0 len) (h++[.row 0 sz len e o])) parts.toList [])
  | _=>False
 | .convert s d x=>match T.get s,T.get d,ev env x with
  | .str,.slice e _ _ _,.str b=>match T.get e with
   | .int .u8=>∃o,(∀i,i<b.length->o i=[.int .u8 (b.getD i 0).toNat])/\K (.fF 1 b.length o) h
   | _=>False
  | _,_,_=>ck T (.convert s d x) env h (λv=>K v h)
 | .binOp B t x y ty=>match B,T.get t,ev env x,ev env y with
  | .eql,.slice _ _ _ _,.fF _ n _,.az=>(n=0->K (.bool true) h)/\K (.bool false) h
  | _,_,_,_=>ck T (.binOp B t x y ty) env h (λv=>K v h)
 | .makeMap t none=>match T.get t with
  | .map _ _ _=>∃o,K (.ke h.length) (h++[.row 0 2 0 t o])
  | _=>False
 | .mapUpdate t m k x=>match T.get t,ev env m with
  | .map kt _ _,.ke id=>match cH h id with
   | .row g sz n e f=>force (ev env k) λr=>force (ev env x) λu=>dh ((kA (T.get kt) r r).isSome&&kO u&&storable u&&Nat.beq sz 2)
     (∃q o,adu (T.get kt) f n r u q o/\K .jw (h.set id (.row (g+1) 2 q e o)))
   | .dead=>False
  | _,_=>False
 | .call ⟨.builtin .append,args,w⟩=>match args.toList,w.toList with
  | [s,x],[t,A]=>match T.get t,T.get A with
   | .slice e sz bytes _,.slice _ _ _ _=>NV e sz bytes (ev env s) (ev env x) h K
   | .slice e sz bytes _,.str=>NV e sz bytes (ev env s) (ev env x) h K
   | _,_=>False
  | _,_=>False
 | .call ⟨.builtin .copy,args,w⟩=>match args.toList,w.toList with
  | [s,x],[t,A]=>match T.get t,T.get A with
   | .slice e sz _ _,.slice _ _ _ _=>Ey e sz (ev env s) (ev env x) h K
   | .slice e sz _ _,.str=>Ey e sz (ev env s) (ev env x) h K
   | _,_=>False
  | _,_=>False
 | .call ⟨.value C,args,_⟩=>match ev env C with
  | .fn f=>dh (args.toList.all (λx=>lF (ev env x))) (vV P f (args.toList.map (ev env)) h K)
  | .qE f bJ=>dh (args.toList.all (λx=>lF (ev env x))) (vV P f (args.toList.map (ev env)++bJ.map λp=>.aF p.1 p.2 0 0) h K)
  | _=>False
 | op=>ck T op env h (λv=>K v h)
def xj (P:Program) (T:rO) (all:List Oper) (K:Env->List al->Prop) (l:List Oper):Env->List al->Prop:=
 List.rec (motive:=λ_=>Env->List al->Prop) K (λo _ a env h=>match o.guard with
  | none=>pop P T o.op env h (λv h'=>a (eg env o.dst v) h')
  | some (j,want)=>match(all[j]?).bind (·.dst)with
   | some t=>match env t with
    | .bool b=>ef b
      (match want with
       | true=>pop P T o.op (sB env t (.bool true)) h (λv h'=>a (eg (sB env t (.bool true)) o.dst v) h')
       | false=>a (eg (sB env t (.bool true)) o.dst (.eG [])) h)
      (match want with
       | true=>a (eg (sB env t (.bool false)) o.dst (.eG [])) h
       | false=>pop P T o.op (sB env t (.bool false)) h (λv h'=>a (eg (sB env t (.bool false)) o.dst v) h'))
    | .eG []=>a (eg env o.dst (.eG [])) h
    | _=>False
   | none=>False) l
abbrev XQ:=Exit->Env->List al->Prop
def XQ.then (next:Env->List al->Prop) (Q:XQ):XQ
 | .normal,env,h=>next env h
 | e,env,h=>Q e env h
def XQ.inBlock (id:Nat) (Q:XQ):XQ
 | .exit a,env,h=>match Nat.beq a id with
  | true=>Q .normal env h
  | false=>Q (.exit a) env h
 | e,env,h=>Q e env h
def zi (h η:List al) (k:List Nat) (env:Env):List (Nat×PV)->Prop
 | []=>True
 | (t,v)::r=>Fz h η k (env t) v/\zi h η k env r
def kV (h η:List al) (k:List Nat) (m:Nat):Nat->List al->List Nat->Prop
 | _,[],[]=>True
 | i,o::r,id::a=>vQ h η k m o i id/\kV h η k m (i+1) r a
 | _,_,_=>False
def Ai (m:Nat) (env:Env) (h:List al) (σ:List (Nat×PV)) (η:List al):Prop:=
 ∃k:List Nat,pt (oU η k)=true/\m<=k.length/\zi h η k env σ/\kV h η k m 0 η k
def qY:Env:=λ_=>.jw
def K6 (h h1:List al):Prop:=∃(id g sz n:Nat) (e:TypeId) (f:Nat->List PV) (i j c a:Nat) (d:TypeId) (l:Nat->List PV) (F:Nat->Prop) (b:Nat->List PV),h[id]? =some (al.row g sz n e f)/\i<n/\
 (f i)[j]? =some (.bu c a d l F)/\b i=(f i).set j (.own h.length 0 0 a)/\(∀k,k<n->k≠i->b k=f k)/\h1=h.set id (.row g sz n e b)++[.row 0 c a d l]
def Ht (h:List al) (id i j sub:Nat) (F:Nat->Prop) (h1:List al):Prop:=∃(g sz n:Nat) (e:TypeId) (f:Nat->List PV) (g2 oZ n2:Nat) (e2:TypeId) (f2 a:Nat->List PV),h[id]? =some (al.row g sz n e f)/\h[sub]? =some (al.row g2 oZ n2 e2 f2)/\
 id≠sub/\i<n/\(f i)[j]? =some (.own sub g2 0 n2)/\(∀k,k<n2->∀c,c∈f2 k->bx c=true\/dj c=true)/\a i=(f i).set j (.bu oZ n2 e2 f2 F)/\(∀k,k<n->k≠i->a k=f k)/\
 h1=(h.set id (.row g sz n e a)).set sub .dead
inductive tj (m:Nat) (body:(Env->List al->Prop)->Env->List al->Prop):Env->List al->Prop
 | take {env:Env} {h:List al} (σ:List (Nat×PV)) (η:List al) (ht:Ai m env h σ η) (hk:tj m body (CH qY σ) η):tj m body env h
 | step {env:Env} {h:List al} (N:Env->List al->Prop) (hN:∀e h',N e h'->tj m body e h') (hb:body N env h):tj m body env h
 | ex {env:Env} {h:List al} (h1:List al) (hx:K6 h h1) (hk:tj m body env h1):tj m body env h
 | ab {env:Env} {h:List al} (id i j sub:Nat) (h1:(Nat->Prop)->List al) (ha:∀F,Ht h id i j sub F (h1 F)) (hk:∀F,tj m body env (h1 F)):tj m body env h
def aA (m:Nat) (body:(Env->List al->Prop)->Env->List al->Prop) (σ:List (Nat×PV)) (η:List al):Prop:=tj m body (CH qY σ) η
inductive loopGo (m:Nat) (body:(Env->List al->Prop)->Env->List al->Prop) (env:Env):List al->Prop
 | mk {h:List al} (σ:List (Nat×PV)) (η:List al) (ht:Ai m env h σ η) (hk:aA m body σ η):loopGo m body env h
 | ex {h:List al} (h1:List al) (hx:K6 h h1) (hk:loopGo m body env h1):loopGo m body env h
 | ab {h:List al} (id i j sub:Nat) (h1:(Nat->Prop)->List al) (ha:∀F,Ht h id i j sub F (h1 F)) (hk:∀F,loopGo m body env (h1 F)):loopGo m body env h
theorem loopGo.to {m:Nat} {body:(Env->List al->Prop)->Env->List al->Prop} {env:Env} {h:List al} (hg:loopGo m body env h):tj m body env h:=by
 induction hg with
 | mk σ η c a=>exact .take σ η c a
 | ex h1 d a b=>exact .ex h1 d b
 | ab id i j sub h1 ha a b=>exact .ab id i j sub h1 ha b
theorem aA.enter {m:Nat} {body:(Env->List al->Prop)->Env->List al->Prop} {env:Env} {h:List al} (σ:List (Nat×PV)) (η:List al) (a:Ai m env h σ η) (b:aA m body σ η):tj m body env h:=.take σ η a b
theorem aA.round {m:Nat} {body:(Env->List al->Prop)->Env->List al->Prop} {σ:List (Nat×PV)} {η:List al} (a:body (loopGo m body) (CH qY σ) η):aA m body σ η:=
 .step (loopGo m body) (λ_ _ hg=>hg.to) a
inductive Aj (m:Nat) (J:List (Nat×PV)->List al->Prop) (env:Env):List al->Prop
 | mk {h:List al} (σ:List (Nat×PV)) (η:List al) (ht:Ai m env h σ η) (hj:J σ η):Aj m J env h
 | ex {h:List al} (h1:List al) (hx:K6 h h1) (hk:Aj m J env h1):Aj m J env h
 | ab {h:List al} (id i j sub:Nat) (h1:(Nat->Prop)->List al) (ha:∀F,Ht h id i j sub F (h1 F)) (hk:∀F,Aj m J env (h1 F)):Aj m J env h
inductive xa (m:Nat) (A B:XQ->Env->List al->Prop) (Q:XQ) (env:Env):List al->Prop
 | direct {h:List al} (hd:A (XQ.then (B Q) Q) env h):xa m A B Q env h
 | cut {h:List al} (J:List (Nat×PV)->List al->Prop) (ha:A (XQ.then (Aj m J) Q) env h) (hb:∀σ η,J σ η->B Q (CH qY σ) η):xa m A B Q env h
 | ex {h:List al} (h1:List al) (hx:K6 h h1) (hk:xa m A B Q env h1):xa m A B Q env h
 | ab {h:List al} (id i j sub:Nat) (h1:(Nat->Prop)->List al) (ha:∀F,Ht h id i j sub F (h1 F)) (hk:∀F,xa m A B Q env (h1 F)):xa m A B Q env h
def Hg:Op->Bool
 | .call ⟨.value _,_,_⟩=>false
 | .call ⟨.builtin .append,_,_⟩=>false
 | .call ⟨.builtin .copy,_,_⟩=>false
 | .store _ _ _=>false
 | .box _ _=>false
 | .alloc _=>false
 | .makeSlice _ _ _=>false
 | .buildSlice _ _ _=>false
 | .makeMap _ _=>false
 | .mapUpdate _ _ _ _=>false
 | _=>true
def Ao:PV->Bool
 | .int _ _=>true
 | .bool _=>true
 | .str _=>true
 | .az=>true
 | _=>false
def T6 (P:Program) (b:PV) (args:List PV) (h:List al) (K:PV->Prop):Prop:=
 match b with
 | .fn f=>dh (args.all lF) (∃(a:List PV) (v:PV),vn h [] [] args a/\a.all lF=true/\ACall P f a [] (λres _=>res=v)/\dh (Ao v) (K v))
 | _=>False
def qop (P:Program) (T:rO) (op:Op) (env:Env) (h:List al) (K:PV->Prop):Prop:=
 match op with
 | .call ⟨.value a,args,_⟩=>T6 P (ev env a) (args.toList.map (ev env)) h K
 | op=>ck T op env h K
def za (P:Program) (T:rO) (all:List Oper) (h:List al) (K:Env->Prop) (l:List Oper):Env->Prop:=
 List.rec (motive:=λ_=>Env->Prop) K (λo _ a env=>match o.guard with
  | none=>qop P T o.op env h (λv=>a (eg env o.dst v))
  | some (j,want)=>match(all[j]?).bind (·.dst)with
   | some t=>match env t with
    | .bool b=>ef b
      (match want with
       | true=>qop P T o.op (sB env t (.bool true)) h (λv=>a (eg (sB env t (.bool true)) o.dst v))
       | false=>a (eg (sB env t (.bool true)) o.dst (.eG [])))
      (match want with
       | true=>a (eg (sB env t (.bool false)) o.dst (.eG []))
       | false=>qop P T o.op (sB env t (.bool false)) h (λv=>a (eg (sB env t (.bool false)) o.dst v)))
    | .eG []=>a (eg env o.dst (.eG []))
    | _=>False
   | none=>False) l
def qG:List Nat->Nat->Bool
 | [],_=>false
 | a::r,x=>match Nat.beq a x with
  | true=>true
  | false=>qG r x
def vH:PV->List Nat
 | .own id _ _ _=>[id]
 | .aF id _ _ _=>[id]
 | .ke id=>[id]
 | .qE _ bJ=>bJ.map (·.1)
 | _=>[]
def oX (env:Env) (op:Op):List Nat:=match op with | .move _=>[] | _=>op.operands.toList.flatMap λx=>vH (ev env x)
def T8 (o:Oper):List Nat:=o.after.toList.filterMap λe=>match Region.binds .any e with | true=>some e.on | false=>none
def c7 (all:List Oper) (i:Nat):List Nat:=match all[i]? with | some o=>T8 o | none=>[]
def fE:List (Nat×List Nat)->Nat->List Nat
 | [],_=>[]
 | (j,A)::r,i=>match Nat.beq j i with | true=>A | false=>fE r i
def ddL:List Nat->List Nat->List Nat
 | [],acc=>acc
 | a::r,acc=>match qG acc a with | true=>ddL r acc | false=>ddL r (a::acc)
def I7 (all:List Oper):List (Nat×Bool)->List (Nat×List Nat)->List (Nat×List Nat)
 | [],t=>t
 | (i,_)::r,t=>I7 all r ((i,ddL (c7 all i++(c7 all i).flatMap (fE t)) [])::t)
def xG (ops:Array Oper) (i j:Nat):Bool:=match ops[i]?,ops[j]? with | some x,some y=>Oper.apart ops x y | _,_=>false
def jx (ops:Array Oper) (t:List (Nat×List Nat)) (p i:Nat×Bool):Bool:=
 !(Nat.beq p.1 i.1)&&!(qG (c7 ops.toList p.1) i.1)&&(qG (c7 ops.toList i.1) p.1||(xG ops p.1 i.1&&(p.2||qG (fE t i.1) p.1)))
def cn (ops:Array Oper) (t:List (Nat×List Nat)):List (Nat×Bool)->Bool
 | []=>true
 | p::r=>r.all (jx ops t p)&&cn ops t r
def O8 (ops:Array Oper) (ord:List (Nat×Bool)):Bool:=
 Nat.beq ord.length ops.size&&(List.range ops.size).all (λj=>qG (ord.map (·.1)) j)&&ord.all (λp=>Nat.blt p.1 ops.size&&(c7 ops.toList p.1).all (λd=>Nat.blt d ops.size&&!(Nat.beq d p.1)))&&cn ops (I7 ops.toList ord []) ord
def Jd (h h':List al) (K:Prop):List Nat->Prop
 | []=>K
 | id::r=>cH h id=cH h' id/\Jd h h' K r
def tr (a:List Nat) (h h':List al) (K:Prop):List (Nat×List Nat)->Prop
 | []=>K
 | (j,ids)::r=>match qG a j with
  | true=>tr a h h' K r
  | false=>Jd h h' (tr a h h' K r) ids
def Gg (P:Program) (T:rO) (st:Bool) (op:Op) (env:Env) (h:List al) (G:PV->List al->Prop):Prop:=
 match st with
 | true=>ck T op env h (λv=>G v h)
 | false=>pop P T op env h G
def yp (P:Program) (T:rO) (all:List Oper) (st:Bool) (o:Oper) (F:Env->PV->List al->Prop) (env:Env) (h:List al):Prop:=
 match o.guard with
 | none=>Gg P T st o.op env h (F env)
 | some (j,want)=>match(all[j]?).bind (·.dst)with
  | some t=>match env t with
   | .bool b=>ef b
     (match want with
      | true=>Gg P T st o.op (sB env t (.bool true)) h (F (sB env t (.bool true)))
      | false=>F (sB env t (.bool true)) (.eG []) h)
     (match want with
      | true=>F (sB env t (.bool false)) (.eG []) h
      | false=>Gg P T st o.op (sB env t (.bool false)) h (F (sB env t (.bool false))))
   | .eG []=>F env (.eG []) h
   | _=>False
  | none=>False
def fw (P:Program) (T:rO) (all:List Oper) (t:List (Nat×List Nat)) (K:Env->List al->Prop) (l:List (Nat×Bool)):List (Nat×List Nat)->Env->List al->Prop:=
 List.rec (motive:=λ_=>List (Nat×List Nat)->Env->List al->Prop) (λ_ env h=>K env h) (λp _ b a env h=>match all[p.1]? with
  | some o=>match p.2 with
   | true=>yp P T all true o (λenv' v h'=>b ((p.1,oX env' o.op)::a) (eg env' o.dst v) h') env h
   | false=>yp P T all false o (λenv' v h'=>tr (fE t p.1) h h' (b a (eg env' o.dst v) h') a) env h
  | none=>False) l
def fwE (P:Program) (T:rO) (all:List Oper) (t:List (Nat×List Nat)) (E:List (Nat×List Nat)->Env->List al->Prop) (l:List (Nat×Bool)):List (Nat×List Nat)->Env->List al->Prop:=
 List.rec (motive:=λ_=>List (Nat×List Nat)->Env->List al->Prop) (λa env h=>E a env h) (λp _ b a env h=>match all[p.1]? with
  | some o=>match p.2 with
   | true=>yp P T all true o (λenv' v h'=>b ((p.1,oX env' o.op)::a) (eg env' o.dst v) h') env h
   | false=>yp P T all false o (λenv' v h'=>tr (fE t p.1) h h' (b a (eg env' o.dst v) h') a) env h
  | none=>False) l
def Ua (ops:Array Oper) (t:List (Nat×List Nat)) (ord:List (Nat×Bool)) (x y:Nat) (a b:List Nat):Bool:=
 Nat.beq a.length b.length&&ord.all (λp=>jx ops t p (x,false)&&jx ops t p (y,false)&&(c7 ops.toList p.1).all (λd=>!(qG (x::a) d))&&!(qG (x::a) p.1))&&
  (x::a).all (λj=>qG (y::b) j)&&(y::b).all (λj=>qG (x::a) j)&&(c7 ops.toList x).all (λd=>!(qG (x::a) d))&&!(qG a x)&&!(qG b y)&&
  a.all (λj=>Nat.beq j y||qG (fE t j) x||qG (fE t j) y)
abbrev tn:=List (List (Nat×Bool)×Nat×Nat×List (Nat×Bool))
def Gh:tn->List (Nat×Bool)->List (Nat×Bool)
 | [],fin=>fin
 | c::r,fin=>c.1++(c.2.1,false)::Gh r fin
def fwC (P:Program) (T:rO) (all:List Oper) (t:List (Nat×List Nat)) (K:Env->List al->Prop) (fin:List (Nat×Bool)) (cs:tn):List (Nat×List Nat)->Env->List al->Prop:=
 List.rec (motive:=λ_=>List (Nat×List Nat)->Env->List al->Prop) (λa env h=>fw P T all t K fin a env h)
  (λc _ b a env h=>fwE P T all t (λa env h=>fwE P T all t b [(c.2.1,false)] a env h/\fw P T all t K ((c.2.2.1,false)::c.2.2.2) a env h) c.1 a env h) cs
def Qr (ops:Array Oper) (t:List (Nat×List Nat)) (fin:List (Nat×Bool)):tn->List (Nat×Bool)->Bool
 | [],pre=>cn ops t (pre++fin)
 | c::r,pre=>Ua ops t (pre++c.1) c.2.1 c.2.2.1 ((Gh r fin).map (·.1)) (c.2.2.2.map (·.1))&&cn ops t ((pre++c.1)++c.2.2.2)&&Qr ops t fin r (pre++c.1)
def EM (ops:Array Oper) (cs:tn) (fin:List (Nat×Bool)):Bool:=
 (λall=>(λt=>Nat.beq all.length ops.size&&(List.range ops.size).all (λj=>qG (all.map (·.1)) j)&&all.all (λp=>Nat.blt p.1 ops.size&&(c7 ops.toList p.1).all (λd=>Nat.blt d ops.size&&!(Nat.beq d p.1)))&&
  Qr ops t fin cs []) (I7 ops.toList all [])) (Gh cs fin)
inductive EN (P:Program) (T:rO) (m:Nat) (ops:Array Oper) (K:Env->List al->Prop) (env:Env) (h:List al):Prop
 | quiet (hq:za P T ops.toList h (λenv'=>K env' h) ops.toList env):EN P T m ops K env h
 | Nn (cs:tn) (fin:List (Nat×Bool)) (hc:EM ops cs fin=true) (hf:fwC P T ops.toList (I7 ops.toList (Gh cs fin) []) K fin cs [] env h):EN P T m ops K env h
 | float (ord:List (Nat×Bool)) (hc:O8 ops ord=true) (hf:fw P T ops.toList (I7 ops.toList ord []) K ord [] env h):EN P T m ops K env h
def Yf (Q:XQ) (env:Env) (h:List al):Prop:=Q .normal env h
def adY (Q:XQ) (h:List al) (env:Env):Prop:=Q .normal env h
def vc (P:Program) (T:rO) (m:Nat) (c:Code):XQ->Env->List al->Prop:=
 Code.rec (motive:=λ_=>XQ->Env->List al->Prop)
  (λQ env h=>Q .normal env h)
  (λ_ ops d Q env h=>match d with
   | false=>xj P T ops.toList (Q .normal) ops.toList env h
   | true=>match ops.toList.all (λo=>Hg o.op)with
    | true=>za P T ops.toList h (adY Q h) ops.toList env
    | false=>EN P T m ops (Yf Q) env h)
  (λ_ _ a b Q env h=>xa m a b Q env h)
  (λc _ _ a b Q env h=>match ev env c with
   | .bool t=>ef t (a Q env h) (b Q env h)
   | _=>False)
  (λid _ e Q env h=>e (XQ.inBlock id Q) env h)
  (λ_ e Q env h=>tj m (λnext=>e (XQ.then next Q)) env h)
  (λ_ _ _ _ _ _ _ _ _=>False)
  (λid Q env h=>Q (.exit id) env h)
  (λ_ _ _ _ _=>False)
  (λ_ Q env h=>Q .normal env h)
  (λ_ _ _ _=>False)
  (λQ env h=>Q .ret env h)
  (λ_ _ _ _=>False) c
def codeOk (nt:Nat):Code->Bool
 | .region _ ops d=>ops.toList.all (λo=>match o.dst with | some t=>Nat.blt t nt | none=>true)&&(!d||Region.lexB .any ops)
 | .seq a b=>codeOk nt a&&codeOk nt b
 | .cond _ a b=>codeOk nt a&&codeOk nt b
 | .block _ c=>codeOk nt c
 | .loop c=>codeOk nt c
 | _=>true
def xI (T:rO) (env:Env) (h:List al):List ResultVar->(List PV->Prop)->Prop
 | [],K=>K []
 | .tmp t::r,K=>xI T env h r (λvs=>K (env t::vs))
 | .cell t ty::r,K=>zY T ty (env t) h (λv=>xI T env h r (λvs=>K (v::vs)))
def oneOf:List PV->PV
 | [v]=>v
 | vs=>.eG vs
inductive Ends (m:Nat) (R:PV->List al->Prop):List al->List PV->Prop
 | mk {h:List al} {vs:List PV} (hn:vs.all lF=true) (k:List Nat) (res:PV) (η:List al) (hk:pt (oU η k)=true) (hm:m<=k.length) (hz:Fz h η k (oneOf vs) res) (hh:kV h η k m 0 η k) (hR:R res η):Ends m R h vs
 | ex {h:List al} {vs:List PV} (h1:List al) (hx:K6 h h1) (hk:Ends m R h1 vs):Ends m R h vs
 | ab {h:List al} {vs:List PV} (id i j sub:Nat) (h1:(Nat->Prop)->List al) (ha:∀F,Ht h id i j sub F (h1 F)) (hk:∀F,Ends m R (h1 F) vs):Ends m R h vs
def adA (T:rO) (rs:List ResultVar) (m:Nat) (R:PV->List al->Prop):XQ
 | .ret,env,h=>xI T env h rs (Ends m R h)
 | .normal,env,h=>xI T env h rs (Ends m R h)
 | _,_,_=>False
def xd (args:List PV):Env:=λt=>args.getD t .jw
def N8 (env env':Env) (op:Op):Prop:=∀x,x∈op.operands.toList->ev env x=ev env' x
def aba (h h':List al) (env:Env) (op:Op):Prop:=∀x,x∈op.operands.toList->∀id,id∈vH (ev env x)->cH h id=cH h' id
theorem j9 {v:PV} {K:PV->Prop} (h:K v):force v K:=by cases v<;>exact h
theorem EP {env env':Env} {sz:Nat} {fl:List (Nat×Nat×Bool)} {K:List PV->Prop}:∀(l:List (Nat×Operand)) (acc:List PV),(∀p,p∈l->ev env p.2=ev env' p.2)->rR env sz fl K l acc=rR env' sz fl K l acc
 | [],acc,_=>rfl
 | (k,x)::r,acc,hs=>by
  have e:=hs (k,x) alW;simp only at e;unfold rR;rw[e];split
  ·congr 1;funext v;rw[EP r _ (λp hp=>hs p (ahZ _ hp))]
  ·rfl
theorem ER {env env':Env} {sz:Nat} {K:List (List PV)->Prop}:∀(l:List (Nat×Operand)) (acc:List (List PV)),(∀p,p∈l->ev env p.2=ev env' p.2)->tM env sz K l acc=tM env' sz K l acc
 | [],acc,_=>rfl
 | (k,x)::r,acc,hs=>by
  have e:=hs (k,x) alW;simp only at e;unfold tM;rw[e];congr 1;funext v;rw[ER r _ (λp hp=>hs p (ahZ _ hp))]
theorem N9 {env env':Env} {o:Option Operand} (hs:∀x,o=some x->ev env x=ev env' x):o.map (ev env)=o.map (ev env'):=by
 cases o with
 | none=>rfl
 | some x=>simp [hs x rfl]
theorem Hj {env env':Env} {K:List (Nat×Nat)->Prop}:∀(l:List Operand) (acc:List (Nat×Nat)),(∀x,x∈l->ev env x=ev env' x)->wV env K l acc=wV env' K l acc
 | [],_,_=>rfl
 | x::r,acc,hs=>by
  unfold wV;rw[hs x alW];split
  ·exact Hj r _ (λy hy=>hs y (ahZ _ hy))
  ·rfl
theorem AA {T:rO} {env env':Env} {h:List al} {K:PV->Prop} (op:Op) (hs:N8 env env' op):ck T op env h K=ck T op env' h K:=by
 cases op with
 | move x=>simp only[ck,hs x alY]
 | assign x=>simp only[ck,hs x alY]
 | pick c a b=>simp only[ck,hs c alY,hs a alY,hs b alY]
 | binOp m t x y n=>simp only[ck,hs x alY,hs y alY]
 | unOp u t x=>simp only[ck,hs x alY]
 | load t a=>simp only[ck,hs a alY]
 | convert s d x=>simp only[ck,hs x alY]
 | nilCheck x=>simp only[ck,hs x alY]
 | fieldAddr s x k=>simp only[ck,hs x alY]
 | field s x k=>simp only[ck,hs x alY]
 | build t parts=>
  have e:∀sz fl (K:List PV->Prop) z,rR env sz fl K parts.toList z=rR env' sz fl K parts.toList z:=λsz fl K z=>EP _ _ (λp hp=>hs p.2 amu);simp only[ck,e]
 | indexAddr t x i=>simp only[ck,hs x alY,hs i alY]
 | index t x i=>simp only[ck,hs x alY,hs i alY]
 | extract x i=>simp only[ck,hs x alY]
 | lookup t x i ok=>simp only[ck,hs x alY,hs i alY]
 | makeFunc fn first captured=>
  have e:∀(K:List (Nat×Nat)->Prop) acc,wV env K captured.toList acc=wV env' K captured.toList acc:=λK acc=>Hj _ _ (λx f=>hs x (by simp [Op.operands];right;simpa using f));simp only[ck,e]
 | slice t x lo hi g=>
  have j:lo.map (ev env)=lo.map (ev env'):=N9 (λy hy=>hs y amt);have e2:hi.map (ev env)=hi.map (ev env'):=N9 (λy hy=>hs y amt);have l:g.map (ev env)=g.map (ev env'):=N9 (λy hy=>hs y amt);simp only[ck,hs x alY,j,e2,l]
 | call c=>
  obtain⟨callee,args,o⟩:=c;cases callee with
  | builtin b=>
   cases b with
   | len=>
    simp only[ck];split
    ·rename_i x t f q;have e:=hs x (by simp [Op.operands,Call.operands];have:x∈args.toList:=(by rw[f];simp);simpa using this);rw[e]
    ·rfl
   | _=>rfl
  | _=>rfl
 | _=>rfl
theorem Qt {T:rO} {env:Env} {h h':List al} {K:PV->Prop} (op:Op) (hs:aba h h' env op):ck T op env h K=ck T op env h' K:=by
 cases op with
 | load t a=>
  have q:=hs a alY;simp only[ck];revert q;generalize ev env a=v;intro q;cases v with
  | aF id g i o=>simp only[zY,q id aml]
  | _=>rfl
 | convert s d x=>
  have q:=hs x alY;simp only[ck];revert q;generalize ev env x=v;intro q
  have e:∀K,yO v h K=yO v h' K:=λK=>by
   cases v with
   | own id g i o=>simp only[yO,q id aml]
   | _=>rfl
  generalize T.get s=ti;generalize T.get d=f;cases ti with
  | slice a b c z=>cases f with
   | str=>simp only[e]
   | _=>rfl
  | int k=>cases f<;>cases v<;>rfl
  | _=>rfl
 | nilCheck x=>
  have q:=hs x alY;simp only[ck];revert q;generalize ev env x=v;intro q;cases v with
  | aF id g i o=>simp only[q id aml]
  | _=>rfl
 | fieldAddr s x k=>
  have q:=hs x alY;simp only[ck];revert q;generalize ev env x=v;intro q;cases v with
  | aF id g i o=>simp only[q id aml]
  | _=>rfl
 | indexAddr t x i=>
  have q:=hs x alY;simp only[ck];revert q;generalize ev env x=v;generalize ev env i=u;generalize T.get t=ti;intro q;cases ti with
  | slice e sz b z=>cases v with
   | own id g o l=>cases u with
    | int k n=>simp only[q id aml]
    | _=>rfl
   | fF a b c=>cases u<;>rfl
   | _=>rfl
  | _=>rfl
 | lookup t x i ok=>
  have q:=hs x alY;simp only[ck];revert q;generalize ev env x=v;generalize T.get t=ti;intro q;cases ti with
  | map k e z=>cases v with
   | ke id=>simp only[q id aml]
   | _=>rfl
  | _=>cases v<;>rfl
 | slice t x lo hi m=>
  have q:=hs x alY;simp only[ck];revert q;generalize ev env x=v;generalize T.get t=ti;intro q;cases ti with
  | slice e sz b z=>cases v with
   | own id g o l=>simp only[q id aml]
   | _=>rfl
  | str=>cases v<;>rfl
  | _=>rfl
 | call c=>
  obtain⟨callee,args,p⟩:=c;cases callee with
  | builtin b=>
   cases b with
   | len=>
    simp only[ck];split
    ·rename_i x t j r;have q:=hs x (by simp [Op.operands,Call.operands];have:x∈args.toList:=(by rw[j];simp);simpa using this);revert q;generalize ev env x=v;generalize T.get t=ti;intro q;cases ti with
     | slice e sz b z=>cases v with
      | own id g o l=>simp only[q id aml]
      | _=>rfl
     | map k e z=>cases v with
      | ke id=>simp only[q id aml]
      | _=>rfl
     | str=>cases v<;>rfl
     | _=>rfl
    ·rfl
   | _=>rfl
  | _=>rfl
 | _=>rfl
def One (F:(PV->Prop)->Prop):Prop:=∀K,F K->∃v,K v/\∀a,a v->F a
theorem ux (v:PV):One (force v):=λK h=>⟨v,bT h,λb a=>j9 a⟩
theorem bm (v:PV):One (λK=>K v):=λK h=>⟨v,h,λ_ a=>a⟩
theorem cZ {A:Prop} {F:(PV->Prop)->Prop} (h:One F):One (λK=>A/\F K):=λK a=>
 let⟨v,h1,h2⟩:=h K a.2
 ⟨v,h1,λb c=>⟨a.1,h2 b c⟩⟩
theorem ia {b:Bool} {F:(PV->Prop)->Prop} (h:One F):One (λK=>dh b (F K)):=λK a=>by
 cases b with
 | true=>exact h K a
 | false=>exact a.elim
theorem xn {α:Type} {A:α->Prop} {F:α->(PV->Prop)->Prop} (h:∀c,One (F c)):One (λK=>∃c,A c/\F c K):=λK ⟨c,ha,a⟩=>
 let⟨v,h1,h2⟩:=h c K a
 ⟨v,h1,λb d=>⟨c,ha,h2 b d⟩⟩
theorem ES {F:(PV->Prop)->Prop} (h:One F):One (λK=>F (KK K)):=λK l=>by
 obtain⟨v,h1,h2⟩:=h _ l;cases v with
 | fF sz n f=>
  obtain⟨b,i,c,e2,d⟩:=h1;exact⟨.fF sz b i,d,λe a=>h2 _ ⟨b,i,c,e2,a⟩⟩
 | own id g off n=>
  obtain⟨j,b,c,e2,d⟩:=h1;exact⟨.own id g j b,d,λe a=>h2 _ ⟨j,b,c,e2,a⟩⟩
 | str s=>
  obtain⟨k,c,d⟩:=h1;exact⟨.str k,d,λe a=>h2 _ ⟨k,c,a⟩⟩
 | _=>exact⟨_,h1,λe a=>h2 _ a⟩
theorem Bx {K:List PV->Prop}:∀(n:Nat) (l acc:List PV),n<=l.length->K (acc.reverse++l.take n)->Hi K n l acc
 | 0,l,acc,_,h=>by unfold Hi;simpa using h
 | n+1,[],acc,hl,_=>by simp at hl
 | n+1,c::r,acc,hl,h=>j9 (Bx n r (c::acc) (by simp at hl;omega) amg)
theorem ET (T:rO) (t:Nat) (cells:List PV):One (Bg T t cells):=λK a=>by
 unfold Bg at a ⊢;generalize T.get t=q1 at a ⊢;cases q1 with
 | struct sz fl z=>
  obtain⟨h1,h2⟩:=rQ _ _ _ a;exact⟨_,h2,λd b=>Bx _ _ _ h1 b⟩
 | other=>exact a.elim
 | _=>
  cases cells with
  | nil=>exact a.elim
  | cons c r=>exact ux c K a
theorem Qu (T:rO) (t:Nat) (a:PV) (h:List al):One (zY T t a h):=λK b=>by
 cases a with
 | fC cells=>exact ET T t cells K b
 | aF id gen i off=>
  simp only[zY]at b ⊢;generalize cH h id=q2 at b ⊢;cases q2 with
  | row g sz n e f=>exact cZ (xn (λc=>ET T t _)) K b
  | dead=>exact b.elim
 | _=>exact b.elim
theorem Uh (ti:TI) (e:BinOp) (x y:PV):One (PU ti e x y):=λK d=>by
 cases x with
 | int k a=>cases y with
  | int h b=>
   cases e with
   | shl=>exact cZ (bm _) K d
   | shr=>exact cZ (bm _) K d
   | quo=>exact ia (cZ (bm _)) K d
   | rem=>exact ia (cZ (bm _)) K d
   | _=>exact ia (bm _) K d
  | _=>exact d.elim
 | bool a=>cases y with
  | bool b=>cases ti with
   | bool=>cases e with
    | eql=>exact bm _ K d
    | neq=>exact bm _ K d
    | _=>exact d.elim
   | _=>exact d.elim
  | _=>exact d.elim
 | str a=>cases y with
  | str b=>cases e with
   | add=>exact cZ (xn λc=>bm _) K d
   | eql=>exact bm _ K d
   | neq=>exact bm _ K d
   | lss=>exact bm _ K d
   | leq=>exact bm _ K d
   | gtr=>exact bm _ K d
   | geq=>exact bm _ K d
   | _=>exact d.elim
  | _=>exact d.elim
 | agg xs=>cases y with
  | agg f=>cases ti with
   | struct sz fl z=>
    simp only[PU]at d ⊢;generalize BP z=g at d ⊢;cases g with
    | false=>exact d.elim
    | true=>
     simp only[dh]at d ⊢;generalize GJ z xs f=q at d ⊢;cases q with
     | none=>exact d.elim
     | some b=>cases e<;>first | exact d.elim | exact xn (λc=>bm _) K d
   | _=>exact d.elim
  | _=>exact d.elim
 | _=>exact d.elim
theorem zb (x:PV) (lo hi:Option PV):One (D6 x lo hi):=λK a=>by
 cases x with
 | fF sz n f=>
  cases lo with
  | none=>cases hi with
   | none=>exact bm _ K a
   | some u=>cases u<;>first | exact a.elim | exact cZ (bm _) K a
  | some l=>cases l with
   | int k l=>cases hi with
    | none=>exact cZ (bm _) K a
    | some u=>cases u<;>first | exact a.elim | exact cZ (bm _) K a
   | _=>cases hi<;>exact a.elim
 | own id gen off len=>
  cases lo with
  | none=>cases hi with
   | none=>exact bm _ K a
   | some u=>cases u<;>first | exact a.elim | exact cZ (bm _) K a
  | some l=>cases l with
   | int k l=>cases hi with
    | none=>exact cZ (bm _) K a
    | some u=>cases u<;>first | exact a.elim | exact cZ (bm _) K a
   | _=>cases hi<;>exact a.elim
 | str s=>
  cases lo with
  | none=>cases hi with
   | none=>exact bm _ K a
   | some u=>cases u<;>first | exact a.elim | exact cZ (bm _) K a
  | some l=>cases l with
   | int k l=>cases hi with
    | none=>exact cZ (bm _) K a
    | some u=>cases u<;>first | exact a.elim | exact cZ (bm _) K a
   | _=>cases hi<;>exact a.elim
 | _=>exact a.elim
theorem Oa (v:PV) (h:List al):One (λK=>yO v h (λs=>K (.str s))):=λK a=>by
 cases v with
 | az=>exact bm _ K a
 | fF sz n f=>exact ia (xn λs=>cZ (bm _)) K a
 | own id gen off n=>
  simp only[yO]at a ⊢;generalize cH h id=q3 at a ⊢;cases q3 with
  | row g sz n e f=>exact cZ (ia (xn λs=>cZ (bm _))) K a
  | dead=>exact a.elim
 | _=>exact a.elim
theorem EU (env:Env) (sz:Nat) (fl:List (Nat×Nat×Bool)):∀(l:List (Nat×Operand)) (acc:List PV),One (λK=>rR env sz fl (λcs=>K (.agg cs)) l acc)
 | [],acc=>bm _
 | (k,x)::r,acc=>λK a=>by
  unfold rR at a ⊢;generalize fl[k]? =q4 at a ⊢;cases q4 with
  | none=>exact a.elim
  | some p=>
   obtain⟨o,size,b⟩:=p;have h1:=bT a;obtain⟨v,h2,h3⟩:=ia (EU env sz fl r _) K h1;exact⟨v,h2,λc d=>j9 (h3 c d)⟩
theorem Hk {env:Env} (f:Nat):∀(l:List Operand) (acc:List (Nat×Nat)),One (λK=>wV env (λbJ=>K (.qE f bJ)) l acc)
 | [],_=>bm _
 | x::r,acc=>λK a=>by
  unfold wV at a ⊢;generalize ev env x=v at a ⊢;split at a
  ·exact Hk f r _ K a
  ·exact a.elim
theorem Ui (ti:TI) (n:Nat) (f:Nat->List PV) (a e:PV) (ok:Bool):One (λK=>dh (kA ti a a).isSome (∃r b,TG ti f n a e r b/\match ok with
  | true=>K (.eG [r,.bool b])
  | false=>force r K)):=ia (λK g=>by
 obtain⟨r,b,hm,d⟩:=g;cases ok with
 | true=>exact⟨_,d,λh c=>⟨r,b,hm,c⟩⟩
 | false=>exact⟨_,bT d,λh c=>⟨r,b,hm,j9 c⟩⟩)
theorem Lx (T:rO) (op:Op) (env:Env) (h:List al):One (ck T op env h):=λK l=>by
 cases op with
 | move x=>exact ux _ K l
 | assign x=>exact ux _ K l
 | pick c a b=>
  simp only[ck]at l ⊢;generalize ev env c=v at l ⊢;cases v with
  | bool t=>
   obtain⟨h1,h2⟩:=lD l;cases t with
   | true=>exact⟨_,bT (h1 rfl),λw m=>.mk (λ_=>j9 m) (λh=>by cases h)⟩
   | false=>exact⟨_,bT (h2 rfl),λw m=>.mk (λh=>by cases h) (λ_=>j9 m)⟩
  | _=>exact l.elim
 | binOp V t x y W=>exact Uh _ _ _ _ K l
 | unOp u t x=>
  simp only[ck]at l ⊢;generalize ev env x=v at l ⊢;cases u<;>cases v<;>first | exact l.elim | exact bm _ K l
 | load t a=>exact Qu _ _ _ _ K l
 | convert s d x=>
  simp only[ck]at l ⊢;generalize ev env x=v at l ⊢;generalize T.get s=ti at l ⊢;generalize T.get d=A at l ⊢;cases ti with
  | int k=>cases A with
   | int X=>cases v<;>first | exact l.elim | exact bm _ K l
   | _=>cases v<;>exact l.elim
  | slice e sz b z=>cases A with
   | str=>
    simp only at l ⊢;generalize T.get e=Q at l ⊢;cases Q with
    | int k=>cases k<;>first | exact l.elim | exact Oa _ _ K l
    | _=>exact l.elim
   | _=>cases v<;>exact l.elim
  | _=>cases A<;>cases v<;>exact l.elim
 | nilCheck x=>
  simp only[ck]at l ⊢;generalize ev env x=v at l ⊢;cases v with
  | fC cs=>exact bm _ K l
  | aF id gen i off=>
   simp only at l ⊢;generalize cH h id=R at l ⊢;cases R with
   | row g sz n e f=>exact cZ (bm _) K l
   | dead=>exact l.elim
  | _=>exact l.elim
 | fieldAddr s x k=>
  simp only[ck]at l ⊢;generalize ev env x=v at l ⊢;generalize T.get s=B at l ⊢;cases B with
  | struct sz fl z=>
   simp only at l ⊢;generalize fl[k]? =C at l ⊢;cases C with
   | none=>exact l.elim
   | some p=>
    obtain⟨o,a,b⟩:=p;cases v with
    | fC cs=>exact bm _ K l
    | aF id gen i off=>
     simp only at l ⊢;generalize cH h id=D at l ⊢;cases D with
     | row g sz n e f=>exact cZ (bm _) K l
     | dead=>exact l.elim
    | _=>exact l.elim
  | _=>exact l.elim
 | field s x k=>
  simp only[ck]at l ⊢;generalize ev env x=v at l ⊢;generalize T.get s=B at l ⊢;cases B with
  | struct sz fl z=>
   simp only at l ⊢;generalize fl[k]? =C at l ⊢;cases C with
   | none=>exact l.elim
   | some p=>
    obtain⟨o,a,b⟩:=p;cases v with
    | agg cs=>
     cases b with
     | true=>
      obtain⟨h1,h2⟩:=rQ _ _ _ l;exact⟨_,h2,λw m=>Bx _ _ _ h1 m⟩
     | false=>
      simp only at l ⊢;generalize cs.drop o=D at l ⊢;cases D with
      | nil=>exact l.elim
      | cons c r=>exact ux c K l
    | _=>exact l.elim
  | _=>exact l.elim
 | build t parts=>
  simp only[ck]at l ⊢;generalize T.get t=E at l ⊢;cases E with
  | struct sz fl z=>exact EU _ _ _ _ _ K l
  | _=>exact l.elim
 | indexAddr t x i=>
  simp only[ck]at l ⊢;generalize ev env x=v at l ⊢;generalize ev env i=u at l ⊢;generalize T.get t=F at l ⊢;cases F with
  | slice e sz b z=>cases v with
   | fF S n f=>cases u<;>first | exact l.elim | exact ia (cZ (xn λc=>bm _)) K l
   | own id gen off len=>cases u with
    | int k n=>
     simp only at l ⊢;generalize cH h id=G at l ⊢;cases G with
     | row g sz n e f=>exact cZ (ia (cZ (xn λj=>bm _))) K l
     | dead=>exact l.elim
    | _=>exact l.elim
   | _=>cases u<;>exact l.elim
  | _=>cases v<;>cases u<;>exact l.elim
 | index t x i=>
  simp only[ck]at l ⊢;generalize ev env x=v at l ⊢;generalize ev env i=u at l ⊢;generalize T.get t=H at l ⊢;cases H with
  | str=>cases v with
   | str s=>cases u<;>first | exact l.elim | exact cZ (xn λc=>bm _) K l
   | _=>cases u<;>exact l.elim
  | _=>cases v<;>cases u<;>exact l.elim
 | extract x i=>
  simp only[ck]at l ⊢;generalize ev env x=v at l ⊢;cases v with
  | eG vs=>
   simp only at l ⊢;generalize vs[i]? =I at l ⊢;cases I with
   | none=>exact l.elim
   | some u=>exact ux _ K l
  | _=>exact l.elim
 | makeFunc fn first captured=>
  cases fn with
  | func f=>exact ia (Hk f _ _) K l
  | _=>exact l.elim
 | lookup t x i ok=>
  simp only[ck]at l ⊢;generalize ev env x=v at l ⊢;generalize T.get t=J at l ⊢;cases J with
  | map kt U P=>cases v with
   | ke id=>
    simp only at l ⊢;generalize cH h id=L at l ⊢;cases L with
    | row g sz n e f=>
     obtain⟨u,h2,h3⟩:=Ui (T.get kt) n f (ev env i) P ok K (bT l);exact⟨u,h2,λw m=>j9 (h3 w m)⟩
    | dead=>exact l.elim
   | _=>exact l.elim
  | _=>cases v<;>exact l.elim
 | slice t x lo hi Y=>
  simp only[ck]at l ⊢;generalize ev env x=v at l ⊢;generalize T.get t=M at l ⊢;cases M with
  | slice e sz b z=>cases v with
   | fF S n f=>exact ia (cZ (ES (zb _ _ _))) K l
   | own id gen off len=>
    simp only at l ⊢;generalize cH h id=N at l ⊢;cases N with
    | row g sz n e f=>exact cZ (ia (cZ (ES (zb _ _ _)))) K l
    | dead=>exact l.elim
   | _=>exact l.elim
  | str=>cases v with
   | str s=>exact ia (ES (zb _ _ _)) K l
   | _=>exact l.elim
  | _=>cases v<;>exact l.elim
 | call c=>
  obtain⟨callee,args,Z⟩:=c;cases callee with
  | builtin b=>
   cases b with
   | len=>
    simp only[ck]at l ⊢;split at l
    ·rename_i x t hx ht;generalize ev env x=v at l ⊢;generalize T.get t=O at l ⊢;cases O with
     | slice e sz b z=>cases v with
      | fF a n f=>exact bm _ K l
      | az=>exact bm _ K l
      | own id gen off n=>
       simp only at l ⊢;generalize cH h id=q at l ⊢;cases q with
       | row g sz n e f=>exact cZ (bm _) K l
       | dead=>exact l.elim
      | _=>exact l.elim
     | str=>cases v<;>first | exact l.elim | exact bm _ K l
     | map kt U P=>cases v with
      | ke id=>
       simp only at l ⊢;generalize cH h id=q at l ⊢;cases q with
       | row g sz n e f=>exact bm _ K l
       | dead=>exact l.elim
      | _=>exact l.elim
     | _=>cases v<;>exact l.elim
    ·exact l.elim
   | _=>exact l.elim
  | _=>exact l.elim
 | _=>exact l.elim
theorem r7 {v:PV} {K a:PV->Prop} (b:∀v,K v->a v) (h:force v K):force v a:=j9 (b _ (bT h))
theorem dx {b:Bool} {K a:Prop} (c:K->a) (h:dh b K):dh b a:=by cases b;exact h;exact c h
theorem B2 {env:Env} {sz:Nat} {K a:List (List PV)->Prop} (b:∀l,K l->a l):∀(l:List (Nat×Operand)) (acc:List (List PV)),tM env sz K l acc->tM env sz a l acc
 | [],acc,h=>b _ h
 | (k,x)::r,acc,h=>r7 (λv h=>dx (B2 b r _) h) h
theorem By {x:PV} {h:List al} {sz:Nat} {K b:Nat->(Nat->List PV)->Prop} (a:∀n g,K n g->b n g) (hp:Li x h sz K):Li x h sz b:=by
 cases x with
 | az=>exact a _ _ hp
 | fF c m g=>exact dx (a _ _) hp
 | own id gen off m=>
  simp only[Li]at hp ⊢;generalize cH h id=q at hp ⊢;cases q with
  | row g c n e f=>exact⟨hp.1,hp.2.1,dx (a _ _) hp.2.2⟩
  | dead=>exact hp
 | str s=>exact dx (a _ _) hp
 | _=>exact hp
theorem Je {e sz bytes:Nat} {s x:PV} {h:List al} {K d:PV->List al->Prop} (i:∀v h',K v h'->d v h') (hp:xB e sz bytes s x h K):xB e sz bytes s x h d:=by
 cases s with
 | az=>
  simp only[xB]at hp ⊢;exact By (λm g ⟨h,a,b,c,e2,h2⟩=>⟨h,a,b,c,e2,i _ _ h2⟩) hp
 | own id gen off len=>
  simp only[xB]at hp ⊢;generalize cH h id=q at hp ⊢;cases q with
  | row g j n k f=>exact⟨hp.1,dx (By (λm g ⟨h,a,b,c,e2,h2⟩=>⟨h,a,b,c,e2,i _ _ h2⟩)) hp.2⟩
  | dead=>exact hp
 | _=>exact hp
theorem Ob {e sz bytes:Nat} {s x:PV} {h:List al} {K a:PV->List al->Prop} (b:∀v h',K v h'->a v h') (hp:Ln e sz bytes s x h K):Ln e sz bytes s x h a:=by
 unfold Ln at hp ⊢;split at hp
 ·split at hp
  ·exact⟨hp.1,dx (λq=>⟨q.1,b _ _ q.2⟩) hp.2⟩
  ·exact hp
 ·split at hp
  ·split at hp
   ·exact⟨hp.1,hp.2.1,dx (λq=>⟨q.1,b _ _ q.2⟩) hp.2.2⟩
   ·exact hp
  ·exact hp
 ·exact alc
theorem NV.mono {e sz bytes:Nat} {s x:PV} {h:List al} {K a:PV->List al->Prop} (b:∀v h',K v h'->a v h') (hp:NV e sz bytes s x h K):NV e sz bytes s x h a:=by
 cases hp with
 | keep hp=>exact .keep (Je b hp)
 | move hp=>exact .move (Ob b hp)
theorem Oc {e sz:Nat} {s x:PV} {h:List al} {K a:PV->List al->Prop} (b:∀v h',K v h'->a v h') (hp:Ey e sz s x h K):Ey e sz s x h a:=by
 cases s with
 | own id gen off len=>
  simp only[Ey]at hp ⊢;generalize cH h id=q at hp ⊢;cases q with
  | row g d n i f=>exact⟨hp.1,dx (By (λm g ⟨h,c,e2,h2⟩=>⟨h,c,e2,b _ _ h2⟩)) hp.2⟩
  | dead=>exact hp
 | _=>exact hp
theorem uy {T:rO} {op:Op} {env:Env} {h:List al} {K a:PV->Prop} (b:∀v,K v->a v) (hp:ck T op env h K):ck T op env h a:=
 let⟨v,h1,h2⟩:=Lx T op env h K hp
 h2 a (b v h1)
theorem Uj {P:Program} {T:rO} {env:Env} {h:List al} {K D:PV->List al->Prop} (j:∀v h',K v h'->D v h') (op:Op) (hp:pop P T op env h K):pop P T op env h D:=by
 cases op with
 | store t a x=>
  simp only[pop]at hp ⊢;generalize ev env a=v at hp ⊢;cases v with
  | aF id gen i off=>
   simp only at hp ⊢;generalize cH h id=q at hp ⊢;cases q with
   | row g sz n e f=>exact⟨hp.1,r7 (λv h=>dx (λ⟨c,o,p,e2,h2⟩=>⟨c,o,p,e2,j _ _ h2⟩) h) hp.2⟩
   | dead=>exact hp
  | _=>exact hp
 | box t x=>
  simp only[pop]at hp ⊢;exact r7 (λv h=>dx (j _ _) h) hp
 | alloc t=>
  simp only[pop]at hp ⊢;generalize DY (T.get t)=q at hp ⊢;cases q<;>first | exact hp | exact j _ _ hp
 | makeSlice t l c=>
  simp only[pop]at hp ⊢;generalize T.get t=q at hp ⊢;generalize ev env l=u at hp ⊢;generalize ev env c=v at hp ⊢;cases q with
  | slice e sz b z=>cases u with
   | int k n=>cases v with
    | int G m=>(obtain⟨h,A,o,p,e2,h2⟩:=hp;exact⟨h,A,o,p,e2,j _ _ h2⟩)
    | _=>exact hp
   | _=>cases v<;>exact hp
  | _=>cases u<;>cases v<;>exact hp
 | buildSlice t len parts=>
  simp only[pop]at hp ⊢;generalize T.get t=q at hp ⊢;cases q with
  | slice e sz b z=>exact dx (B2 (λ_ ⟨o,p,h2⟩=>⟨o,p,j _ _ h2⟩) _ _) hp
  | _=>exact hp
 | convert s d x=>
  simp only[pop]at hp ⊢;split at hp
  ·split at hp
   ·exact let⟨o,p,h2⟩:=hp;⟨o,p,j _ _ h2⟩
   ·exact hp
  ·exact uy (λv=>j v h) hp
 | binOp H t x y ty=>
  simp only[pop]at hp ⊢;split at hp
  ·exact⟨λh0=>j _ _ (hp.1 h0),j _ _ hp.2⟩
  ·exact uy (λv=>j v h) hp
 | makeMap t r=>
  cases r with
  | none=>
   simp only[pop]at hp ⊢;generalize T.get t=q at hp ⊢;cases q with
   | map k e z=>exact let⟨o,h2⟩:=hp;⟨o,j _ _ h2⟩
   | _=>exact hp
  | some r=>exact hp
 | mapUpdate t m k x=>
  simp only[pop]at hp ⊢;generalize T.get t=q at hp ⊢;generalize ev env m=v at hp ⊢;cases q with
  | map kt I z=>cases v with
   | ke id=>
    simp only at hp ⊢;generalize cH h id=q2 at hp ⊢;cases q2 with
    | row g sz n e f=>exact r7 (λJ h=>r7 (λL h=>dx (λ⟨A,o,p,h2⟩=>⟨A,o,p,j _ _ h2⟩) h) h) hp
    | dead=>exact hp
   | _=>exact hp
  | _=>cases v<;>exact hp
 | call c=>
  obtain⟨callee,args,M⟩:=c;cases callee with
  | value E=>
   simp only[pop]at hp ⊢;generalize ev env E=v at hp ⊢;cases v with
   | fn f=>exact dx (λ⟨R,h1,h2⟩=>⟨R,h1,λres h' B=>j _ _ (h2 res h' B)⟩) hp
   | qE f bJ=>exact dx (λ⟨R,h1,h2⟩=>⟨R,h1,λres h' B=>j _ _ (h2 res h' B)⟩) hp
   | _=>exact hp
  | builtin b=>
   cases b with
   | append=>
    simp only[pop]at hp ⊢;split at hp
    ·rename_i s x t C ha F;generalize T.get t=q at hp ⊢;generalize T.get C=w at hp ⊢;cases q with
     | slice e sz b z=>cases w<;>first | exact hp | exact NV.mono j hp
     | _=>cases w<;>exact hp
    ·exact hp
   | copy=>
    simp only[pop]at hp ⊢;split at hp
    ·rename_i s x t C ha F;generalize T.get t=q at hp ⊢;generalize T.get C=w at hp ⊢;cases q with
     | slice e sz b z=>cases w<;>first | exact hp | exact Oc j hp
     | _=>cases w<;>exact hp
    ·exact hp
   | len=>(simp only[pop]at hp ⊢;exact uy (λv=>j v h) hp)
   | _=>exact hp
  | _=>exact hp
 | _=>(simp only[pop]at hp ⊢;exact uy (λv=>j v h) hp)
theorem Uk {env env':Env} {args:Array Operand} (hs:∀x,x∈args.toList->ev env x=ev env' x):args.toList.map (ev env)=args.toList.map (ev env'):=
 List.map_congr_left hs
theorem WY {env env':Env} {l:List Operand} (hs:∀x,x∈l->ev env x=ev env' x):l.all (λx=>lF (ev env x))=l.all (λx=>lF (ev env' x)):=by
 induction l with
 | nil=>rfl
 | cons a r b=>simp only[aiA,hs a alW,b (λx c=>hs x (ahZ _ c))]
theorem WZ {P:Program} {T:rO} {env env':Env} {h:List al} {K:PV->List al->Prop} (op:Op) (hs:N8 env env' op):pop P T op env h K=pop P T op env' h K:=by
 cases op with
 | store t a x=>simp only[pop,hs a alY,hs x alY]
 | box t x=>simp only[pop,hs x alY]
 | alloc t=>rfl
 | makeSlice t l c=>simp only[pop,hs l alY,hs c alY]
 | buildSlice t len parts=>
  have e:∀sz (K:List (List PV)->Prop) z,tM env sz K parts.toList z=tM env' sz K parts.toList z:=λsz K z=>ER _ _ (λp hp=>hs p.2 amu);simp only[pop,e]
 | convert s d x=>simp only[pop,ck,hs x alY]
 | binOp q t x y ty=>simp only[pop,ck,hs x alY,hs y alY]
 | makeMap t r=>cases r<;>rfl
 | mapUpdate t m k x=>simp only[pop,hs m alY,hs k alY,hs x alY]
 | call c=>
  obtain⟨callee,args,u⟩:=c;cases callee with
  | value i=>
   have j:=hs i (by simp [Op.operands,Call.operands]);have f:∀x,x∈args.toList->ev env x=ev env' x:=λx g=>hs x (by simp [Op.operands,Call.operands];right;simpa using g);simp only[pop,j,Uk f,WY f]
  | builtin b=>
   have f:∀x,x∈args.toList->ev env x=ev env' x:=λx g=>hs x (by simp [Op.operands,Call.operands];simpa using g);cases b with
   | append=>
    simp only[pop];split
    ·rename_i s x t n ha o;rw[f s (by rw[ha];simp),f x (by rw[ha];simp)]
    ·rfl
   | copy=>
    simp only[pop];split
    ·rename_i s x t n ha o;rw[f s (by rw[ha];simp),f x (by rw[ha];simp)]
    ·rfl
   | len=>(simp only[pop];exact AA _ hs)
   | _=>rfl
  | _=>rfl
 | _=>(simp only[pop];exact AA _ hs)
section
variable {P:Program}{T:rO}
def fs (P:Program) (T:rO) (all:List Oper) (st:Bool) (o:Oper) (G:PV->List al->Prop) (env:Env) (h:List al):Prop:=
 match o.guard with
 | none=>Gg P T st o.op env h G
 | some (j,want)=>match(all[j]?).bind (·.dst)with
  | some t=>match env t with
   | .bool b=>match b==want with
    | true=>Gg P T st o.op env h G
    | false=>G (.eG []) h
   | .eG []=>G (.eG []) h
   | _=>False
  | none=>False
theorem CZ {env:Env} {t:Nat} {v:PV} (h:env t=v):sB env t v=env:=by
 funext j;unfold sB;cases a:Nat.beq j t with
 | true=>rw[ahz a,<-h];rfl
 | false=>rfl
theorem Hl {st:Bool} {op:Op} {env:Env} {h:List al} {G a:PV->List al->Prop} (b:∀v h',G v h'->a v h') (hp:Gg P T st op env h G):Gg P T st op env h a:=by
 cases st with
 | true=>exact uy (λv=>b v h) hp
 | false=>exact Uj b _ hp
theorem jl {all:List Oper} {st:Bool} {o:Oper} {env:Env} {h:List al} {G f:PV->List al->Prop} (e:∀v h',G v h'->f v h') (hp:fs P T all st o G env h):fs P T all st o f env h:=by
 unfold fs at hp ⊢;generalize o.guard=g at hp ⊢;cases g with
 | none=>exact Hl e hp
 | some q=>
  obtain⟨j,want⟩:=q;simp only at hp ⊢;generalize(all[j]?).bind (·.dst)=d at hp ⊢;cases d with
  | none=>exact hp
  | some t=>
   simp only at hp ⊢;generalize env t=v at hp ⊢;cases v with
   | bool b=>
    simp only at hp ⊢;generalize(b==want)=c at hp ⊢;cases c with
    | true=>exact Hl e hp
    | false=>exact e _ _ hp
   | eG l=>cases l with
    | nil=>exact e _ _ hp
    | cons a r=>exact hp
   | _=>exact hp
theorem tt {all:List Oper} {st:Bool} {o:Oper} {F:Env->PV->List al->Prop} {env:Env} {h:List al} (hp:yp P T all st o F env h):fs P T all st o (F env) env h:=by
 unfold yp at hp;unfold fs;generalize o.guard=g at hp ⊢;cases g with
 | none=>exact hp
 | some q=>
  obtain⟨j,want⟩:=q;simp only at hp ⊢;generalize(all[j]?).bind (·.dst)=d at hp ⊢;cases d with
  | none=>exact hp
  | some t=>
   simp only at hp ⊢;generalize hv:env t=v at hp ⊢;cases v with
   | bool b=>
    simp only at hp ⊢;obtain⟨h1,h2⟩:=lD hp;cases b with
    | true=>
     have h1:=h1 rfl;rw[CZ hv]at h1;cases want<;>exact h1
    | false=>
     have h2:=h2 rfl;rw[CZ hv]at h2;cases want<;>exact h2
   | eG l=>cases l with
    | nil=>exact hp
    | cons a r=>exact hp
   | _=>exact hp
theorem AB {env env':Env} {o:Oper} {ops:Array Oper} (hl:∀t,t∈o.looksAt ops->env t=env' t):N8 env env' o.op:=λx a=>by
 cases x with
 | tmp t=>exact hl t (by unfold Oper.looksAt;rw[ahL];left;rw[List.mem_filterMap];exact⟨_,a,rfl⟩)
 | _=>rfl
theorem vi {env env':Env} {o:Oper} {ops:Array Oper} (hl:∀t,t∈o.looksAt ops->env t=env' t) {j:Nat} {w:Bool} (hg:o.guard=some (j,w)) {t:Nat} (a:(ops.toList[j]?).bind (·.dst)=some t):env t=env' t:=
 hl t (by
  unfold Oper.looksAt;rw[ahL,hg];right;have:ops.toList[j]? =ops[j]?:=by simp
  rw[this]at a;show t∈((ops[j]?).bind (·.dst)).toList;rw[a];simp)
theorem Ul {ops:Array Oper} {st:Bool} {o:Oper} {G:PV->List al->Prop} {env env':Env} {h:List al} (hl:∀t,t∈o.looksAt ops->env t=env' t) (hp:fs P T ops.toList st o G env h):fs P T ops.toList st o G env' h:=by
 have a:Gg P T st o.op env h G=Gg P T st o.op env' h G:=by
  cases st with
  | true=>exact AA _ (AB hl)
  | false=>exact WZ _ (AB hl)
 unfold fs at hp ⊢;cases hg:o.guard with
 | none=>rw[hg]at hp;simp only at hp ⊢;rw[<-a];exact hp
 | some q=>
  obtain⟨j,want⟩:=q;rw[hg]at hp;simp only at hp ⊢;cases hd:(ops.toList[j]?).bind (·.dst)with
  | none=>rw[hd]at hp;exact hp
  | some t=>
   rw[hd]at hp;simp only at hp ⊢;rw[<-vi hl hg hd,<-a];exact hp
theorem AD {α β:Type} {f g:α->List β}:∀(l:List α),(∀x,x∈l->f x=g x)->l.flatMap f=l.flatMap g
 | [],_=>rfl
 | a::r,h=>by rw[List.flatMap_cons,List.flatMap_cons,h a alW,AD r (λx b=>h x (ahZ _ b))]
theorem EV (env:Env) (op:Op):(∃x,op=.move x)\/oX env op=op.operands.toList.flatMap (λx=>vH (ev env x)):=by
 cases op<;>first | exact .inl ⟨_,rfl⟩ | exact .inr rfl
theorem Od {T:rO} {env:Env} {h h':List al} {K:PV->Prop} {op:Op} (hi:∀id,id∈oX env op->cH h id=cH h' id):ck T op env h K=ck T op env h' K:=by
 rcases EV env op with⟨x,rfl⟩ | e
 ·rfl
 ·exact Qt op (λx a id hid=>hi id (by rw[e,List.mem_flatMap];exact⟨x,a,hid⟩))
theorem EW {env env':Env} {op:Op} (hs:∀x,x∈op.operands.toList->ev env x=ev env' x):oX env' op=oX env op:=by
 rcases EV env op with⟨x,rfl⟩ | e
 ·rfl
 ·rcases EV env' op with⟨x,rfl⟩ | a
  ·rfl
  ·rw[e,a];exact AD _ (λx b=>by rw[hs x b])
theorem Jf {ops:Array Oper} {o:Oper} {G:PV->List al->Prop} {env:Env} {h:List al} (hp:fs P T ops.toList true o G env h):
  ∃v,G v h/\∀(env':Env) (h':List al) (c:PV->List al->Prop),(∀t,t∈o.looksAt ops->env t=env' t)->(∀id,id∈oX env o.op->cH h id=cH h' id)->c v h'->fs P T ops.toList true o c env' h':=by
 have run:ck T o.op env h (λv=>G v h)->∃v,G v h/\∀(env':Env) (h':List al) (c:PV->List al->Prop),(∀t,t∈o.looksAt ops->env t=env' t)->(∀id,id∈oX env o.op->cH h id=cH h' id)->c v h'->ck T o.op env' h' (λv=>c v h'):=λhs=>by
  obtain⟨v,h1,h2⟩:=Lx T o.op env h _ hs;refine⟨v,h1,λenv' h' c hl hi hg=>?_⟩;rw[<-AA o.op (AB hl),<-Od (op:=o.op) hi];exact h2 _ hg
 unfold fs at hp;cases hg:o.guard with
 | none=>
  rw[hg]at hp;obtain⟨v,h1,h2⟩:=run hp;refine⟨v,h1,λenv' h' c hl hi d=>?_⟩;unfold fs;rw[hg];exact h2 env' h' c hl hi d
 | some q=>
  obtain⟨j,want⟩:=q;rw[hg]at hp;simp only at hp;cases hd:(ops.toList[j]?).bind (·.dst)with
  | none=>rw[hd]at hp;exact hp.elim
  | some t=>
   rw[hd]at hp;simp only at hp;cases hv:env t with
   | bool b=>
    rw[hv]at hp;simp only at hp;cases hc:(b==want)with
    | true=>
     rw[hc]at hp;obtain⟨v,h1,h2⟩:=run hp;refine⟨v,h1,λenv' h' c hl hi d=>?_⟩;unfold fs;rw[hg];simp only;rw[hd];simp only;rw[<-vi hl hg hd,hv];simp only;rw[hc];exact h2 env' h' c hl hi d
    | false=>
     rw[hc]at hp;refine⟨_,hp,λenv' h' c hl hi d=>?_⟩;unfold fs;rw[hg];simp only;rw[hd];simp only;rw[<-vi hl hg hd,hv];simp only;rw[hc];exact d
   | eG l=>
    rw[hv]at hp;cases l with
    | nil=>
     refine⟨_,hp,λenv' h' c hl hi d=>?_⟩;unfold fs;rw[hg];simp only;rw[hd];simp only;rw[<-vi hl hg hd,hv];exact d
    | cons a r=>exact hp.elim
   | _=>rw[hv]at hp;exact hp.elim
def N1 (P:Program) (T:rO) (all:List Oper) (t:List (Nat×List Nat)) (K:Env->List al->Prop):List (Nat×Bool)->List (Nat×List Nat)->Env->List al->Prop
 | [],_,env,h=>K env h
 | (i,st)::r,a,env,h=>∃o,all[i]? =some o/\fs P T all st o (λv h'=>match st with
   | true=>N1 P T all t K r ((i,oX env o.op)::a) (eg env o.dst v) h'
   | false=>(∀j ids,(j,ids)∈a->qG (fE t i) j=false->∀id,id∈ids->cH h id=cH h' id)/\N1 P T all t K r a (eg env o.dst v) h') env h
theorem AE {h h':List al} {K:Prop}:∀(ids:List Nat),Jd h h' K ids->(∀id,id∈ids->cH h id=cH h' id)/\K
 | [],b=>⟨λid hid=>by simp at hid,b⟩
 | a::r,b=>by
  obtain⟨h1,h2⟩:=AE r b.2;refine⟨λid hid=>?_,h2⟩;simp only[ahM]at hid;rcases hid with rfl | hid
  ·exact b.1
  ·exact h1 id hid
theorem ra {b:List Nat} {h h':List al} {K:Prop}:∀(d:List (Nat×List Nat)),tr b h h' K d->(∀j ids,(j,ids)∈d->qG b j=false->∀id,id∈ids->cH h id=cH h' id)/\K
 | [],c=>⟨λj ids hj=>by simp at hj,c⟩
 | (a,l)::r,c=>by
  unfold tr at c;cases ha:qG b a with
  | true=>
   rw[ha]at c;obtain⟨h1,h2⟩:=ra r c;refine⟨λj ids hj hn=>?_,h2⟩;simp only[ahM]at hj;rcases hj with hj | hj
   ·injection hj with e e2;subst e;rw[ha]at hn;cases hn
   ·exact h1 j ids hj hn
  | false=>
   rw[ha]at c;obtain⟨q1,q2⟩:=AE l c;obtain⟨h1,h2⟩:=ra r q2;refine⟨λj ids hj hn=>?_,h2⟩;simp only[ahM]at hj;rcases hj with hj | hj
   ·injection hj with e e2;subst e2;exact q1
   ·exact h1 j ids hj hn
theorem uw {all:List Oper} {t:List (Nat×List Nat)} {K:Env->List al->Prop}:∀(l:List (Nat×Bool)) (a:List (Nat×List Nat)) (env:Env) (h:List al),fw P T all t K l a env h->N1 P T all t K l a env h
 | [],_,_,_,hp=>hp
 | (i,true)::r,a,env,h,hp=>by
  have hp:(match all[i]? with
   | some o=>yp P T all true o (λenv' v h'=>fw P T all t K r ((i,oX env' o.op)::a) (eg env' o.dst v) h') env h
   | none=>False):=hp
  cases b:all[i]? with
  | none=>rw[b]at hp;exact hp.elim
  | some o=>
   rw[b]at hp;exact⟨o,b,jl (λv h' c=>uw r _ _ _ c) (tt hp)⟩
 | (i,false)::r,a,env,h,hp=>by
  have hp:(match all[i]? with
   | some o=>yp P T all false o (λenv' v h'=>tr (fE t i) h h' (fw P T all t K r a (eg env' o.dst v) h') a) env h
   | none=>False):=hp
  cases b:all[i]? with
  | none=>rw[b]at hp;exact hp.elim
  | some o=>
   rw[b]at hp;refine⟨o,b,jl (λv h' c=>?_) (tt hp)⟩;obtain⟨h1,h2⟩:=ra _ c;exact⟨h1,uw r _ _ _ h2⟩
theorem AF {all:List Oper} {t:List (Nat×List Nat)} {K:Env->List al->Prop}:∀(l:List (Nat×Bool)) (a b:List (Nat×List Nat)) (env:Env) (h:List al),(∀x,x∈b->x∈a)->N1 P T all t K l a env h->N1 P T all t K l b env h
 | [],_,_,_,_,_,hp=>hp
 | (i,st)::r,a,b,env,h,hs,hp=>by
  obtain⟨o,e,hp⟩:=hp;refine⟨o,e,jl (λv h' c=>?_) hp⟩;cases st with
  | true=>exact AF r _ _ _ _ (λx d=>by simp only[ahM]at d ⊢;exact d.imp id (hs x)) c
  | false=>exact⟨λj ids hj=>c.1 j ids (hs _ hj),AF r _ _ _ _ hs c.2⟩
theorem Hm {env:Env} {d e:Option Nat} {u v:PV} (b:∀x,d=some x->e≠some x):eg (eg env d u) e v=eg (eg env e v) d u:=by
 cases d with
 | none=>rfl
 | some x=>
  cases e with
  | none=>rfl
  | some y=>
   have a:x≠y:=λhe=>b x rfl (by rw[he]);funext j;simp only[eg,sB];cases h1:Nat.beq j y with
   | true=>
    have:=ahz h1;subst this;cases h2:Nat.beq j x with
    | true=>exact absurd (ahz h2).symm a
    | false=>rfl
   | false=>cases h2:Nat.beq j x<;>rfl
theorem xJ {env:Env} {d:Option Nat} {v:PV} {l:List Nat} (hn:∀x,d=some x->x∉l):∀t,t∈l->env t=eg env d v t:=λt a=>by
 cases d with
 | none=>rfl
 | some x=>
  have:t≠x:=λhe=>hn x rfl (he▸a);simp only[eg,sB];cases h2:Nat.beq t x with
  | true=>exact absurd (ahz h2) this
  | false=>rfl
theorem Lt {ops:Array Oper} {t:List (Nat×List Nat)} {K:Env->List al->Prop} {i:Nat} {st:Bool} {b:Oper} (m:ops.toList[i]? =some b):
  ∀(f g:List (Nat×Bool)) (k:List (Nat×List Nat)) (env:Env) (h:List al),(∀p,p∈f->p.2=true/\qG (fE t i) p.1=false/\xG ops p.1 i=true)->N1 P T ops.toList t K (f++(i,st)::g) k env h->
   fs P T ops.toList st b (λv h'=>(st=true->h'=h)/\(st=false->∀j ids,(j,ids)∈k->qG (fE t i) j=false->∀id,id∈ids->cH h id=cH h' id)/\N1 P T ops.toList t K (f++g) k (eg env b.dst v) h') env h
 | [],g,k,env,h,_,hp=>by
  obtain⟨o,e,hp⟩:=hp;rw[m]at e;injection e with e;subst e;cases st with
  | true=>
   obtain⟨v,h1,h2⟩:=Jf hp;exact h2 env h _ (λ_ _=>rfl) (λ_ _=>rfl) ⟨λ_=>rfl,λhc=>Bool.noConfusion hc,AF _ _ _ _ _ (λx l=>ahZ _ l) h1⟩
  | false=>exact jl (λv h' c=>⟨λhc=>Bool.noConfusion hc,λ_=>c.1,c.2⟩) hp
 | (a,z)::f,g,k,env,h,w,hp=>by
  obtain⟨h1,h2,h3⟩:=w (a,z) alW;simp only at h1 h2 h3;subst h1;obtain⟨o,e,hp⟩:=hp
  have n:Oper.apart ops o b=true:=by
   unfold xG at h3;have A:ops[a]? =some o:=by simpa using e
   have e2:ops[i]? =some b:=by simpa using m
   rw[A,e2]at h3;exact h3
  obtain⟨B,C,D⟩:=Oper.apart_spec n;obtain⟨u,E,F⟩:=Jf hp;have G:=Lt m f g _ _ h (λp hp=>w p (ahZ _ hp)) E;have q:=Ul (env':=env) (λx l=>(xJ (λd hd=>B d hd) x l).symm) G;refine jl (λv h' c=>⟨c.1,λhc j ids hj=>c.2.1 hc j ids (ahZ _ hj),?_⟩) q
  have r:∀id,id∈oX env o.op->cH h id=cH h' id:=λid hid=>by
   cases st with
   | true=>rw[c.1 rfl]
   | false=>exact c.2.1 rfl a _ alW h2 id hid
  have y:∀x,x∈o.looksAt ops->env x=eg env b.dst v x:=xJ (λd hd=>D d hd);refine⟨o,e,F _ h' _ y r ?_⟩
  have s:oX (eg env b.dst v) o.op=oX env o.op:=by
   exact EW (AB y)
  simp only;rw[s,Hm (λx l=>(λhe=>C x he l):∀x,b.dst=some x->o.dst≠some x)];exact c.2.2
def nO (P:Program) (T:rO) (all:List Oper) (t:List (Nat×List Nat)) (E:List (Nat×List Nat)->Env->List al->Prop):List (Nat×Bool)->List (Nat×List Nat)->Env->List al->Prop
 | [],a,env,h=>E a env h
 | (i,st)::r,a,env,h=>∃o,all[i]? =some o/\fs P T all st o (λv h'=>match st with
   | true=>nO P T all t E r ((i,oX env o.op)::a) (eg env o.dst v) h'
   | false=>(∀j ids,(j,ids)∈a->qG (fE t i) j=false->∀id,id∈ids->cH h id=cH h' id)/\nO P T all t E r a (eg env o.dst v) h') env h
def vG (E:List (Nat×List Nat)->Env->List al->Prop):Prop:=∀(a b:List (Nat×List Nat)) (env:Env) (h:List al),(∀x,x∈b->x∈a)->E a env h->E b env h
theorem xK {all:List Oper} {t:List (Nat×List Nat)} {E:List (Nat×List Nat)->Env->List al->Prop} (c:vG E):∀(l:List (Nat×Bool)) (a b:List (Nat×List Nat)) (env:Env) (h:List al),(∀x,x∈b->x∈a)->nO P T all t E l a env h->nO P T all t E l b env h
 | [],a,b,_,_,hs,hp=>c a b _ _ hs hp
 | (i,st)::r,a,b,env,h,hs,hp=>by
  obtain⟨o,f,hp⟩:=hp;refine⟨o,f,jl (λv h' d=>?_) hp⟩;cases st with
  | true=>exact xK c r _ _ _ _ (λx e=>by simp only[ahM]at e ⊢;exact e.imp id (hs x)) d
  | false=>exact⟨λj ids hj=>d.1 j ids (hs _ hj),xK c r _ _ _ _ hs d.2⟩
theorem xH {ops:Array Oper} {t:List (Nat×List Nat)} {E:List (Nat×List Nat)->Env->List al->Prop} (w:vG E) {i:Nat} {st:Bool} {b:Oper} (m:ops.toList[i]? =some b):
  ∀(f g:List (Nat×Bool)) (k:List (Nat×List Nat)) (env:Env) (h:List al),(∀p,p∈f->p.2=true/\qG (fE t i) p.1=false/\xG ops p.1 i=true)->nO P T ops.toList t E (f++(i,st)::g) k env h->
   fs P T ops.toList st b (λv h'=>(st=true->h'=h)/\(st=false->∀j ids,(j,ids)∈k->qG (fE t i) j=false->∀id,id∈ids->cH h id=cH h' id)/\nO P T ops.toList t E (f++g) k (eg env b.dst v) h') env h
 | [],g,k,env,h,_,hp=>by
  obtain⟨o,e,hp⟩:=hp;rw[m]at e;injection e with e;subst e;cases st with
  | true=>
   obtain⟨v,h1,h2⟩:=Jf hp;exact h2 env h _ (λ_ _=>rfl) (λ_ _=>rfl) ⟨λ_=>rfl,λhc=>Bool.noConfusion hc,xK w _ _ _ _ _ (λx l=>ahZ _ l) h1⟩
  | false=>exact jl (λv h' c=>⟨λhc=>Bool.noConfusion hc,λ_=>c.1,c.2⟩) hp
 | (a,A)::f,g,k,env,h,y,hp=>by
  obtain⟨h1,h2,h3⟩:=y (a,A) alW;simp only at h1 h2 h3;subst h1;obtain⟨o,e,hp⟩:=hp
  have n:Oper.apart ops o b=true:=by
   unfold xG at h3;have B:ops[a]? =some o:=by simpa using e
   have e2:ops[i]? =some b:=by simpa using m
   rw[B,e2]at h3;exact h3
  obtain⟨C,D,F⟩:=Oper.apart_spec n;obtain⟨u,G,H⟩:=Jf hp;have I:=xH w m f g _ _ h (λp hp=>y p (ahZ _ hp)) G;have q:=Ul (env':=env) (λx l=>(xJ (λd hd=>C d hd) x l).symm) I;refine jl (λv h' c=>⟨c.1,λhc j ids hj=>c.2.1 hc j ids (ahZ _ hj),?_⟩) q
  have r:∀id,id∈oX env o.op->cH h id=cH h' id:=λid hid=>by
   cases st with
   | true=>rw[c.1 rfl]
   | false=>exact c.2.1 rfl a _ alW h2 id hid
  have z:∀x,x∈o.looksAt ops->env x=eg env b.dst v x:=xJ (λd hd=>F d hd);refine⟨o,e,H _ h' _ z r ?_⟩
  have s:oX (eg env b.dst v) o.op=oX env o.op:=by
   exact EW (AB z)
  simp only;rw[s,Hm (λx l=>(λhe=>D x he l):∀x,b.dst=some x->o.dst≠some x)];exact c.2.2
theorem xl {all:List Oper} {t:List (Nat×List Nat)} {E:List (Nat×List Nat)->Env->List al->Prop} {c:List (Nat×Bool)}:∀(l:List (Nat×Bool)) (a:List (Nat×List Nat)) (env:Env) (h:List al),nO P T all t (λa env h=>nO P T all t E c a env h) l a env h->nO P T all t E (l++c) a env h
 | [],_,_,_,hp=>hp
 | (i,st)::r,a,env,h,hp=>by
  obtain⟨o,d,hp⟩:=hp;refine⟨o,d,jl (λv h' b=>?_) hp⟩;cases st with
  | true=>exact xl r _ _ _ b
  | false=>exact⟨b.1,xl r _ _ _ b.2⟩
theorem Az {all:List Oper} {t:List (Nat×List Nat)} {E c:List (Nat×List Nat)->Env->List al->Prop} (hi:∀a env h,E a env h->c a env h):∀(l:List (Nat×Bool)) (a:List (Nat×List Nat)) (env:Env) (h:List al),nO P T all t E l a env h->nO P T all t c l a env h
 | [],_,_,_,hp=>hi _ _ _ hp
 | (i,st)::r,a,env,h,hp=>by
  obtain⟨o,d,hp⟩:=hp;refine⟨o,d,jl (λv h' b=>?_) hp⟩;cases st with
  | true=>exact Az hi r _ _ _ b
  | false=>exact⟨b.1,Az hi r _ _ _ b.2⟩
theorem xk {all:List Oper} {t:List (Nat×List Nat)} {K:Env->List al->Prop} {c:List (Nat×Bool)}:∀(l:List (Nat×Bool)) (a:List (Nat×List Nat)) (env:Env) (h:List al),nO P T all t (λa env h=>N1 P T all t K c a env h) l a env h->N1 P T all t K (l++c) a env h
 | [],_,_,_,hp=>hp
 | (i,st)::r,a,env,h,hp=>by
  obtain⟨o,d,hp⟩:=hp;refine⟨o,d,jl (λv h' b=>?_) hp⟩;cases st with
  | true=>exact xk r _ _ _ b
  | false=>exact⟨b.1,xk r _ _ _ b.2⟩
theorem tq {all:List Oper} {t:List (Nat×List Nat)} {E d:List (Nat×List Nat)->Env->List al->Prop} (hi:∀a env h,E a env h->d a env h):∀(l:List (Nat×Bool)) (a:List (Nat×List Nat)) (env:Env) (h:List al),fwE P T all t E l a env h->nO P T all t d l a env h
 | [],_,_,_,hp=>hi _ _ _ hp
 | (i,true)::r,a,env,h,hp=>by
  have hp:(match all[i]? with
   | some o=>yp P T all true o (λenv' v h'=>fwE P T all t E r ((i,oX env' o.op)::a) (eg env' o.dst v) h') env h
   | none=>False):=hp
  cases b:all[i]? with
  | none=>rw[b]at hp;exact hp.elim
  | some o=>
   rw[b]at hp;exact⟨o,b,jl (λv h' c=>tq hi r _ _ _ c) (tt hp)⟩
 | (i,false)::r,a,env,h,hp=>by
  have hp:(match all[i]? with
   | some o=>yp P T all false o (λenv' v h'=>tr (fE t i) h h' (fwE P T all t E r a (eg env' o.dst v) h') a) env h
   | none=>False):=hp
  cases b:all[i]? with
  | none=>rw[b]at hp;exact hp.elim
  | some o=>
   rw[b]at hp;refine⟨o,b,jl (λv h' c=>?_) (tt hp)⟩;obtain⟨h1,h2⟩:=ra _ c;exact⟨h1,tq hi r _ _ _ h2⟩
theorem Bv {all:List Oper} {t:List (Nat×List Nat)} {K:Env->List al->Prop} (l:List (Nat×Bool)):vG (λa env h=>N1 P T all t K l a env h):=λa b env h hs hp=>AF l a b env h hs hp
theorem rZ {all:List Oper} {t:List (Nat×List Nat)} {E:List (Nat×List Nat)->Env->List al->Prop} (b:vG E) (l:List (Nat×Bool)):vG (λa env h=>nO P T all t E l a env h):=λa c env h hs hp=>xK b l a c env h hs hp
theorem He {E b:List (Nat×List Nat)->Env->List al->Prop} (h1:vG E) (h2:vG b):vG (λa env h=>E a env h/\b a env h):=λa c env h hs hp=>⟨h1 a c env h hs hp.1,h2 a c env h hs hp.2⟩
end
theorem aR.mono {S S':Nat->Prop} {w w':World} (hw:∀b,S b->w'.heap[b]? =w.heap[b]?) (g:∀b,S b->S' b) {pv:PV} {v:Value} (h:aR S w pv v):aR S' w' pv v:=by
 induction h with
 | int k n=>exact .int k n
 | bool b=>exact .bool b
 | str s=>exact .str s
 | az=>exact .az
 | iH=>exact .iH
 | fn f=>exact .fn f
 | qH sz f a c=>exact .qH sz f a c
 | fF sz n f b off c d h1 h2 h3 h4 _ e=>
  exact .fF sz n f b off c d (g b h1) h2 h3 (λi j pv hi hj=>(World.cell?_of_block (w:=w) (hw b h1)).trans (h4 i j pv hi hj)) e
 | fC cs b off d h1 h4 _ e=>
  exact .fC cs b off d (g b h1) (λj pv hj=>(World.cell?_of_block (w:=w) (hw b h1)).trans (h4 j pv hj)) e
theorem jV.of_same {w w':World} {b k:Nat} (h:w'.heap[b]? =w.heap[b]?) (hc:jV w b k):jV w' b k:=by
 obtain⟨cur,e,z,h1,h2⟩:=hc;exact⟨cur,e,z,h.trans h1,h2⟩
theorem jV.least {w:World} {b k:Nat} (h:jV w b k):jV w b 0:=by
 obtain⟨cur,e,z,h1,h2⟩:=h;exact⟨cur,e,z,h1,aih _⟩
theorem nq.mono {S S':Nat->Prop} {w w':World} (hw:∀b,S b->w'.heap[b]? =w.heap[b]?) (s:∀b,S b->S' b) {pv:PV} {v:Value} (h:nq S w pv v):
  (∀sz n e f F,pv=.bu sz n e f F->∀b,F b->w'.heap[b]? =w.heap[b]?)->nq S' w' pv v:=by
 induction h with
 | nil sz e f F d=>exactλ_=>.nil sz e f F d
 | Aa sz n e f F b off c a cur t d u hlen hc ha x y z E k A B=>
  intro g;have g:=g _ _ _ _ _ rfl
  exact .Aa sz n e f F b off c a cur t d ((g b d).trans u) hlen hc ha x y (λi j pv hi hj=>(z i j pv hi hj).imp_left (λq=>q.mono hw s))
   (λi j l m o p C hi hj=>B i j l m o p C hi hj (λ_ _ _ _ _ he r D=>by
    injection he with _ _ _ _ he;subst he;exact g r (k i j l m o p _ hi hj r D).1)) k A
inductive OG (G:PV->Prop):PV->Prop
 | mk (sz n:Nat) (e:TypeId) (f:Nat->List PV) (F:Nat->Prop) (h1:∀(i j:Nat) (pv:PV),i<n->(f i)[j]? =some pv->dj pv=false->G pv)
   (h2:∀(i j bF n':Nat) (e':TypeId) (f':Nat->List PV) (F':Nat->Prop),i<n->(f i)[j]? =some (.bu bF n' e' f' F')->OG G (.bu bF n' e' f' F')):OG G (.bu sz n e f F)
theorem nq.og {S S':Nat->Prop} {w:World} {G:PV->Prop} (r:∀pv v,G pv->aR S w pv v->aR S' w pv v) {pv:PV} {v:Value} (h:nq S w pv v):OG G pv->nq S' w pv v:=by
 induction h with
 | nil sz e f F d=>exactλ_=>.nil sz e f F d
 | Aa sz n e f F b off c a cur s d t hlen hc ha u x y C z A B=>
  intro hg;cases hg with
  | mk _ _ _ _ _ h1 h2=>
   exact .Aa sz n e f F b off c a cur s d t hlen hc ha u x (λi j pv hi hj=>by
    cases g:dj pv with
    | false=>exact(y i j pv hi hj).imp_left (λq=>r pv _ (h1 i j pv hi hj g) q)
    | true=>exact .inr (by cases pv<;>first | exact⟨_,_,_,_,_,rfl⟩ | cases g)) (λi j k l m o p hi hj=>B i j k l m o p hi hj (h2 i j k l m o p hi hj)) z A
theorem nq.all {S:Nat->Prop} {w:World} {pv:PV} {v:Value} (h:nq S w pv v):OG (λ_=>True) pv:=by
 induction h with
 | nil sz e f F d=>exact .mk sz 0 e f F (λ_ _ _ _ _ _=>trivial) (λi j _ _ _ _ _ hi=>absurd hi (ahP _))
 | Aa sz n e f F b off c a cur k d l hlen hc ha m o p q r s g=>exact .mk sz n e f F (λ_ _ _ _ _ _=>trivial) g
theorem nq.one {S:Nat->Prop} {w:World} {pv:PV} {v:Value} (h:nq S w pv v):v.oneCell'=true:=by cases h<;>rfl
section
variable {μ μ':Mu}{h h':List al}{S S':Nat->Prop}{w w':World}
theorem bK.kN {pv:PV} {v:Value} (hp:aR S w pv v):bK μ h S w pv v:=by
 cases hp<;>first | exact .int _ _ | exact .bool _ | exact .str _ | exact .az | exact .iH | exact .fn _ | exact .qH _ _ _ _ | (rename_i h1 h2 h3 h4 h5 _;first | exact .fF _ _ _ _ _ _ _ ‹_› ‹_› ‹_› ‹_› ‹_›) | exact .fC _ _ _ _ ‹_› ‹_› ‹_›
theorem bK.fr (hf:Fr μ h S w μ' h' S' w') (hm:sA μ h S w) {pv:PV} {v:Value} (hc:bK μ h S w pv v):bK μ' h' S' w' pv v:=by
 have j:∀b,S b->w'.heap[b]? =w.heap[b]?:=λb z=>hf.blocks b (hm.slt b z) (λc=>hm.apart b c z)
 have A:∀(id gen i off:Nat) (v:Value),bS μ h w id gen i off v->bS μ' h' w' id gen i off v:=λid gen i off v hc=>by
  unfold bS at hc ⊢;obtain⟨m,hc⟩:=hc;refine⟨m,?_⟩;cases c:h[id]? with
  | none=>rw[c]at hc;exact hc.elim
  | some o=>
   cases o with
   | dead=>rw[hf.dead id c];trivial
   | row g sz n e f=>
    rw[c]at hc;have hg:=hf.Ed id g sz n e f c;cases d:h'[id]? with
    | none=>rw[d]at hg;exact hg
    | some t=>
     cases t with
     | dead=>trivial
     | row r B C D E=>
      rw[d]at hg;obtain⟨hle,x⟩:=hg;obtain⟨l,hc⟩:=hc;refine⟨air l hle,λhe=>?_⟩;have heq:r=g:=by omega
      obtain⟨hμ,rfl,rfl,rfl⟩:=x heq;obtain⟨h1,h2⟩:=hc alV;refine⟨h1,?_⟩;rw[hμ];obtain⟨b,base,q1,q2,q3⟩:=h2;exact⟨b,base,q1,⟨hf.bJ b _ (.inl ⟨id,g,_,_,_,_,base,c,q1⟩) q2.1,q2.2⟩,q3⟩
 cases pv with
 | own id gen off len=>
  have hc:bg μ h w id gen off len v:=hc;show bg μ' h' w' id gen off len v;unfold bg at hc ⊢;obtain⟨m,hc⟩:=hc;refine⟨m,?_⟩;cases c:h[id]? with
  | none=>rw[c]at hc;exact hc.elim
  | some o=>
   cases o with
   | dead=>rw[hf.dead id c];trivial
   | row g sz n e f=>
    rw[c]at hc;have hg:=hf.Ed id g sz n e f c;cases d:h'[id]? with
    | none=>rw[d]at hg;exact hg
    | some t=>
     cases t with
     | dead=>trivial
     | row r B C D E=>
      rw[d]at hg;obtain⟨hle,x⟩:=hg;obtain⟨l,hc⟩:=hc;refine⟨air l hle,λhe=>?_⟩;have heq:r=g:=by omega
      obtain⟨hμ,rfl,rfl,rfl⟩:=x heq;obtain⟨h1,h2⟩:=hc alV;refine⟨h1,?_⟩;rw[hμ];cases y:μ id with
      | none=>rw[y]at h2;exact h2
      | some p=>
       obtain⟨b,base⟩:=p;rw[y]at h2;obtain⟨a,cap,h3,h4,h5,h6⟩:=h2;exact⟨a,cap,h3,h4,h5,hf.bJ b _ (.inl ⟨id,g,_,_,_,_,base,c,y⟩) h6⟩
 | aF id gen i off=>exact A _ _ _ _ _ hc
 | qE f bJ=>exact vP.mono (show qv μ h w f bJ v from hc) (λid g u hu=>A _ _ _ _ _ hu)
 | ke id=>
  have hc:gg μ h w id v:=hc;show gg μ' h' w' id v;unfold gg at hc ⊢;obtain⟨m,hc⟩:=hc;refine⟨m,?_⟩;cases c:h[id]? with
  | none=>rw[c]at hc;exact hc.elim
  | some o=>
   cases o with
   | dead=>rw[hf.dead id c];trivial
   | row g sz n e f=>
    rw[c]at hc;obtain⟨b,base,q1,q2,q3⟩:=hc;obtain⟨r1,q⟩:=hf.maps id g sz n e f b base c q1 q2;rcases q with q | ⟨⟨r,B,C,D,E,q⟩,G⟩
    ·rw[q];trivial
    ·rw[q];exact⟨b,base,G,r1,q3⟩
 | jw=>exact hc
 | bu sz n e f F=>exact hc
 | agg cs=>exact hc.elim
 | eG cs=>exact hc.elim
 | int k n=>exact aR.mono j hf.sub hc
 | bool b=>exact aR.mono j hf.sub hc
 | str s=>exact aR.mono j hf.sub hc
 | az=>exact aR.mono j hf.sub hc
 | iH=>exact aR.mono j hf.sub hc
 | fF sz n f=>exact aR.mono j hf.sub hc
 | fC cs=>exact aR.mono j hf.sub hc
 | fn f=>exact aR.mono j hf.sub hc
theorem jz.fr (hf:Fr μ h S w μ' h' S' w') (hm:sA μ h S w) {pv:PV} {v:Value} (hc:jz μ h S w pv v):jz μ' h' S' w' pv v:=by
 cases pv with
 | agg cs=>
  obtain⟨vs,h1,h2,h3⟩:=hc;exact⟨vs,h1,h2,λj pv hj=>let⟨u,hu,a⟩:=h3 j pv hj;⟨u,hu,a.fr hf hm⟩⟩
 | int k n=>exact bK.fr (pv:=.int k n) hf hm hc
 | bool b=>exact bK.fr (pv:=.bool b) hf hm hc
 | str s=>exact bK.fr (pv:=.str s) hf hm hc
 | az =>exact bK.fr (pv:=.az) hf hm hc
 | iH=>exact bK.fr (pv:=.iH) hf hm hc
 | fF sz n f=>exact bK.fr (pv:=.fF sz n f) hf hm hc
 | fC cs=>exact bK.fr (pv:=.fC cs) hf hm hc
 | own id gen off len=>exact bK.fr (pv:=.own id gen off len) hf hm hc
 | aF id gen i off=>exact bK.fr (pv:=.aF id gen i off) hf hm hc
 | ke id=>exact bK.fr (pv:=.ke id) hf hm hc
 | qE f bJ=>exact bK.fr (pv:=.qE f bJ) hf hm hc
 | fn f=>exact bK.fr (pv:=.fn f) hf hm hc
 | jw=>trivial
 | bu sz n e f F=>exact bK.fr (pv:=.bu sz n e f F) hf hm hc
 | eG cs=>exact(show False from hc).elim
theorem bz.fr (hf:Fr μ h S w μ' h' S' w') (hm:sA μ h S w) {pv:PV} {v:Value} (hc:bz μ h S w pv v):bz μ' h' S' w' pv v:=by
 cases pv with
 | eG cs=>
  obtain⟨vs,h1,h2,h3⟩:=hc;exact⟨vs,h1,h2,λj pv hj=>let⟨u,hu,a⟩:=h3 j pv hj;⟨u,hu,a.fr hf hm⟩⟩
 | int k n=>exact jz.fr (pv:=.int k n) hf hm hc
 | bool b=>exact jz.fr (pv:=.bool b) hf hm hc
 | str s=>exact jz.fr (pv:=.str s) hf hm hc
 | az =>exact jz.fr (pv:=.az) hf hm hc
 | iH=>exact jz.fr (pv:=.iH) hf hm hc
 | fF sz n f=>exact jz.fr (pv:=.fF sz n f) hf hm hc
 | fC cs=>exact jz.fr (pv:=.fC cs) hf hm hc
 | own id gen off len=>exact jz.fr (pv:=.own id gen off len) hf hm hc
 | aF id gen i off=>exact jz.fr (pv:=.aF id gen i off) hf hm hc
 | ke id=>exact jz.fr (pv:=.ke id) hf hm hc
 | qE f bJ=>exact jz.fr (pv:=.qE f bJ) hf hm hc
 | fn f=>exact jz.fr (pv:=.fn f) hf hm hc
 | jw=>trivial
 | bu sz n e f F=>exact jz.fr (pv:=.bu sz n e f F) hf hm hc
 | agg cs=>exact jz.fr (pv:=.agg cs) hf hm hc
theorem aR.one {pv:PV} {v:Value} (hp:aR S w pv v):v.oneCell'=true:=by cases hp<;>rfl
theorem bK.one {pv:PV} {v:Value} (hc:bK μ h S w pv v):v.oneCell'=true:=by
 cases pv with
 | own id gen off len=>
  obtain⟨⟨a,l,c,rfl⟩,_⟩:=(show bg μ h w id gen off len v from hc);rfl
 | aF id gen i off=>
  obtain⟨⟨a,rfl⟩,_⟩:=(show bS μ h w id gen i off v from hc);rfl
 | ke id=>
  obtain⟨⟨a,rfl⟩,_⟩:=(show gg μ h w id v from hc);rfl
 | qE f bJ=>
  obtain⟨vs,rfl,_⟩:=(show qv μ h w f bJ v from hc);rfl
 | jw=>exact hc
 | bu sz n e f F=>exact hc
 | agg cs=>exact(show False from hc).elim
 | eG cs=>exact(show False from hc).elim
 | int k n=>exact aR.one (show aR S w _ v from hc)
 | bool b=>exact aR.one (show aR S w _ v from hc)
 | str s=>exact aR.one (show aR S w _ v from hc)
 | az=>exact aR.one (show aR S w _ v from hc)
 | iH=>exact aR.one (show aR S w _ v from hc)
 | fF sz n f=>exact aR.one (show aR S w _ v from hc)
 | fC cs=>exact aR.one (show aR S w _ v from hc)
 | fn f=>exact aR.one (show aR S w _ v from hc)
theorem qw.c {pv:PV} {v:Value} (hc:qw μ h S w pv v):bK μ h S w pv v:=by
 cases pv with
 | bu sz n e f F=>exact nq.one (show nq S w (.bu sz n e f F) v from hc)
 | _=>exact hc
theorem bK.k {pv:PV} {v:Value} (hc:bK μ h S w pv v) (a:dj pv=false):qw μ h S w pv v:=by
 cases pv with
 | bu sz n e f F=>cases a
 | _=>exact hc
theorem qw.fr (hf:Fr μ h S w μ' h' S' w') (hm:sA μ h S w) {pv:PV} {v:Value} (d:∀sz n e f F,pv=.bu sz n e f F->∀b,F b->w'.heap[b]? =w.heap[b]?) (hc:qw μ h S w pv v):qw μ' h' S' w' pv v:=by
 cases pv with
 | bu sz n e f F=>exact nq.mono (λb a=>hf.blocks b (hm.slt b a) (λg=>hm.apart b g a)) hf.sub (show nq S w (.bu sz n e f F) v from hc) d
 | _=>exact(bK.fr hf hm (qw.c hc)).k rfl
theorem xo {id i j b:Nat}:¬cV [] id i j b:=λ⟨_,_,_,_,_,_,_,_,_,_,h1,_⟩=>by simp at h1
theorem kC {μ:Mu} {b:Nat}:¬cf μ [] b:=λh=>by
 rcases h with⟨id,g,sz,n,e,f,base,h1,_⟩ | ⟨_,_,_,h1⟩
 ·simp at h1
 ·exact xo h1
theorem Fr.refl:Fr μ h S w μ h S w where
 len:=ahy _
 blocks _ _ _:=rfl
 sub _ a:=a
 new _ a:=.inl a
 own _ a:=.inl a
 size:=ahy _
 os:=rfl
 tape:=rfl
 output:=rfl
 Ed id g sz n e f hh:=by rw[hh];exact⟨ahy _,λ_=>⟨rfl,rfl,rfl,rfl⟩⟩
 dead _ hh:=hh
 bJ _ _ _ hc:=hc
 maps id g sz n e f b base c hm a:=⟨a,.inr ⟨⟨g,sz,n,e,f,c⟩,hm⟩⟩
 yj b id i j hh a:=a
theorem Fr.trans {μ'':Mu} {v:List al} {t:Nat->Prop} {G:World} (a:Fr μ h S w μ' h' S' w') (b:Fr μ' h' S' w' μ'' v t G):Fr μ h S w μ'' v t G where
 len:=air a.len b.len
 blocks k m hn:=(b.blocks k (ahS m a.size) (λu=>by
  rcases a.own k u with h1 | h1
  ·exact hn h1
  ·omega)).trans (a.blocks k m hn)
 sub k m:=b.sub k (a.sub k m)
 new k m:=by
  rcases b.new k m with h1 | h1 | h1
  ·exact a.new k h1
  ·rcases a.own k h1 with h2 | h2
   ·exact .inr (.inl h2)
   ·exact .inr (.inr h2)
  ·exact .inr (.inr (air a.size h1))
 own k m:=by
  rcases b.own k m with h1 | h1
  ·exact a.own k h1
  ·exact .inr (air a.size h1)
 size:=air a.size b.size
 os:=b.os.trans a.os
 tape:=b.tape.trans a.tape
 output:=b.output.trans a.output
 Ed id g sz n e f hh:=by
  have h1:=a.Ed id g sz n e f hh;cases d:h'[id]? with
  | none=>rw[d]at h1;exact h1.elim
  | some I=>
   cases I with
   | dead=>rw[b.dead id d];trivial
   | row l p q r s=>
    rw[d]at h1;have h2:=b.Ed id l p q r s d;cases o:v[id]? with
    | none=>rw[o]at h2;exact h2
    | some A=>
     cases A with
     | dead=>trivial
     | row B H J K L=>
      rw[o]at h2;refine⟨air h1.1 h2.1,λhe=>?_⟩;have M:l=g:=by have:=h1.1;have:=h2.1;omega
      have e2:B=l:=by omega
      obtain⟨N,O,P,Q⟩:=h1.2 M;obtain⟨y1,y2,R,T⟩:=h2.2 e2;exact⟨y1.trans N,y2.trans O,R.trans P,T.trans Q⟩
 dead id hh:=b.dead id (a.dead id hh)
 bJ k c u hc:=by
  have h1:=a.bJ k c u hc;by_cases h2:cf μ' h' k
  ·exact b.bJ k c h2 h1
  ·refine jV.of_same (b.blocks k ?_ h2) h1;obtain⟨cur,e,z,h3,_⟩:=h1;exact(ahB.1 h3).1
 maps id g sz n e f k base u hm C:=by
  obtain⟨h1,h2⟩:=a.maps id g sz n e f k base u hm C;rcases h2 with h2 | ⟨⟨l,p,q,r,s,h2⟩,h3⟩
  ·refine⟨?_,.inl (b.dead id h2)⟩;by_cases h4:cf μ' h' k
   ·rcases h4 with⟨j,l,p,q,r,s,D,E,F⟩ | ⟨j,x,y,h4⟩
    ·exact(b.maps j l p q r s k D E F h1).1
    ·exact b.yj k j x y h4 h1
   ·obtain⟨es,c,h5⟩:=h1;exact⟨es,c,(b.blocks k (ahB.1 h5).1 h4).trans h5⟩
  ·exact b.maps id l p q r s k base h2 h3 h1
 yj k id i j hh C:=by
  have h1:=a.yj k id i j hh C;by_cases h4:cf μ' h' k
  ·rcases h4 with⟨j,l,p,q,r,s,D,E,F⟩ | ⟨j,x,y,h4⟩
   ·exact(b.maps j l p q r s k D E F h1).1
   ·exact b.yj k j x y h4 h1
  ·obtain⟨es,c,h5⟩:=h1;exact⟨es,c,(b.blocks k (ahB.1 h5).1 h4).trans h5⟩
structure cc (w w':World):Prop where
 blocks:∀b,b<w.heap.size->w'.heap[b]? =w.heap[b]?
 size:w.heap.size<=w'.heap.size
 os:w'.os=w.os
 tape:w'.tape=w.tape
 output:w'.output=w.output
theorem cc.refl (w:World):cc w w:=⟨λ_ _=>rfl,ahy _,rfl,rfl,rfl⟩
theorem cc.trans {a b c:World} (x:cc a b) (y:cc b c):cc a c:=
 ⟨λk d=>(y.blocks k (ahS d x.size)).trans (x.blocks k d),air x.size y.size,y.os.trans x.os,y.tape.trans x.tape,y.output.trans x.output⟩
theorem cc.cell {w w':World} (h:cc w w') {a:Addr} {u:Value} (hc:w.cell? a=some u):w'.cell? a=some u:=
 (World.cell?_of_block (w:=w) (h.blocks a.block (World.block_lt_of_cell? _ _ hc))).trans hc
theorem cc.drew (w:World):cc w w.drew:=⟨λ_ _=>rfl,ahy _,rfl,rfl,rfl⟩
theorem cc.drewN (w:World) (n:Nat):cc w (w.drewN n):=⟨λ_ _=>rfl,ahy _,rfl,rfl,rfl⟩
theorem jV.lt {b k:Nat} (h:jV w b k):b<w.heap.size:=by
 obtain⟨cur,e,z,h1,_⟩:=h;exact(ahB.1 h1).1
theorem Fr.Ap (ha:cc w w'):Fr μ h S w μ h S w' where
 len:=ahy _
 blocks b a _:=ha.blocks b a
 sub _ a:=a
 new _ a:=.inl a
 own _ a:=.inl a
 size:=ha.size
 os:=ha.os
 tape:=ha.tape
 output:=ha.output
 Ed id g sz n e f hh:=by rw[hh];exact⟨ahy _,λ_=>⟨rfl,rfl,rfl,rfl⟩⟩
 dead _ hh:=hh
 bJ b k _ hc:=jV.of_same (ha.blocks b hc.lt) hc
 maps id g sz n e f b base d hm a:=⟨let⟨es,c,h5⟩:=a;⟨es,c,(ha.blocks b (ahB.1 h5).1).trans h5⟩,.inr ⟨⟨g,sz,n,e,f,d⟩,hm⟩⟩
 yj b id i j _ a:=let⟨es,c,h5⟩:=a;⟨es,c,(ha.blocks b (ahB.1 h5).1).trans h5⟩
theorem sA.Bj (hm:sA μ h S w) (a:Fr μ h S w μ' h' S' w'):QG S' w':=
 hm.known.keep (λb c=>a.blocks b (hm.slt b c) (λd=>hm.apart b d c)) a.sub
theorem sA.agree (ha:cc w w') (hm:sA μ h S w):sA μ h S w':=
 ⟨hm.apart,λb a=>ahS (hm.lt b a) ha.size,λb a=>ahS (hm.slt b a) ha.size,hm.inj,hm.known.keep (λb a=>ha.blocks b (hm.slt b a)) (λ_ a=>a),hm.hv,hm.hh⟩
theorem bH.agree (ha:cc w w') (hm:sA μ h S w) (hh:bH μ h S w):bH μ h S w':=by
 intro id g sz n e f a;obtain⟨h1,h2⟩:=hh id g sz n e f a;refine⟨h1,?_⟩;cases c:μ id with
 | none=>rw[c]at h2;exact h2
 | some p=>
  obtain⟨b,base⟩:=p;rw[c]at h2;obtain⟨o,h3,h4⟩:=h2;have k:b<w.heap.size:=(ahB.1 h3).1;exact⟨o,(ha.blocks b k).trans h3,h4.mono (λi j pv v hi hj l=>l.fr (Fr.Ap ha) hm (λm q r s t he d u=>ha.blocks d (hm.lt d (.inr ⟨id,i,j,g,sz,n,e,f,m,q,r,s,t,a,hi,by rw[hj,he],u⟩))))⟩
end
end Go.Am
