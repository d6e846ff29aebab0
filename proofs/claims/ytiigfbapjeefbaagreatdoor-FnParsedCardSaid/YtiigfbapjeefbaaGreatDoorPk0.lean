/- Texts of the proof, joined and shortened. -/
import Derived.WalkKit
import Derived.Deep.Draws
import Derived.Deep.Quiet
set_option linter.unusedVariables false
set_option linter.unusedSimpArgs false
namespace Go.Am
open Go Go.RowKit
abbrev an:=@beq_eq_false_iff_ne
abbrev so:=@List.length_cons
abbrev An:=@List.length_nil
abbrev As:=@if_neg
abbrev At:=@if_pos
abbrev It:=@List.length_append
abbrev No:=@Bool.and_eq_true
abbrev Of:=@Nat.le_refl
abbrev abF:=@List.getElem?_eq_some_iff
abbrev abL:=@List.getElem?_eq_getElem
abbrev amb:=@Nat.eq_of_beq_eq_true
abbrev are:=@Bool.false_ne_true
abbrev atX:=@Bool.false_eq_true
abbrev aRa:=@Array.getElem?_eq_some_iff
abbrev aRb:=@List.getD_eq_getElem?_getD
abbrev aRc:=@if_false
abbrev aRd:=@List.drop_eq_nil_of_le
abbrev aRe:=@List.nil_append
abbrev aRf:=@Nat.zero_add
abbrev aRg:=@List.all_eq_true
abbrev aRh:=@Nat.lt_succ_self
abbrev aRi:=@beq_iff_eq
abbrev aRj:=@if_true
abbrev aRk:=@List.drop_zero
abbrev aRl:=@List.drop_eq_getElem_cons
abbrev aRm:=@List.append_assoc
abbrev aRn:=@List.all_cons
abbrev aRo:=@List.mem_cons
abbrev aRp:=@List.mem_append
abbrev aRq:=@List.mem_of_getElem?
abbrev aRr:=@List.getElem_mem
abbrev aRs:=@List.getElem?_map
abbrev aRt:=@Nat.add_mul
abbrev aRu:=@Nat.mul_le_mul_right
abbrev aRv:=@List.getElem?_append_right
abbrev aRw:=@List.cons_append
abbrev aRx:=@Nat.lt_of_lt_of_le
abbrev aRy:=@Bool.false_or
abbrev aRz:=@List.append_nil
abbrev aRA:=@decide_eq_false
abbrev aRB:=@List.getElem?_set_ne
abbrev aRC:=@Nat.le_of_ble_eq_true
abbrev aRD:=@List.map_cons
abbrev aRE:=@Bool.and_true
abbrev aRF:=@Bool.and_false
abbrev aRG:=@List.mem_cons_of_mem
abbrev aRH:=@Bool.or_false
abbrev aRI:=@List.length_drop
abbrev aRJ:=@List.getElem?_append_left
abbrev aRK:=@Array.getElem?_eq_getElem
abbrev aRL:=@Nat.le_of_lt
abbrev aRM:=@List.contains_cons
abbrev aRN:=@List.contains_nil
abbrev aRO:=@Option.some.inj
abbrev aRP:=@Array.getElem?_toList
abbrev aRQ:=@List.getElem?_eq_none
abbrev aRR:=@cond_false
abbrev aRS:=@List.getElem?_cons_succ
abbrev aRT:=@List.mem_map
abbrev aRU:=@List.all_nil
abbrev aRV:=@Nat.zero_le
abbrev aRW:=@Iff.rfl
abbrev aRX:=@List.map_nil
abbrev aRY:=@cond_true
abbrev aRZ:=@Bool.or_eq_true
abbrev aSa:=@decide_eq_true
abbrev aSb:=@Bool.not_eq_true'
abbrev aSc:=@List.getElem?_set_self
abbrev aSd:=@Nat.le_succ
abbrev aSe:=@Nat.le_trans
abbrev aSf:=@Nat.lt_or_ge
abbrev aSg:=@Bool.or_true
abbrev aSh:=@List.getElem?_cons_zero
abbrev aSi:=@Array.getElem?_append_left
abbrev aSj:=@Bool.false_and
abbrev aSk:=@Nat.not_lt_zero
abbrev aSl:=@Bool.true_or
abbrev aSm:=@List.flatMap_cons
abbrev aSn:=@Bool.true_and
abbrev aSo:=@Nat.add_zero
abbrev aSp:=@List.length_map
abbrev aSq:=@Nat.eq_zero_or_pos
abbrev aSr:=@Array.eq_empty_of_size_eq_zero
abbrev aSs:=@List.getElem?_drop
abbrev aSt:=@List.drop_drop
abbrev aSu:=@List.length_eq_zero_iff
abbrev aSv:=@Nat.add_sub_cancel_left
abbrev aSw:=@List.getElem?_nil
abbrev aSx:=@decide_eq_true_eq
abbrev aSy:=@Array.length_toList
abbrev aSz:=@Nat.sub_self
abbrev aSA:=@Ne.symm
abbrev aSB:=@Bool.or_eq_false_iff
abbrev aSC:=@List.drop_succ_cons
abbrev aSD:=@Nat.beq_refl
abbrev aSE:=@List.map_append
abbrev aSF:=@Int.toNat_natCast
abbrev aSG:=@List.mem_iff_getElem
abbrev aSH:=@List.getElem_append_left
abbrev aSI:=@BEq.rfl
abbrev aSJ:=@Array.size_append
abbrev aSK:=@List.eq_nil_or_concat
abbrev aSL:=@List.concat_eq_append
abbrev aSM:=@List.isPrefixOf_iff_prefix
abbrev aSN:=@List.length_set
abbrev aSO:=@List.getElem_append_right
abbrev aSP:=@Bool.eq_iff_iff
abbrev aSQ:=@List.getElem?_take
abbrev aSR:=@List.mem_singleton
abbrev aSS:=@Array.empty_append
abbrev aST:=@List.set_cons_zero
abbrev aSU:=@List.set_cons_succ
abbrev aSV:=@Bool.eq_false_iff
abbrev aSW:=@List.getElem_cons_zero
abbrev aSX:=@List.length_take
abbrev aSY:=@or_false
abbrev aSZ:=@beq_self_eq_true
abbrev aTa:=@List.getElem?_toArray
abbrev aTb:=@Array.getElem?_setIfInBounds_ne
abbrev aTc:=@List.getLast?_concat
abbrev aTd:=@List.dropLast_concat
abbrev aTe:=@List.mem_range
abbrev aTf:=@Array.getElem?_map
abbrev aTg:=@Nat.add_assoc
abbrev aTh:=@List.drop_nil
abbrev aTi:=@Nat.lt_irrefl
abbrev aTj:=@not_true_eq_false
abbrev aTk:=@List.reverse_nil
abbrev aTl:=@Option.getD_some
abbrev aTm:=@List.map_toArray
abbrev aTn:=@Option.bind_some
abbrev aTo:=@List.not_mem_nil
abbrev aTp:=@Nat.max_eq_right
theorem aTq {p:Prop} (h:p:=by
  obtain rfl:=si h;replace h:=iT;exact eB h):p:=h
theorem aTr {p:Prop} (h:p:=by
  obtain rfl:=si h;replace h:=e9;exact eB h):p:=h
theorem aTs {p:Prop} (h:p:=by
  obtain rfl:=si h;replace h:=iD;exact eB h):p:=h
theorem aTt {p:Prop} (h:p:=by
  obtain rfl:=si h;replace h:=yu;exact eB h):p:=h
theorem aTu {p:Prop} (h:p:=by
  obtain rfl:=si h;replace h:=oy;exact eS h):p:=h
theorem aTv {p:Prop} (h:p:=by
  obtain rfl:=si h;replace h:=lJ;exact eS h):p:=h
theorem aTw {p:Prop} (h:p:=by
  obtain rfl:=si h;replace h:=wu;exact eB h):p:=h
theorem aTx {p:Prop} (h:p:=by
  rintro _ _ ho;obtain⟨j,v,⟨j1,j2⟩,j3,rfl,rfl⟩:=ho.out;exact((hL _ _ _ _ _ _).g j3).mono (λ_ _ h=>h.mono (λq hq=>⟨by have:=hq.1;omega,λ_=>hq.2 j2⟩))):p:=h
theorem aTy {p:Prop} (h:p:=by
  obtain rfl:=si h;replace h:=sn;exact eB h):p:=h
theorem aTz {p:Prop} (h:p:=by
  obtain rfl:=si h;replace h:=RC;exact eB h):p:=h
theorem aTA {p:Prop} (h:p:=by
  rintro _ _ ⟨y1,rfl,rfl,rfl⟩;replace h:=Dp;exact .d (eI h)):p:=h
theorem aTB {p:Prop} (h:p:=by
  obtain rfl:=si h;replace h:=ym;exact eB h):p:=h
theorem aTC {p:Prop} (h:p:=by
  obtain rfl:=si h;replace h:=Cn;exact eB h):p:=h
theorem aTD {p:Prop} (h:p:=by
  obtain rfl:=si Sp;exact⟨rfl,_,rfl,(en [0,4] ⟨P7,Uv.self,rfl,rfl⟩ mq kV)⟩):p:=h
theorem aTE {p:Prop} (h:p:=by
  rintro _ _ ho;obtain⟨j,v,⟨j1,j2⟩,j3,rfl,rfl⟩:=ho.out;exact Rl.ret (Gs.of ⟨j1,j2⟩ j3)):p:=h
theorem aTF {p:Prop} (h:p:=by
  obtain rfl:=si h;replace h:=Hz;exact eB h):p:=h
theorem aTG {p:Prop} (h:p:=by
  obtain rfl:=si Gi;exact en [0,1] ⟨bW,rfl,rfl⟩ rI rS):p:=h
theorem aTH {p:Prop} (h:p:=by
  obtain⟨dst,op,ty,pos,after,guard⟩:=o;subst hg;exact hp):p:=h
theorem aTI {p:Prop} (h:p:=by
  rintro _ _ ⟨rfl,rfl,rfl⟩;replace h:=iT;exact .d (eB h)):p:=h
theorem aTJ {p:Prop} (h:p:=by
  obtain rfl:=si h;exact⟨rfl,_,rfl,(en [0] ⟨rfl,rfl⟩ (.cr ⟨.i,.i,.s,.l,⟨⟩⟩) ⟨(ob rfl ⟨.l,.i,.i,⟨⟩⟩),⟨⟩⟩)⟩):p:=h
theorem aTK {p:Prop} (h:p:=by
  obtain rfl:=si h;exact⟨rfl,_,rfl,(en [0,4] ⟨_,(DR.nil (D:=ae.D)),rfl,rfl⟩ NG yl)⟩):p:=h
theorem aTL {p:Prop} (h:p:=by
  obtain rfl:=si h;exact⟨rfl,_,rfl,(en [0] ⟨rfl,rfl⟩ (.cr ⟨.i,.i,.s,.z,⟨⟩⟩) ⟨(ob rfl ⟨.l,.i,.i,⟨⟩⟩),⟨⟩⟩)⟩):p:=h
theorem aTM {p:Prop} (h:p:=by
  rintro _ _ ⟨rfl,rfl,k3,k4⟩;exact((hL _ _ _ _ _ _).g (i:=j+1) k3).mono (λ_ _ h=>h.mono (λq hq=>⟨by have:=hq.1;omega,λ_=>hq.2 (rb k4 (by decide))⟩))):p:=h
theorem aTN {p:Prop} (h:p:=by
  replace h:=u9;exact aTw):p:=h
theorem aTO {p:Prop} (h:p:=by
  obtain rfl:=si h;exact en [0] ⟨rfl,rfl⟩ .s tl):p:=h
theorem aTP {p:Prop} (h:p:=by
  obtain rfl:=si h;exact en [0] ⟨rfl,rfl⟩ .i ⟨(ob rfl ⟨.l,.i,.i,⟨⟩⟩),⟨⟩⟩):p:=h
theorem aTQ {p:Prop} (h:p:=by
  obtain rfl:=si h;exact⟨rfl,_,rfl,(en [0] ⟨rfl,rfl⟩ (.cr ⟨.i,.i,.s,(.rx rfl),⟨⟩⟩) ⟨(ob rfl ⟨.l,.i,.i,⟨⟩⟩),⟨⟩⟩)⟩):p:=h
theorem aTR {p:Prop} (h:p:=by
  obtain rfl:=si h;exact⟨rfl,_,rfl,(en [0] ⟨rfl,rfl⟩ (.cr ⟨.i,.i,.s,.r,⟨⟩⟩) ⟨(ob rfl ⟨.l,.i,.i,⟨⟩⟩),⟨⟩⟩)⟩):p:=h
theorem aTS {p:Prop} (h:p:=by
  intro F0 F1 qd qe a0 y5 y6 o h;exact .mk F0 qd F1 qe a0 y5 y6 o h):p:=h
theorem aTT {p:Prop} (h:p:=by
  obtain rfl:=si h;exact en [0] ⟨rfl,rfl⟩ .b tl):p:=h
theorem aTU {p:Prop} (h:p:=by
  obtain rfl:=si h;exact en [0,1] ⟨bW,rfl,rfl⟩ rI rS):p:=h
theorem aTV {p:Prop} (h:p:=by
  obtain rfl:=si h;exact⟨rfl,_,rfl,(en [4] ⟨_,(DR.nil (D:=ae.D)),rfl,rfl⟩ afh Qd)⟩):p:=h
theorem aTW {p:Prop} (h:p:=by
  obtain rfl:=si h;exact⟨rfl,_,rfl,(en [0,2] ⟨ao1,ae5.self,rfl,rfl⟩ mq kV)⟩):p:=h
theorem aTX {p:Prop} (h:p:=by
  obtain rfl:=si h;exact⟨rfl,_,rfl,(en [0,2] ⟨apl,Gh.self,rfl,rfl⟩ mq kV)⟩):p:=h
theorem aTY {p:Prop} (h:p:=by
  obtain rfl:=si h;exact en [0] ⟨rfl,rfl⟩ .r ⟨(ob rfl ⟨.l,.i,.i,⟨⟩⟩),⟨⟩⟩):p:=h
theorem aTZ {p:Prop} (h:p:=by
  rintro⟨v,q⟩ hq;exact Bq.ite (Bq.ret hq) (Bq.ret hq)):p:=h
theorem aUa {p:Prop} (h:p:=by
  rintro⟨_,_,_,_,_,_⟩ hq;exact Bq.ret hq):p:=h
theorem aUb {p:Prop} (h:p:=by
  rintro⟨_,_⟩ hq;exact Bq.ret hq):p:=h
theorem aUc {p:Prop} (h:p:=by exact ct ⟨_,si h,rfl,rfl⟩ (tk [0] pA gK)):p:=h
theorem aUd {p:Prop} (h:p:=by exact hp.elim):p:=h
theorem aUe {p:Prop} (h:p:=by exact ct ⟨si h,rfl,rfl⟩ (tk [] ⟨⟩ ⟨⟩)):p:=h
theorem aUf {p:Prop} (h:p:=by exact ct ⟨_,si h,rfl,rfl⟩ (tk [0] AH gK)):p:=h
theorem aUg {p:Prop} (h:p:=by exact ct ⟨_,si h,rfl,rfl⟩ (tk [0,1,2,3,4,5] ⟨.p,.p,.p,.p,.p,.o,.i,.b,⟨⟩⟩ ⟨(uC rfl),(nb rfl ⟨.i,.i,.s,.bR,⟨⟩⟩),(vt rfl),(vt rfl),(vt rfl),nw,⟨⟩⟩)):p:=h
theorem aUh {p:Prop} (h:p:=by exact .d (eB h)):p:=h
theorem aUi {p:Prop} (h:p:=by exact ct ⟨_,si h,rfl,rfl⟩ (tk [] JW ⟨⟩)):p:=h
theorem aUj {p:Prop} (h:p:=by exact⟨_,rfl⟩):p:=h
theorem aUk {p:Prop} (h:p:=by exact .d (eI h)):p:=h
theorem aUl {p:Prop} (h:p:=by exact⟨_,_,rfl,by simp [wt,FI],λ_=>rfl,λq=>absurd q (by decide)⟩):p:=h
theorem aUm {p:Prop} (h:p:=by exact ct ⟨_,si h,rfl,rfl⟩ (tk [0] ⟨.p,.l,.s,⟨⟩⟩ ⟨(vt rfl),⟨⟩⟩)):p:=h
theorem aUn {p:Prop} (h:p:=by exact ct ⟨_,si h,rfl,rfl⟩ (tk [0] U2 gK)):p:=h
theorem aUo {p:Prop} (h:p:=by exact ct ⟨_,si h,rfl,rfl⟩ (tk [] Dq ⟨⟩)):p:=h
theorem aUp {p:Prop} (h:p:=by exact ct ⟨_,si h,rfl,rfl⟩ (tk [] ⟨.s,⟨⟩⟩ ⟨⟩)):p:=h
theorem aUq {p:Prop} (h:p:=by exact hc.ok.inj i j _ _ _ _ _ _ _ _ _ _ _ _ _ hi hj oF oa):p:=h
theorem aUr {p:Prop} (h:p:=by exact .f (.f (.f (.f (.f (.f (.f (.f (.f (eB h)))))))))):p:=h
theorem aUs {p:Prop} (h:p:=by exact .t (.t (.t (.t (.t (.t (.t (.t (.d (eB h)))))))))):p:=h
theorem aUt {p:Prop} (h:p:=by exact ct ⟨_,si h,rfl,rfl⟩ (tk [0] acv gK)):p:=h
theorem aUu {p:Prop} (h:p:=by exact ct ⟨_,si h,rfl,rfl⟩ (tk [0] ⟨.b,.b,.p,.l,.i,.i,⟨⟩⟩ gK)):p:=h
theorem aUv {p:Prop} (h:p:=by exact .f (.f (.f (eB h)))):p:=h
theorem aUw {p:Prop} (h:p:=by exact lg (N8 _ _ _ h rfl) (tk [0] U3 gK)):p:=h
theorem aUx {p:Prop} (h:p:=by exact lg (Oh _ _ h rfl) (tk [0] Od gK)):p:=h
theorem aUy {p:Prop} (h:p:=by exact .f (.f (.f (.f (.f (.f (.f (.f (eB h))))))))):p:=h
theorem aUz {p:Prop} (h:p:=by exact ct ⟨_,si h,rfl,rfl⟩ (tk [0,1] MI rS)):p:=h
theorem aUA {p:Prop} (h:p:=by exact ct ⟨_,si h,rfl,rfl⟩ (tk [0] ar3 gK)):p:=h
theorem aUB {p:Prop} (h:p:=by exact⟨Of _,λ_=>⟨rfl,rfl,rfl,rfl⟩⟩):p:=h
theorem aUC {p:Prop} (h:p:=by exact ct ⟨si h,rfl,rfl⟩ (tk [0,1] xp rS)):p:=h
theorem aUD {p:Prop} (h:p:=by exact .inr ⟨_,_,_,q⟩):p:=h
theorem aUE {p:Prop} (h:p:=by omega):p:=h
theorem aUF {p:Prop} (h:p:=by decide):p:=h
theorem aUG {p:Prop} (h:p:=by simp):p:=h
theorem aUH {p:Prop} (h:p:=by rw[show aS ts (.g i) 0 1 []=false from by show(kd ts i==1&&true)=false;rw[(an.2 k1)];rfl]):p:=h
theorem aUI {p:Prop} (h:p:=by rw[show aS ts (.g i) 0 6 [123]=false from(aM H (by decide) (by decide)).trans (dK hw (by decide))]):p:=h
theorem aUJ {p:Prop} (h:p:=by kernel_rfl):p:=h
theorem aUK {p:Prop} (h:p:=by rw[show tw ts (JS.g i).pos [123]=false from(dK hw (by decide))]):p:=h
theorem aUL {p:Prop} (h:p:=by assumption):p:=h
theorem aUM {p:Prop} (h:p:=by rw[show tw ts (JS.g i).pos [105,102]=false from(dK hw (by decide))]):p:=h
theorem aUN {p:Prop} (h:p:=by simp [Op.operands]):p:=h
theorem aUO {p:Prop} (h:p:=by simp only[It,so,An];omega):p:=h
theorem aUP {p:Prop} (h:p:=by simp;omega):p:=h
theorem aUQ {p:Prop} (h:p:=by simp only[so,An];omega):p:=h
theorem aUR {p:Prop} (h:p:=by simp only[so];omega):p:=h
theorem aUS {p:Prop} (h:p:=by rw[show aS ts (.g i) 0 6 [123]=false from(aM H (by decide) (by decide)).trans Kx]):p:=h
theorem aUT {p:Prop} (h:p:=by simp [Region.wanted,hg,hy]):p:=h
theorem aUU {p:Prop} (h:p:=by rintro⟨_,_⟩ hq;exact Bq.ret hq):p:=h
theorem aUV {p:Prop} (h:p:=by simpa using hj):p:=h
theorem aUW {p:Prop} (h:p:=by rw[show tw ts (JS.g i).pos [105,102]=false from f0]):p:=h
theorem aUX {p:Prop} (h:p:=by rw[show tw ts (JS.g i).pos [123]=false from Kx]):p:=h
theorem aUY {p:Prop} (h:p:=by have:=(show([115,116,97,116,105,99]:av).length<=4000 by decide);have:=jr H (wS ts (.g (i+1)) [58,58]) 3;simp only[It,so,An];omega):p:=h
theorem aUZ {p:Prop} (h:p:=by cases h):p:=h
theorem aVa {p:Prop} (h:p:=by rw[aRi];omega):p:=h
theorem aVb {p:Prop} (h:p:=by show ¬false=true;decide):p:=h
theorem aVc {p:Prop} (h:p:=by have:=kO hx;have:=kO hy;omega):p:=h
theorem aVd {p:Prop} (h:p:=by unfold aT at c;rw[No,aRi]at c;rw[c.1];decide):p:=h
theorem aVe {p:Prop} (h:p:=by have:=(show([115,116,97,116,105,99]:av).length<=4000 by decide);simp only[so,An];omega):p:=h
theorem aVf {p:Prop} (h:p:=by have:=hx;have:=jr H (wS ts (.g (i+1)) [58,58]) 3;simp only[It,so,An];omega):p:=h
theorem aVg {p:Prop} (h:p:=by rw[<-hf i hi];exact hj):p:=h
theorem aVh {p:Prop} (h:p:=by simpa using h2):p:=h
theorem aVi {p:Prop} (h:p:=by simpa using h1):p:=h
theorem aVj {p:Prop} (h:p:=by rw[It];omega):p:=h
theorem aVk {p:Prop} (h:p:=by first | rfl | exact(DR.nil (D:=ae.D)).len | exact(DR.nil (D:=ae.D)).len.symm):p:=h
theorem aVl {p:Prop} (h:p:=by simp [xJ]):p:=h
theorem aVm {p:Prop} (h:p:=by simp [hx]):p:=h
theorem aVn {p:Prop} (h:p:=by simpa using h):p:=h
theorem aVo {p:Prop} (h:p:=by simp [Region.wanted,hg,vg hs hj he]):p:=h
theorem aVp {p:Prop} (h:p:=by rw[he];exact hu):p:=h
theorem aVq {p:Prop} (h:p:=by have:=jN hx;have:=jN hy;omega):p:=h
theorem aVr {p:Prop} (h:p:=by simp [hy]):p:=h
theorem aVs {p:Prop} (h:p:=by rw[aRI];omega):p:=h
theorem aVt {p:Prop} (h:p:=by rw[h1]):p:=h
theorem aVu {p:Prop} (h:p:=by have:=kO hx;omega):p:=h
theorem aVv {p:Prop} (h:p:=by simpa using q1):p:=h
theorem aVw {p:Prop} (h:p:=by simpa using hh):p:=h
theorem aVx {p:Prop} (h:p:=by simp at hx ⊢;exact .inr hx):p:=h
theorem aVy {p:Prop} (h:p:=by subst hy;simp [Op.operands]):p:=h
theorem aVz {p:Prop} (h:p:=by simp [Op.operands];exact⟨p.1,by simpa using hp⟩):p:=h
end Go.Am
namespace Go.Am
open Go
def Lh:List Int:=[1,10,100,1000,10000,100000,1000000,10000000,100000000,1000000000,10000000000,100000000000,1000000000000,10000000000000,100000000000000,1000000000000000,10000000000000000,100000000000000000,1000000000000000000,10000000000000000000]
def IX:List (Nat×Array Value):=[(1,(Lh.map λz=>Value.int .u64 z).toArray)]
def z6:List Nat:=[2,3]
def IZ:List Nat:=[0]
def adA:Nat:=4294967295
end Go.Am
namespace Go.Am
open Go Go.RowKit
inductive PV where
 | int (k:IntKind) (n:Int)
 | bool (b:Bool)
 | str (s:List UInt8)
 | bR
 | jk
 | im (sz n:Nat) (f:Nat->List PV)
 | ic (cells:List PV)
 | own (id gen off len:Nat)
 | aI (id gen i off:Nat)
 | rB (id:Nat)
 | qz (f:Nat) (dB:List (Nat×Nat))
 | fn (f:Nat)
 | agg (cs:List PV)
 | gJ (vs:List PV)
 | kB
 | fG (sz n:Nat) (e:TypeId) (f:Nat->List PV) (F:Nat->Prop)
 deriving Inhabited
abbrev Env:=Nat->PV
inductive ao where
 | row (gen sz n:Nat) (e:TypeId) (f:Nat->List PV)
 | dead
 deriving Inhabited
inductive TI where
 | int (k:IntKind)
 | bool
 | str
 | slice (e sz bytes:Nat) (zero:List PV)
 | struct (sz:Nat) (fields:List (Nat×Nat×Bool)) (zero:List PV)
 | ptr (e:Nat)
 | map (k e:Nat) (zero:PV)
 | other
 deriving Inhabited
structure ru where
 get:Nat->TI
def se (env:Env) (t:Nat) (v:PV):Env:=λj=>bif Nat.beq j t then v else env j
def fZ (env:Env) (d:Option Nat) (v:PV):Env:=match d with | some t=>se env t v | none=>env
def C2 (env:Env):List (Nat×PV)->Env
 | []=>env
 | (t,v)::r=>se (C2 env r) t v
inductive iq (b:Bool) (T F:Prop):Prop
 | mk (ht:b=true->T) (hf:b=false->F):iq b T F
theorem lX {b:Bool} {T F:Prop} (h:iq b T F):(b=true->T)/\(b=false->F):=by cases h with | mk a b=>exact⟨a,b⟩
def gd (b:Bool) (K:Prop):Prop:=match b with | true=>K | false=>False
theorem cn {b:Bool} {K:Prop} (h:gd b K):b=true/\K:=by cases b;exact h.elim;exact⟨rfl,h⟩
def xi:IntKind->IntKind->Bool
 | .i8,.i8=>true
 | .i16,.i16=>true
 | .i32,.i32=>true
 | .i64,.i64=>true
 | .u8,.u8=>true
 | .u16,.u16=>true
 | .u32,.u32=>true
 | .u64,.u64=>true
 | _,_=>false
theorem nx {k a:IntKind} (h:xi k a=true):k=a:=by cases k<;>cases a<;>first | rfl | cases h
def ard:Value->Option PV
 | .int k n=>some (.int k n)
 | .bool b=>some (.bool b)
 | .string s=>some (.str s.data.toList)
 | .slice none 0 0=>some .bR
 | .pointer none=>some .jk
 | _=>none
def UJ:List Value->Option (List PV)
 | []=>some []
 | v::r=>match ard v,UJ r with
  | some p,some l=>some (p::l)
  | _,_=>none
def aFT:Option (List PV)->PV
 | some l=>.agg l
 | none=>.kB
def ofValue:Value->PV
 | .int k n=>.int k n
 | .bool b=>.bool b
 | .string s=>.str s.data.toList
 | .slice none 0 0=>.bR
 | .pointer none=>.jk
 | .agg vs=>aFT (UJ vs.toList)
 | _=>.kB
inductive VB:PV->PV->Prop
 | same (a:PV):VB a a
 | nil (sz:Nat) (f:Nat->List PV):VB .bR (.im sz 0 f)
 | Jv (sz:Nat) (e:TypeId) (f:Nat->List PV):VB .bR (.fG sz 0 e f (λ_=>False))
def oG:List PV->List PV->Prop
 | [],[]=>True
 | a::l,b::r=>VB a b/\oG l r
 | _,_=>False
def ev (env:Env):Operand->PV
 | .tmp t=>env t
 | .const v=>ofValue v
 | .func f=>.fn f
 | .global _=>.kB
abbrev Mu:=Nat->Option (Nat×Nat)
inductive bh (S:Nat->Prop) (w:World):PV->Value->Prop
 | int (k:IntKind) (n:Int):bh S w (.int k n) (.int k n)
 | bool (b:Bool):bh S w (.bool b) (.bool b)
 | str (s:List UInt8):bh S w (.str s) (.string ⟨⟨s⟩⟩)
 | bR:bh S w .bR (.slice none 0 0)
 | jk:bh S w .jk (.pointer none)
 | fn (f:Nat):bh S w (.fn f) (.func (.func f) #[] #[])
 | rZ (sz:Nat) (f:Nat->List PV) (a:Option Addr) (c:Nat):bh S w (.im sz 0 f) (.slice a 0 c)
 | im (sz n:Nat) (f:Nat->List PV) (b off c:Nat) (vf:Nat->Nat->Value) (hS:S b) (hlen:∀i,i<n->(f i).length=sz) (hc:n<=c)
   (bB:∀(i j:Nat) (pv:PV),i<n->(f i)[j]? =some pv->w.cell? ⟨b,off+i*sz+j,none⟩=some (vf i j))
   (oV:∀(i j:Nat) (pv:PV),i<n->(f i)[j]? =some pv->bh S w pv (vf i j)):bh S w (.im sz n f) (.slice (some ⟨b,off,none⟩) n c)
 | ic (cs:List PV) (b off:Nat) (vf:Nat->Value) (hS:S b)
   (bB:∀(j:Nat) (pv:PV),cs[j]? =some pv->w.cell? ⟨b,off+j,none⟩=some (vf j))
   (oV:∀(j:Nat) (pv:PV),cs[j]? =some pv->bh S w pv (vf j)):bh S w (.ic cs) (.pointer (some ⟨b,off,none⟩))
inductive nh (S:Nat->Prop) (w:World):PV->Value->Prop
 | nil (sz:Nat) (e:TypeId) (f:Nat->List PV) (F:Nat->Prop) (hF:∀b,¬F b):nh S w (.fG sz 0 e f F) (.slice none 0 0)
 | FK (sz n:Nat) (e:TypeId) (f:Nat->List PV) (F:Nat->Prop) (b off c:Nat) (a:Addr) (cur:Array Value) (vf:Nat->Nat->Value) (hF:F b) (hb:w.heap[b]? =some (.cells cur e (0,0))) (hlen:∀i,i<n->(f i).length=sz) (hc:n<=c)
   (ha:0<c->a=⟨b,off,none⟩) (iQ:off+c*sz<=cur.size)
   (bB:∀(i j:Nat) (pv:PV),i<n->(f i)[j]? =some pv->cur[off+i*sz+j]? =some (vf i j))
   (oV:∀(i j:Nat) (pv:PV),i<n->(f i)[j]? =some pv->bh S w pv (vf i j)\/∃cV n' e' f' F',pv=.fG cV n' e' f' F')
   (xl:∀(i j cV n':Nat) (e':TypeId) (f':Nat->List PV) (F':Nat->Prop),i<n->(f i)[j]? =some (.fG cV n' e' f' F')->nh S w (.fG cV n' e' f' F') (vf i j))
   (GI:∀(i j cV n':Nat) (e':TypeId) (f':Nat->List PV) (F':Nat->Prop),i<n->(f i)[j]? =some (.fG cV n' e' f' F')->∀b',F' b'->F b'/\b'≠b)
   (Nd:∀(i j cV n':Nat) (e':TypeId) (f':Nat->List PV) (F':Nat->Prop) (i2 j2 oh n2:Nat) (e2:TypeId) (f2:Nat->List PV) (F2:Nat->Prop),i<n->(f i)[j]? =some (.fG cV n' e' f' F')->i2<n->(f i2)[j2]? =some (.fG oh n2 e2 f2 F2)->
    ∀b',F' b'->F2 b'->i=i2/\j=j2):nh S w (.fG sz n e f F) (.slice (some a) n c)
def lZ (w:World) (b k:Nat):Prop:=∃cur e z,w.heap[b]? =some (.cells cur e z)/\k<=cur.size
def bX (μ:Mu) (h:List ao) (w:World) (id gen off len:Nat) (v:Value):Prop:=
 (∃a l c,v=.slice a l c)/\match h[id]? with
 | some (ao.row g sz n _ _)=>gen<=g/\(gen=g->off+len<=n/\match μ id with
  | none=>v=.slice none 0 0
  | some (b,base)=>∃a cap,v=.slice (some a) len cap/\len<=cap/\(0<cap->a=⟨b,base+off*sz,none⟩)/\lZ w b (base+(off+cap)*sz))
 | some ao.dead=>True
 | none=>False
def c7 (μ:Mu) (h:List ao) (w:World) (id gen i off:Nat) (v:Value):Prop:=
 (∃a,v=.pointer a)/\match h[id]? with
 | some (ao.row g sz n e _)=>gen<=g/\(gen=g->i<n/\∃b base,μ id=some (b,base)/\(lZ w b 0/\(Nat.beq e adA=true->base=0))/\v=.pointer (some ⟨b,base+i*sz+off,none⟩))
 | some ao.dead=>True
 | none=>False
def th (w:World) (b:Nat):Prop:=∃es clock,w.heap[b]? =some (.map es clock)
def je (μ:Mu) (h:List ao) (w:World) (id:Nat) (v:Value):Prop:=
 (∃a,v=.map a)/\match h[id]? with
 | some (ao.row _ _ _ _ _)=>∃b base,μ id=some (b,base)/\th w b/\v=.map (some b)
 | some ao.dead=>True
 | none=>False
def wi (O:Nat->Nat->Value->Prop) (f:Nat) (dB:List (Nat×Nat)) (v:Value):Prop:=
 ∃vs:Array Value,v=.func (.func f) #[] vs/\vs.size=dB.length/\∀(j:Nat) (p:Nat×Nat),dB[j]? =some p->∃u:Value,vs[j]? =some u/\O p.1 p.2 u
theorem wi.mono {O a:Nat->Nat->Value->Prop} {f:Nat} {dB:List (Nat×Nat)} {v:Value} (h:wi O f dB v) (b:∀id g u,O id g u->a id g u):wi a f dB v:=by
 obtain⟨vs,h1,h2,c⟩:=h;exact⟨vs,h1,h2,λj p hj=>let⟨u,q1,d⟩:=c j p hj;⟨u,q1,b _ _ _ d⟩⟩
def vk (σ:Nat->Nat) (dB:List (Nat×Nat)):List (Nat×Nat):=dB.map λp=>(σ p.1,p.2)
theorem wi.map {O:Nat->Nat->Value->Prop} {σ:Nat->Nat} {f:Nat} {dB:List (Nat×Nat)} {v:Value} (h:wi (λid g u=>O (σ id) g u) f dB v):wi O f (vk σ dB) v:=by
 obtain⟨vs,h1,h2,a⟩:=h;refine⟨vs,h1,by unfold vk;rw[aSp];exact h2,λj p hj=>?_⟩;unfold vk at hj;rw[aRs]at hj;cases hx:dB[j]? with
 | none=>rw[hx]at hj;cases hj
 | some q=>
  rw[hx]at hj;injection hj with hj;subst hj;exact a j q hx
theorem wi.aFP {O:Nat->Nat->Value->Prop} {σ:Nat->Nat} {f:Nat} {dB:List (Nat×Nat)} {v:Value} (h:wi O f (vk σ dB) v):wi (λid g u=>O (σ id) g u) f dB v:=by
 obtain⟨vs,h1,h2,a⟩:=h;refine⟨vs,h1,by unfold vk at h2;rw[aSp]at h2;exact h2,λj p hj=>?_⟩;obtain⟨u,q1,b⟩:=a j (σ p.1,p.2) (by unfold vk;rw[aRs,hj];rfl);exact⟨u,q1,b⟩
def rF (μ:Mu) (h:List ao) (w:World) (f:Nat) (dB:List (Nat×Nat)) (v:Value):Prop:=wi (λid g u=>c7 μ h w id g 0 0 u) f dB v
def Hw:PV->Bool
 | .int _ _=>true
 | .bool _=>true
 | .str _=>true
 | .kB=>true
 | _=>false
def rv:PV->Bool
 | .agg cs=>cs.all Hw
 | v=>Hw v
def EK:PV->Value->Prop
 | .int k n,v=>v=.int k n
 | .bool b,v=>v=.bool b
 | .str s,v=>v=.string ⟨⟨s⟩⟩
 | _,v=>v.oneCell'=true
def Gt:PV->Value->Prop
 | .agg cs,v=>∃vs:Array Value,v=.agg vs/\vs.size=cs.length/\∀(j:Nat) (pv:PV),cs[j]? =some pv->∃u:Value,vs[j]? =some u/\EK pv u
 | .kB,_=>True
 | pv,v=>EK pv v
def zr (C:PV->Value->Prop) (base sz n:Nat) (e:TypeId) (f:Nat->List PV):Obj->Prop
 | .cells cur e' z=>e'=e/\z=(0,0)/\base+n*sz<=cur.size/\∀(i j:Nat) (pv:PV),i<n->(f i)[j]? =some pv->∃v:Value,cur[base+i*sz+j]? =some v/\C pv v
 | .map es _=>es.size=n/\∀i,i<n->∃(a b:PV) (en:MapEntry),f i=[a,b]/\rv a=true/\rv b=true/\es[i]? =some en/\Gt a en.key/\Gt b en.val
 | _=>False
theorem zr.mono {C a:PV->Value->Prop} {base sz n:Nat} {e:TypeId} {f:Nat->List PV} {o:Obj} (h:zr C base sz n e f o) (hc:∀(i j:Nat) (pv:PV) (v:Value),i<n->(f i)[j]? =some pv->C pv v->a pv v):zr a base sz n e f o:=by
 cases o with
 | cells cur e' z=>
  obtain⟨h1,h2,b,d⟩:=h;exact⟨h1,h2,b,λi j pv hi hj=>let⟨v,q1,g⟩:=d i j pv hi hj;⟨v,q1,hc i j pv v hi hj g⟩⟩
 | map es c=>exact h
 | _=>exact h.elim
def db (μ:Mu) (h:List ao) (S:Nat->Prop) (w:World):PV->Value->Prop
 | .own id gen off len,v=>bX μ h w id gen off len v
 | .aI id gen i off,v=>c7 μ h w id gen i off v
 | .rB id,v=>je μ h w id v
 | .qz f dB,v=>rF μ h w f dB v
 | .kB,v=>v.oneCell'=true
 | .fG _ _ _ _ _,v=>v.oneCell'=true
 | .agg _,_=>False
 | .gJ _,_=>False
 | pv,v=>bh S w pv v
def qn (μ:Mu) (h:List ao) (S:Nat->Prop) (w:World):PV->Value->Prop
 | .fG sz n e f F,v=>nh S w (.fG sz n e f F) v
 | pv,v=>db μ h S w pv v
def lE (μ:Mu) (h:List ao) (S:Nat->Prop) (w:World):PV->Value->Prop
 | .agg cs,v=>∃vs:Array Value,v=.agg vs/\vs.size=cs.length/\∀(j:Nat) (pv:PV),cs[j]? =some pv->∃u:Value,vs[j]? =some u/\db μ h S w pv u
 | .kB,_=>True
 | pv,v=>db μ h S w pv v
def cE (μ:Mu) (h:List ao) (S:Nat->Prop) (w:World):PV->Value->Prop
 | .gJ a,v=>∃vs:Array Value,v=.tuple vs/\vs.size=a.length/\∀(j:Nat) (pv:PV),a[j]? =some pv->∃u:Value,vs[j]? =some u/\lE μ h S w pv u
 | pv,v=>lE μ h S w pv v
def dA (μ:Mu) (h:List ao) (S:Nat->Prop) (w:World):Prop:=
 ∀(id g sz n:Nat) (e:TypeId) (f:Nat->List PV),h[id]? =some (ao.row g sz n e f)->(∀i,i<n->(f i).length=sz)/\match μ id with
  | none=>n=0
  | some (b,base)=>∃o:Obj,w.heap[b]? =some o/\zr (qn μ h S w) base sz n e f o
theorem dA.cells {μ:Mu} {h:List ao} {S:Nat->Prop} {w:World} {b base k sz n:Nat} {e:TypeId} {f:Nat->List PV} (hc:lZ w b k) (ho:∃o:Obj,w.heap[b]? =some o/\zr (qn μ h S w) base sz n e f o):
  ∃cur:Array Value,w.heap[b]? =some (.cells cur e (0,0))/\base+n*sz<=cur.size/\
    ∀(i j:Nat) (pv:PV),i<n->(f i)[j]? =some pv->∃v:Value,cur[base+i*sz+j]? =some v/\qn μ h S w pv v:=by
 obtain⟨cur,e',z,h1,_⟩:=hc;obtain⟨o,h2,a⟩:=ho;obtain rfl:=aRO (h1.symm.trans h2);obtain⟨rfl,rfl,q1,c⟩:=a;exact⟨cur,h1,q1,c⟩
theorem dA.EM {C:PV->Value->Prop} {w:World} {b base sz n:Nat} {e:TypeId} {f:Nat->List PV} (ho:∃cur:Array Value,w.heap[b]? =some (.cells cur e (0,0))/\base+n*sz<=cur.size/\
    ∀(i j:Nat) (pv:PV),i<n->(f i)[j]? =some pv->∃v:Value,cur[base+i*sz+j]? =some v/\C pv v):∃o:Obj,w.heap[b]? =some o/\zr C base sz n e f o:=by
 obtain⟨cur,h1,h2,a⟩:=ho;exact⟨_,h1,rfl,rfl,h2,a⟩
def Hx (μ:Mu) (h:List ao) (b:Nat):Prop:=∃(id g sz n:Nat) (e:TypeId) (f:Nat->List PV) (base:Nat),h[id]? =some (ao.row g sz n e f)/\μ id=some (b,base)
def eR (h:List ao) (id i j b:Nat):Prop:=∃(g sz n:Nat) (e:TypeId) (f:Nat->List PV) (a c:Nat) (e':TypeId) (d:Nat->List PV) (F:Nat->Prop),h[id]? =some (ao.row g sz n e f)/\i<n/\(f i)[j]? =some (.fG a c e' d F)/\F b
def dL (μ:Mu) (h:List ao) (b:Nat):Prop:=Hx μ h b\/∃id i j,eR h id i j b
def RQ (S:Nat->Prop) (w:World):Prop:=(∀p,p∈IX->S p.1/\∃t z,w.heap[p.1]? =some (.cells p.2 t z))/\(∀g,g∈z6->S g/\∃a p t z,w.heap[g]? =some (.cells #[.iface a p] t z))/\
 ∀g,g∈IZ->S g/\∃m t z,w.heap[g]? =some (.cells #[.int .i64 m] t z)
theorem RQ.gx {S S':Nat->Prop} {w w':World} (h:RQ S w) (a:∀b,S b->w'.heap[b]? =w.heap[b]?) (hs:∀b,S b->S' b):RQ S' w':=
 ⟨λp hp=>⟨hs _ (h.1 p hp).1,by rw[a _ (h.1 p hp).1];exact(h.1 p hp).2⟩,λg hg=>⟨hs _ (h.2.1 g hg).1,by rw[a _ (h.2.1 g hg).1];exact(h.2.1 g hg).2⟩,
  λg hg=>⟨hs _ (h.2.2 g hg).1,by rw[a _ (h.2.2 g hg).1];exact(h.2.2 g hg).2⟩⟩
structure uY (μ:Mu) (h:List ao) (S:Nat->Prop) (w:World):Prop where
 apart:∀b,dL μ h b->¬S b
 lt:∀b,dL μ h b->b<w.heap.size
 slt:∀b,S b->b<w.heap.size
 inj:∀(i j g sz n:Nat) (e:TypeId) (f:Nat->List PV) (g' cV n':Nat) (e':TypeId) (f':Nat->List PV) (b o o':Nat),h[i]? =some (ao.row g sz n e f)->h[j]? =some (ao.row g' cV n' e' f')->μ i=some (b,o)->μ j=some (b,o')->i=j
 known:RQ S w
 hv:∀b,Hx μ h b->∀id i j,¬eR h id i j b
 hh:∀b id i j id' i' j',eR h id i j b->eR h id' i' j' b->id=id'/\i=i'/\j=j'
structure Fr (μ:Mu) (h:List ao) (S:Nat->Prop) (w:World) (μ':Mu) (h':List ao) (S':Nat->Prop) (w':World):Prop where
 len:h.length<=h'.length
 blocks:∀b,b<w.heap.size->¬dL μ h b->w'.heap[b]? =w.heap[b]?
 sub:∀b,S b->S' b
 new:∀b,S' b->S b\/dL μ h b\/w.heap.size<=b
 own:∀b,dL μ' h' b->dL μ h b\/w.heap.size<=b
 size:w.heap.size<=w'.heap.size
 os:w'.os=w.os
 tape:w'.tape=w.tape
 output:w'.output=w.output
 EO:∀(id g sz n:Nat) (e:TypeId) (f:Nat->List PV),h[id]? =some (ao.row g sz n e f)->match h'[id]? with
  | some (ao.row g' cV n' e' _)=>g<=g'/\(g'=g->μ' id=μ id/\cV=sz/\n'=n/\e'=e)
  | some ao.dead=>True
  | none=>False
 dead:∀id:Nat,h[id]? =some ao.dead->h'[id]? =some ao.dead
 dB:∀b k,dL μ h b->lZ w b k->lZ w' b k
 maps:∀(id g sz n:Nat) (e:TypeId) (f:Nat->List PV) (b base:Nat),h[id]? =some (ao.row g sz n e f)->μ id=some (b,base)->th w b->
  th w' b/\(h'[id]? =some ao.dead\/((∃g' cV n' e' f',h'[id]? =some (ao.row g' cV n' e' f'))/\μ' id=some (b,base)))
 yK:∀b id i j,eR h id i j b->th w b->th w' b
def awV (P:Program) (f:FuncId):Prop:=∃fn c,P.funcs[f]? =some fn/\fn.body=some c/\(fn.name== "runtime.NumGoroutine")=false
def ACall (P:Program) (f:FuncId) (args:List PV) (h:List ao) (R:PV->List ao->Prop):Prop:=
 awV P f/\∀(w:World) (vs:Array Value) (μ:Mu) (S:Nat->Prop),dA μ h S w->uY μ h S w->vs.size=args.length->
  (∀(j:Nat) (pv:PV),args[j]? =some pv->∃v:Value,vs[j]? =some v/\lE μ h S w pv v)->
  Calls P f vs w (λe w'=>∃(v:Value) (res:PV) (h':List ao) (μ':Mu) (S':Nat->Prop),e=.returned v/\R res h'/\cE μ' h' S' w' res v/\dA μ' h' S' w'/\uY μ' h' S' w'/\Fr μ h S w μ' h' S' w')
def cP:PV->Bool
 | .int _ _=>true
 | .bool _=>true
 | .str _=>true
 | .bR=>true
 | .jk=>true
 | .im _ _ _=>true
 | .ic _=>true
 | .fn _=>true
 | _=>false
def eH:PV->Bool
 | .fG _ _ _ _ _=>true
 | _=>false
inductive EW:PV->PV->Prop
 | mk (sz n:Nat) (e:TypeId) (f f':Nat->List PV) (F:Nat->Prop) (hl:∀i,i<n->(f' i).length=(f i).length) (hf:∀(i j:Nat) (pv gO:PV),i<n->(f i)[j]? =some pv->(f' i)[j]? =some gO->eH pv=false->gO=pv) (ho:∀(i j:Nat) (pv gO:PV),i<n->(f i)[j]? =some pv->(f' i)[j]? =some gO->eH pv=true->EW pv gO)
   (hp:∀(i j:Nat) (gO:PV),i<n->(f' i)[j]? =some gO->cP gO=true):EW (.fG sz n e f F) (.im sz n f')
inductive Fz (h η:List ao) (k:List Nat):PV->PV->Prop
 | int (k':IntKind) (n:Int):Fz h η k (.int k' n) (.int k' n)
 | bool (b:Bool):Fz h η k (.bool b) (.bool b)
 | str (s:List UInt8):Fz h η k (.str s) (.str s)
 | bR:Fz h η k .bR .bR
 | jk:Fz h η k .jk .jk
 | GY (sz:Nat) (f:Nat->List PV):Fz h η k .bR (.im sz 0 f)
 | aFg (id id' g' cV:Nat) (e':TypeId) (f':Nat->List PV) (hk:k[id']? =some id) (ho:h[id]? =none) (hη:η[id']? =some (ao.row g' cV 0 e' f')):Fz h η k .bR (.own id' g' 0 0)
 | fn (f:Nat):Fz h η k (.fn f) (.fn f)
 | im (sz n:Nat) (f f':Nat->List PV) (hf:∀i,i<n->f' i=f i):Fz h η k (.im sz n f) (.im sz n f')
 | ic (cs:List PV):Fz h η k (.ic cs) (.ic cs)
 | kB (pv:PV):Fz h η k pv .kB
 | fG (sz n:Nat) (e:TypeId) (f:Nat->List PV) (F:Nat->Prop):Fz h η k (.fG sz n e f F) (.fG sz n e f F)
 | Jv (sz:Nat) (e:TypeId) (f:Nat->List PV):Fz h η k .bR (.fG sz 0 e f (λ_=>False))
 | own (id id' g g' sz cV n n' off len:Nat) (e e':TypeId) (f f':Nat->List PV) (hk:k[id']? =some id) (ho:h[id]? =some (ao.row g sz n e f)) (hη:η[id']? =some (ao.row g' cV n' e' f')) (hn:off+len<=n'):Fz h η k (.own id g off len) (.own id' g' off len)
 | aI (id id' g g' sz cV n n' i off:Nat) (e e':TypeId) (f f':Nat->List PV) (hk:k[id']? =some id) (ho:h[id]? =some (ao.row g sz n e f)) (hη:η[id']? =some (ao.row g' cV n' e' f')) (hn:i<n'):Fz h η k (.aI id g i off) (.aI id' g' i off)
 | rB (id id' g g' sz cV n n':Nat) (e e':TypeId) (f f':Nat->List PV) (hk:k[id']? =some id) (ho:h[id]? =some (ao.row g sz n e f)) (hη:η[id']? =some (ao.row g' cV n' e' f')):Fz h η k (.rB id) (.rB id')
 | qz (f:Nat) (dB Nf:List (Nat×Nat)) (hl:Nf.length=dB.length) (hc:∀(j:Nat) (p p':Nat×Nat),dB[j]? =some p->Nf[j]? =some p'->k[p'.1]? =some p.1/\(∃sz n e f,h[p.1]? =some (ao.row p.2 sz n e f))/\∃sz n e f,η[p'.1]? =some (ao.row p'.2 sz n e f)/\0<n):Fz h η k (.qz f dB) (.qz f Nf)
 | frz (id g sz n off len:Nat) (e:TypeId) (f f':Nat->List PV) (hk:id∉k) (ho:h[id]? =some (ao.row g sz n e f)) (hl:∀i,i<len->(f' i).length=(f (off+i)).length)
   (hp:∀(i j:Nat) (gO:PV),i<len->(f' i)[j]? =some gO->cP gO=true)
   (hf:∀(i j:Nat) (pv gO:PV),i<len->(f (off+i))[j]? =some pv->(f' i)[j]? =some gO->¬EW pv gO->Fz h η k pv gO):Fz h η k (.own id g off len) (.im sz len f')
 | agg (cs Dg:List PV) (hl:Dg.length=cs.length) (hc:∀(j:Nat) (pv gO:PV),cs[j]? =some pv->Dg[j]? =some gO->Fz h η k pv gO):Fz h η k (.agg cs) (.agg Dg)
 | gJ (cs Dg:List PV) (hl:Dg.length=cs.length) (hc:∀(j:Nat) (pv gO:PV),cs[j]? =some pv->Dg[j]? =some gO->Fz h η k pv gO):Fz h η k (.gJ cs) (.gJ Dg)
def wx (h η:List ao) (k:List Nat):List PV->List PV->Prop
 | [],[]=>True
 | a::l,b::r=>Fz h η k a b/\wx h η k l r
 | _,_=>False
def Vh:List Nat->Nat->Bool
 | [],_=>false
 | a::r,x=>match Nat.beq a x with
  | true=>true
  | false=>Vh r x
def qs:List Nat->Bool
 | []=>true
 | a::r=>match Vh r a with
  | true=>false
  | false=>qs r
def pZ:List ao->List Nat->List Nat
 | .row _ _ _ _ _::r,i::is=>i::pZ r is
 | .dead::r,_::is=>pZ r is
 | _,_=>[]
def zM (h η:List ao) (k:List Nat) (m:Nat) (o:ao) (a id:Nat):Prop:=
 match o,h[id]? with
 | .row c d b e' j,some (ao.row g sz n e f)=>(a<m->a=id/\c=g)/\d=sz/\(b=n\/m<=a/\sz≠2/\b<=n)/\e'=e/\
   ∀i,i<b->wx h η k (f i) (j i)
 | .dead,_=>True
 | .row _ _ b _ _,none=>m<=a/\b=0
 | _,_=>False
def jj (l:List PV) (off:Nat):List PV->List PV
 | []=>l
 | c::r=>jj (l.set off c) (off+1) r
def cellsOf:PV->List PV
 | .agg cs=>cs
 | v=>[v]
def eM (h:List ao) (id:Nat):ao:=h.getD id .dead
def force (v:PV) (K:PV->Prop):Prop:=
 match v with
 | .int k n=>K (.int k n)
 | .bool b=>K (.bool b)
 | .str s=>K (.str s)
 | .bR=>K .bR
 | .jk=>K .jk
 | .im sz n f=>K (.im sz n f)
 | .ic cs=>K (.ic cs)
 | .own id gen off len=>K (.own id gen off len)
 | .aI id gen i off=>K (.aI id gen i off)
 | .rB id=>K (.rB id)
 | .qz f dB=>K (.qz f dB)
 | .fn f=>K (.fn f)
 | .agg cs=>K (.agg cs)
 | .gJ vs=>K (.gJ vs)
 | .kB=>K .kB
 | .fG sz n e f F=>K (.fG sz n e f F)
theorem eu {v:PV} {K:PV->Prop} (h:force v K):K v:=by cases v<;>exact h
def H0 (K:List PV->Prop):Nat->List PV->List PV->Prop
 | 0,_,acc=>K acc.reverse
 | _+1,[],_=>False
 | n+1,c::r,acc=>force c λv=>H0 K n r (v::acc)
theorem rA {K:List PV->Prop}:∀(n:Nat) (l acc:List PV),H0 K n l acc->n<=l.length/\K (acc.reverse++l.take n)
 | 0,l,acc,h=>⟨aRV _,by simp only[List.take_zero,aRz];exact h⟩
 | _+1,[],_,h=>h.elim
 | n+1,c::r,acc,h=>by
  obtain⟨h1,h2⟩:=rA n r (c::acc) (eu h);exact⟨by simp;omega,by simpa using h2⟩
def BE (T:ru) (t:Nat) (cells:List PV) (K:PV->Prop):Prop:=
 match T.get t with
 | .struct sz _ _=>H0 (λl=>K (.agg l)) sz cells []
 | .other=>False
 | _=>match cells with
  | c::_=>force c K
  | []=>False
def Av (T:ru) (t:Nat) (a:PV) (h:List ao) (K:PV->Prop):Prop:=
 match a with
 | .ic cells=>BE T t cells K
 | .aI id gen i off=>match eM h id with
  | .row g _ _ _ f=>g=gen/\∃c,f i=c/\BE T t (c.drop off) K
  | .dead=>False
 | _=>False
def gN (f:Nat->List PV) (i:Nat) (l:List PV):Nat->List PV:=λk=>bif Nat.beq k i then l else f k
def EC:List PV->Bool
 | []=>true
 | .int _ _::r=>EC r
 | .bool _::r=>EC r
 | .str _::r=>EC r
 | _=>false
def SY (g:Bool) (q:Bool):Option Bool->Option Bool
 | some c=>match g with
  | true=>some (q&&c)
  | false=>none
 | none=>none
def eqC:List PV->List PV->List PV->Option Bool
 | [],[],[]=>some true
 | .int k _::z,.int k1 a::r,.int k2 b::r'=>SY (xi k k1&&xi k k2) (a==b) (eqC z r r')
 | .bool _::z,.bool a::r,.bool b::r'=>SY true (a==b) (eqC z r r')
 | .str _::z,.str a::r,.str b::r'=>SY true (a==b) (eqC z r r')
 | _,_,_=>none
def UL (e:TI) (d:BinOp) (x y:PV) (K:PV->Prop):Prop:=
 match x,y with
 | .int k a,.int f b=>
  match d with
  | .shl=>0<=b/\K (.int k (k.wrap (a*2 ^ min b.toNat k.bits)))
  | .shr=>0<=b/\K (.int k (a.fdiv (2 ^ min b.toNat k.bits)))
  | _=>gd (xi k f)<|match d with
  | .and=>K (.int k (bits .and k a b))
  | .or=>K (.int k (bits .or k a b))
  | .xor=>K (.int k (bits .xor k a b))
  | .andNot=>K (.int k (bits .andNot k a b))
  | .add=>K (.int k (k.wrap (a+b)))
  | .sub=>K (.int k (k.wrap (a - b)))
  | .mul=>K (.int k (k.wrap (a*b)))
  | .quo=>b≠0/\K (.int k (k.wrap (a.tdiv b)))
  | .rem=>b≠0/\K (.int k (a.tmod b))
  | .eql=>K (.bool (a==b))
  | .neq=>K (.bool (a != b))
  | .lss=>K (.bool (decide (a<b)))
  | .leq=>K (.bool (decide (a<=b)))
  | .gtr=>K (.bool (decide (a>b)))
  | .geq=>K (.bool (decide (a>=b)))
  | _=>False
 | .bool a,.bool b=>match e,d with
  | .bool,.eql=>K (.bool (a==b))
  | .bool,.neq=>K (.bool (!(a==b)))
  | _,_=>False
 | .str a,.str b=>match d with
  | .add=>a.length+b.length<=4611686018427387904/\∃s,a++b=s/\K (.str s)
  | .eql=>K (.bool (a==b))
  | .neq=>K (.bool (!(a==b)))
  | .lss=>K (.bool (Op.bytesLess a b))
  | .leq=>K (.bool (Op.bytesLess a b||a==b))
  | .gtr=>K (.bool !(Op.bytesLess a b||a==b))
  | .geq=>K (.bool !(Op.bytesLess a b))
  | _=>False
 | .agg xs,.agg g=>match e with
  | .struct _ _ z=>gd (EC z) (match eqC z xs g with
   | some b=>match d with
    | .eql=>∃c,b=c/\K (.bool c)
    | .neq=>∃c,b=c/\K (.bool !c)
    | _=>False
   | none=>False)
  | _=>False
 | _,_=>False
def EH (x:PV) (lo hi:Option PV) (K:PV->Prop):Prop:=
 match x with
 | .im sz n f=>match lo,hi with
  | none,none=>K (.im sz n f)
  | some (.int _ l),none=>(0<=l/\l<=n)/\K (.im sz (n - l.toNat) (λi=>f (l.toNat+i)))
  | none,some (.int _ m)=>(0<=m/\m<=n)/\K (.im sz m.toNat f)
  | some (.int _ l),some (.int _ m)=>(0<=l/\l<=m/\m<=n)/\K (.im sz (m.toNat - l.toNat) (λi=>f (l.toNat+i)))
  | _,_=>False
 | .own id gen off len=>match lo,hi with
  | none,none=>K (.own id gen off len)
  | some (.int _ l),none=>(0<=l/\l<=len)/\K (.own id gen (off+l.toNat) (len - l.toNat))
  | none,some (.int _ m)=>(0<=m/\m<=len)/\K (.own id gen off m.toNat)
  | some (.int _ l),some (.int _ m)=>(0<=l/\l<=m/\m<=len)/\K (.own id gen (off+l.toNat) (m.toNat - l.toNat))
  | _,_=>False
 | .str s=>match lo,hi with
  | none,none=>K (.str s)
  | some (.int _ l),none=>(0<=l/\l<=s.length)/\K (.str (s.drop l.toNat))
  | none,some (.int _ m)=>(0<=m/\m<=s.length)/\K (.str (s.take m.toNat))
  | some (.int _ l),some (.int _ m)=>(0<=l/\l<=m/\m<=s.length)/\K (.str ((s.take m.toNat).drop l.toNat))
  | _,_=>False
 | _=>False
def Ms (K:PV->Prop) (v:PV):Prop:=
 match v with
 | .im sz n f=>∃a c,a=n/\(∀i,i<a->c i=f i)/\K (.im sz a c)
 | .str s=>∃s',s=s'/\K (.str s')
 | .own id g off n=>∃b a,b=off/\a=n/\K (.own id g b a)
 | v=>K v
def af6 (n:Nat) (hi a:Option PV):Prop:=
 match a with
 | none=>True
 | some (.int _ q)=>match hi with
  | some (.int _ m)=>m<=q/\q<=n
  | _=>False
 | _=>False
def isByte:List PV->Bool
 | [.int .u8 _]=>true
 | _=>false
def byteOf:List PV->UInt8
 | [.int _ v]=>UInt8.ofNat v.toNat
 | _=>0
def zq (v:PV) (h:List ao) (K:List UInt8->Prop):Prop:=
 match v with
 | .bR=>K []
 | .im sz n f=>gd (Nat.beq sz 1) (∃s:List UInt8,s.length=n/\(∀i,i<n->f i=[.int .u8 (s.getD i 0).toNat])/\K s)
 | .own id gen off n=>match eM h id with
  | .row g sz _ _ f=>g=gen/\gd (Nat.beq sz 1) (∃s:List UInt8,s.length=n/\(∀i,i<n->f (off+i)=[.int .u8 (s.getD i 0).toNat])/\K s)
  | .dead=>False
 | _=>False
def BG:PV->Bool
 | .agg _=>false
 | .gJ _=>false
 | .kB=>false
 | .fG _ _ _ _ _=>false
 | _=>true
def storable:PV->Bool
 | .agg cs=>cs.all BG
 | v=>BG v
def rC (env:Env) (sz:Nat) (fl:List (Nat×Nat×Bool)) (K:List PV->Prop):List (Nat×Operand)->List PV->Prop
 | [],acc=>K acc
 | (k,x)::r,acc=>match fl[k]? with
  | some (o,size,_)=>force (ev env x) λv=>gd (storable v&&Nat.beq (cellsOf v).length size&&Nat.ble (o+size) sz) (rC env sz fl K r (jj acc o (cellsOf v)))
  | none=>False
def dO (T:ru) (op:Op) (env:Env) (h:List ao) (K:PV->Prop):Prop:=
 match op with
 | .move x=>force (ev env x) K
 | .assign x=>force (ev env x) K
 | .pick c a b=>match ev env c with
  | .bool t=>iq t (force (ev env a) K) (force (ev env b) K)
  | _=>False
 | .binOp q t x y _=>UL (T.get t) q (ev env x) (ev env y) K
 | .unOp u _ x=>match u,ev env x with
  | .not,.bool b=>K (.bool !b)
  | .neg,.int k n=>K (.int k (k.wrap (0 - n)))
  | _,_=>False
 | .load t a=>Av T t (ev env a) h K
 | .convert s d x=>match T.get s,T.get d,ev env x with
  | .int _,.int k,.int _ n=>K (.int k (k.wrap n))
  | .slice e _ _ _,.str,v=>match T.get e with
   | .int .u8=>zq v h (λs=>K (.str s))
   | _=>False
  | _,_,_=>False
 | .nilCheck x=>match ev env x with
  | .ic cs=>K (.ic cs)
  | .aI id gen i off=>match eM h id with
   | .row g _ _ _ _=>g=gen/\K (.aI id gen i off)
   | .dead=>False
  | _=>False
 | .fieldAddr s x k=>match T.get s with
  | .struct _ fl _=>match fl[k]? with
   | some (o,_,_)=>match ev env x with
    | .ic cs=>K (.ic (cs.drop o))
    | .aI id gen i off=>match eM h id with
     | .row g _ _ _ _=>g=gen/\K (.aI id gen i (off+o))
     | .dead=>False
    | _=>False
   | none=>False
  | _=>False
 | .field s x k=>match T.get s with
  | .struct _ fl _=>match fl[k]? with
   | some (o,size,r)=>match ev env x with
    | .agg cs=>match r with
     | true=>H0 (λl=>K (.agg l)) size (cs.drop o) []
     | false=>match cs.drop o with
      | c::_=>force c K
      | []=>False
    | _=>False
   | none=>False
  | _=>False
 | .build t parts=>match T.get t with
  | .struct sz fl z=>rC env sz fl (λcs=>K (.agg cs)) parts.toList z
  | _=>False
 | .indexAddr t x i=>match T.get t,ev env x,ev env i with
  | .slice _ sz _ _,.im m n f,.int _ i=>gd (Nat.beq sz m) ((0<=i/\i<n)/\∃c,f i.toNat=c/\K (.ic c))
  | .slice _ sz _ _,.own id gen off len,.int _ i=>match eM h id with
   | .row g m _ e' _=>g=gen/\gd (Nat.beq sz m&&!Nat.beq e' adA) ((0<=i/\i<len)/\∃j,off+i.toNat=j/\K (.aI id gen j 0))
   | .dead=>False
  | _,_,_=>False
 | .index t x i=>match T.get t,ev env x,ev env i with
  | .str,.str s,.int _ i=>(0<=i/\i<s.length)/\∃c,s.getD i.toNat 0=c/\K (.int .u8 (c:UInt8).toNat)
  | _,_,_=>False
 | .extract x i=>match ev env x with
  | .gJ vs=>match vs[i]? with
   | some v=>force v K
   | none=>False
  | _=>False
 | .slice t x lo hi p=>match T.get t,ev env x with
  | .slice _ sz _ _,.im m n f=>gd (Nat.beq sz m) (af6 n (hi.map (ev env)) (p.map (ev env))/\EH (.im m n f) (lo.map (ev env)) (hi.map (ev env)) (Ms K))
  | .slice _ sz _ _,.own id gen off len=>match eM h id with
   | .row g m _ _ _=>g=gen/\gd (Nat.beq sz m) (af6 len (hi.map (ev env)) (p.map (ev env))/\EH (.own id gen off len) (lo.map (ev env)) (hi.map (ev env)) (Ms K))
   | .dead=>False
  | .str,.str s=>gd p.isNone (EH (.str s) (lo.map (ev env)) (hi.map (ev env)) (Ms K))
  | _,_=>False
 | .call ⟨.builtin .len,args,ts⟩=>match args.toList,ts.toList with
  | [x],[t]=>match T.get t,ev env x with
   | .slice _ _ _ _,.im _ n _=>K (.int .i64 n)
   | .slice _ _ _ _,.bR=>K (.int .i64 0)
   | .slice _ _ _ _,.own id gen _ n=>match eM h id with
    | .row g _ _ _ _=>g=gen/\K (.int .i64 n)
    | .dead=>False
   | .str,.str s=>K (.int .i64 s.length)
   | .map _ _ _,.rB id=>match eM h id with
    | .row _ _ n _ _=>K (.int .i64 n)
    | .dead=>False
   | _,_=>False
  | _,_=>False
 | _=>False
def mz:TI->Nat
 | .struct sz _ _=>sz
 | .other=>0
 | _=>1
def ED:TI->Option (List PV)
 | .int k=>some [.int k 0]
 | .bool=>some [.bool false]
 | .str=>some [.str []]
 | .slice _ _ _ _=>some [.bR]
 | .struct _ _ z=>some z
 | _=>none
def Cl (len:Nat):Nat->List (Nat×Operand)->Bool
 | k,[]=>Nat.beq k len
 | k,(i,_)::r=>Nat.beq i k&&Cl len (k+1) r
def tr (env:Env) (sz:Nat) (K:List (List PV)->Prop):List (Nat×Operand)->List (List PV)->Prop
 | [],acc=>K acc.reverse
 | (_,x)::r,acc=>force (ev env x) λv=>gd (storable v&&Nat.beq (cellsOf v).length sz) (tr env sz K r (cellsOf v::acc))
theorem Cm {env:Env} {sz:Nat} {K:List (List PV)->Prop}:∀(l:List (Nat×Operand)) (acc:List (List PV)),tr env sz K l acc->
  (∀p∈l,storable (ev env p.2)=true/\Nat.beq (cellsOf (ev env p.2)).length sz=true)/\K (acc.reverse++l.map λp=>cellsOf (ev env p.2))
 | [],acc,h=>⟨λp hp=>by simp at hp,by simp only[aRX,aRz];exact h⟩
 | (i,x)::r,acc,h=>by
  obtain⟨h1,h2⟩:=cn (eu h);simp only[No]at h1;obtain⟨a,b⟩:=Cm r _ h2;refine⟨λp hp=>?_,by simpa using b⟩;simp only[aRo]at hp;rcases hp with rfl | hp
  ·exact h1
  ·exact a p hp
def noO:List PV->Bool
 | []=>true
 | .fG _ _ _ _ _::_=>false
 | _::r=>noO r
def QL (x:PV) (h:List ao) (sz:Nat) (K:Nat->(Nat->List PV)->Prop):Prop:=
 match x with
 | .bR=>K 0 (λ_=>[])
 | .im a m g=>gd (Nat.beq sz a) (K m g)
 | .own id gen off m=>match eM h id with
  | .row g a _ _ f=>g=gen/\(∀i,i<m->noO (f (off+i))=true)/\gd (Nat.beq sz a) (K m (λi=>f (off+i)))
  | .dead=>False
 | .str s=>gd (Nat.beq sz 1)<|K s.length (λi=>[.int .u8 (s.getD i 0).toNat])
 | _=>False
def xS (e sz bytes:Nat) (s x:PV) (h:List ao) (K:PV->List ao->Prop):Prop:=
 match s with
 | .bR=>QL x h sz λm g=>m*bytes<=140737488355328/\∃a b,a=m/\(∀i,i<a->oG (g i) (b i))/\K (.own h.length 0 0 a) (h++[.row 0 sz a e b])
 | .own id gen off len=>match eM h id with
  | .row g c _ e' f=>g=gen/\gd (Nat.beq sz c&&Nat.beq e e') (QL x h sz λm q=>(len+m)*bytes<=140737488355328/\∃a b,a=len+m/\
    (∀i,i<a->oG (bif Nat.blt i len then f (off+i)else q (i - len)) (b i))/\
    K (.own id (gen+1) 0 a) (h.set id (.row (gen+1) sz a e b)))
  | .dead=>False
 | _=>False
def Qa (f:Nat->List PV) (n:Nat) (q:Nat->List PV):Nat->List PV:=λi=>bif Nat.blt i n then f i else q (i - n)
def Na (e sz bytes:Nat) (s x:PV) (h:List ao) (K:PV->List ao->Prop):Prop:=
 match s,x with
 | .bR,.own b a 0 m=>match eM h b with
  | .row c oh _ _ q=>c=a/\gd (Nat.beq sz oh) (m*bytes<=140737488355328/\K (.own h.length 1 0 m) (((h++[ao.row 0 sz 0 e (λ_=>[])]).set h.length (ao.row 1 sz m e q)).set b ao.dead))
  | .dead=>False
 | .own id gen 0 len,.own b a 0 m=>match eM h id with
  | .row g d _ e' f=>match eM h b with
   | .row c oh _ _ q=>g=gen/\c=a/\gd (Nat.beq sz d&&(Nat.beq e e'&&(Nat.beq sz oh&&!Nat.beq b id))) ((len+m)*bytes<=140737488355328/\K (.own id (gen+1) 0 (len+m)) ((h.set id (ao.row (gen+1) sz (len+m) e (Qa f len q))).set b ao.dead))
   | .dead=>False
  | .dead=>False
 | _,_=>False
inductive Ra (e sz bytes:Nat) (s x:PV) (h:List ao) (K:PV->List ao->Prop):Prop
 | gx (hp:xS e sz bytes s x h K)
 | move (hp:Na e sz bytes s x h K)
def oc:PV->Bool
 | .gJ _=>false
 | _=>true
inductive vH (P:Program) (f:FuncId) (args:List PV) (h:List ao) (K:PV->List ao->Prop):Prop
 | mk (R:PV->List ao->Prop) (hA:ACall P f args h R) (hk:∀res h',R res h'->K res h')
def pop (P:Program) (T:ru) (op:Op) (env:Env) (h:List ao) (K:PV->List ao->Prop):Prop:=
 match op with
 | .store t a x=>match ev env a with
  | .aI id gen i off=>match eM h id with
   | .row g sz n e f=>g=gen/\force (ev env x) λv=>gd (storable v&&Nat.ble 1 (mz (T.get t))&&Nat.beq (mz (T.get t)) (cellsOf v).length&&Nat.ble (off+(cellsOf v).length) sz)
     (∃c k,f i=c/\(∀j,j<n->oG (gN f i (jj c off (cellsOf v)) j) (k j))/\K .kB (h.set id (.row g sz n e k)))
   | .dead=>False
  | _=>False
 | .box t x=>force (ev env x) λv=>gd (storable v&&Nat.beq (cellsOf v).length (mz (T.get t))) (K (.aI h.length 0 0 0) (h++[.row 0 (mz (T.get t)) 1 t (λ_=>cellsOf v)]))
 | .alloc t=>match ED (T.get t)with
  | some z=>K (.aI h.length 0 0 0) (h++[.row 0 (mz (T.get t)) 1 t (λ_=>z)])
  | none=>False
 | .makeSlice t l c=>match T.get t,ev env l,ev env c with
  | .slice e sz bytes zero,.int _ n,.int _ m=>(0<=n/\n<=m/\m<=4611686018427387904/\m.toNat*bytes<=140737488355328)/\∃o k,o=n.toNat/\(∀i,i<o->oG zero (k i))/\K (.own h.length 0 0 o) (h++[.row 0 sz o e k])
  | _,_,_=>False
 | .buildSlice t len parts=>match T.get t with
  | .slice e sz _ _=>gd (Cl len 0 parts.toList&&Nat.ble (len*sz) 65536) (tr env sz (λcs=>∃k,(∀i,i<len->oG (cs.getD i []) (k i))/\K (.own h.length 0 0 len) (h++[.row 0 sz len e k])) parts.toList [])
  | _=>False
 | .convert s d x=>match T.get s,T.get d,ev env x with
  | .str,.slice e _ _ _,.str b=>match T.get e with
   | .int .u8=>∃k,(∀i,i<b.length->k i=[.int .u8 (b.getD i 0).toNat])/\K (.im 1 b.length k) h
   | _=>False
  | _,_,_=>dO T (.convert s d x) env h (λv=>K v h)
 | .binOp q t x y ty=>match q,T.get t,ev env x,ev env y with
  | .eql,.slice _ _ _ _,.im _ n _,.bR=>(n=0->K (.bool true) h)/\K (.bool false) h
  | _,_,_,_=>dO T (.binOp q t x y ty) env h (λv=>K v h)
 | .call ⟨.builtin .append,args,ts⟩=>match args.toList,ts.toList with
  | [s,x],[t,tx]=>match T.get t,T.get tx with
   | .slice e sz bytes _,.slice _ _ _ _=>Ra e sz bytes (ev env s) (ev env x) h K
   | .slice e sz bytes _,.str=>Ra e sz bytes (ev env s) (ev env x) h K
   | _,_=>False
  | _,_=>False
 | .call ⟨.value r,args,_⟩=>match ev env r with
  | .fn f=>gd (args.toList.all (λx=>oc (ev env x))) (vH P f (args.toList.map (ev env)) h K)
  | .qz f dB=>gd (args.toList.all (λx=>oc (ev env x))) (vH P f (args.toList.map (ev env)++dB.map λp=>.aI p.1 p.2 0 0) h K)
  | _=>False
 | op=>dO T op env h (λv=>K v h)
def xB (P:Program) (T:ru) (all:List Oper) (K:Env->List ao->Prop) (l:List Oper):Env->List ao->Prop:=
 List.rec (motive:=λ_=>Env->List ao->Prop) K (λo _ a env h=>match o.guard with
  | none=>pop P T o.op env h (λv h'=>a (fZ env o.dst v) h')
  | some (j,want)=>match(all[j]?).bind (·.dst)with
   | some t=>match env t with
    | .bool b=>iq b
      (match want with
       | true=>pop P T o.op (se env t (.bool true)) h (λv h'=>a (fZ (se env t (.bool true)) o.dst v) h')
       | false=>a (fZ (se env t (.bool true)) o.dst (.gJ [])) h)
      (match want with
       | true=>a (fZ (se env t (.bool false)) o.dst (.gJ [])) h
       | false=>pop P T o.op (se env t (.bool false)) h (λv h'=>a (fZ (se env t (.bool false)) o.dst v) h'))
    | .gJ []=>a (fZ env o.dst (.gJ [])) h
    | _=>False
   | none=>False) l
abbrev XQ:=Exit->Env->List ao->Prop
def XQ.then (next:Env->List ao->Prop) (Q:XQ):XQ
 | .normal,env,h=>next env h
 | e,env,h=>Q e env h
def XQ.inBlock (id:Nat) (Q:XQ):XQ
 | .exit a,env,h=>match Nat.beq a id with
  | true=>Q .normal env h
  | false=>Q (.exit a) env h
 | e,env,h=>Q e env h
def Az (h η:List ao) (k:List Nat) (env:Env):List (Nat×PV)->Prop
 | []=>True
 | (t,v)::r=>Fz h η k (env t) v/\Az h η k env r
def mC (h η:List ao) (k:List Nat) (m:Nat):Nat->List ao->List Nat->Prop
 | _,[],[]=>True
 | i,o::r,id::r'=>zM h η k m o i id/\mC h η k m (i+1) r r'
 | _,_,_=>False
def AA (m:Nat) (env:Env) (h:List ao) (σ:List (Nat×PV)) (η:List ao):Prop:=
 ∃k:List Nat,qs (pZ η k)=true/\m<=k.length/\Az h η k env σ/\mC h η k m 0 η k
def qK:Env:=λ_=>.kB
def MS (h h1:List ao):Prop:=∃(id g sz n:Nat) (e:TypeId) (f:Nat->List PV) (i j c a:Nat) (e':TypeId) (d:Nat->List PV) (F:Nat->Prop) (b:Nat->List PV),h[id]? =some (ao.row g sz n e f)/\i<n/\
 (f i)[j]? =some (.fG c a e' d F)/\b i=(f i).set j (.own h.length 0 0 a)/\(∀k,k<n->k≠i->b k=f k)/\h1=h.set id (.row g sz n e b)++[.row 0 c a e' d]
def EZ (h:List ao) (id i j sub:Nat) (F:Nat->Prop) (h1:List ao):Prop:=∃(g sz n:Nat) (e:TypeId) (f:Nat->List PV) (g2 oh n2:Nat) (e2:TypeId) (f2 a:Nat->List PV),h[id]? =some (ao.row g sz n e f)/\h[sub]? =some (ao.row g2 oh n2 e2 f2)/\
 id≠sub/\i<n/\(f i)[j]? =some (.own sub g2 0 n2)/\(∀k,k<n2->∀c,c∈f2 k->cP c=true\/eH c=true)/\a i=(f i).set j (.fG oh n2 e2 f2 F)/\(∀k,k<n->k≠i->a k=f k)/\
 h1=(h.set id (.row g sz n e a)).set sub .dead
inductive sO (m:Nat) (body:(Env->List ao->Prop)->Env->List ao->Prop):Env->List ao->Prop
 | take {env:Env} {h:List ao} (σ:List (Nat×PV)) (η:List ao) (ht:AA m env h σ η) (hk:sO m body (C2 qK σ) η):sO m body env h
 | step {env:Env} {h:List ao} (N:Env->List ao->Prop) (hN:∀e h',N e h'->sO m body e h') (hb:body N env h):sO m body env h
 | ex {env:Env} {h:List ao} (h1:List ao) (hx:MS h h1) (hk:sO m body env h1):sO m body env h
 | ab {env:Env} {h:List ao} (id i j sub:Nat) (h1:(Nat->Prop)->List ao) (ha:∀F,EZ h id i j sub F (h1 F)) (hk:∀F,sO m body env (h1 F)):sO m body env h
def aX (m:Nat) (body:(Env->List ao->Prop)->Env->List ao->Prop) (σ:List (Nat×PV)) (η:List ao):Prop:=sO m body (C2 qK σ) η
inductive loopGo (m:Nat) (body:(Env->List ao->Prop)->Env->List ao->Prop) (env:Env):List ao->Prop
 | mk {h:List ao} (σ:List (Nat×PV)) (η:List ao) (ht:AA m env h σ η) (hk:aX m body σ η):loopGo m body env h
 | ex {h:List ao} (h1:List ao) (hx:MS h h1) (hk:loopGo m body env h1):loopGo m body env h
 | ab {h:List ao} (id i j sub:Nat) (h1:(Nat->Prop)->List ao) (ha:∀F,EZ h id i j sub F (h1 F)) (hk:∀F,loopGo m body env (h1 F)):loopGo m body env h
theorem loopGo.to {m:Nat} {body:(Env->List ao->Prop)->Env->List ao->Prop} {env:Env} {h:List ao} (hg:loopGo m body env h):sO m body env h:=by
 induction hg with
 | mk σ η c a=>exact .take σ η c a
 | ex h1 hx a b=>exact .ex h1 hx b
 | ab id i j sub h1 d a b=>exact .ab id i j sub h1 d b
theorem aX.enter {m:Nat} {body:(Env->List ao->Prop)->Env->List ao->Prop} {env:Env} {h:List ao} (σ:List (Nat×PV)) (η:List ao) (a:AA m env h σ η) (b:aX m body σ η):sO m body env h:=.take σ η a b
theorem aX.round {m:Nat} {body:(Env->List ao->Prop)->Env->List ao->Prop} {σ:List (Nat×PV)} {η:List ao} (a:body (loopGo m body) (C2 qK σ) η):aX m body σ η:=
 .step (loopGo m body) (λ_ _ hg=>hg.to) a
inductive AB (m:Nat) (J:List (Nat×PV)->List ao->Prop) (env:Env):List ao->Prop
 | mk {h:List ao} (σ:List (Nat×PV)) (η:List ao) (ht:AA m env h σ η) (hj:J σ η):AB m J env h
 | ex {h:List ao} (h1:List ao) (hx:MS h h1) (hk:AB m J env h1):AB m J env h
 | ab {h:List ao} (id i j sub:Nat) (h1:(Nat->Prop)->List ao) (ha:∀F,EZ h id i j sub F (h1 F)) (hk:∀F,AB m J env (h1 F)):AB m J env h
inductive xr (m:Nat) (A B:XQ->Env->List ao->Prop) (Q:XQ) (env:Env):List ao->Prop
 | direct {h:List ao} (hd:A (XQ.then (B Q) Q) env h):xr m A B Q env h
 | cut {h:List ao} (J:List (Nat×PV)->List ao->Prop) (ha:A (XQ.then (AB m J) Q) env h) (hb:∀σ η,J σ η->B Q (C2 qK σ) η):xr m A B Q env h
 | ex {h:List ao} (h1:List ao) (hx:MS h h1) (hk:xr m A B Q env h1):xr m A B Q env h
 | ab {h:List ao} (id i j sub:Nat) (h1:(Nat->Prop)->List ao) (ha:∀F,EZ h id i j sub F (h1 F)) (hk:∀F,xr m A B Q env (h1 F)):xr m A B Q env h
def HT:Op->Bool
 | .call ⟨.value _,_,_⟩=>false
 | .call ⟨.builtin .append,_,_⟩=>false
 | .call ⟨.builtin .copy,_,_⟩=>false
 | .store _ _ _=>false
 | .box _ _=>false
 | .alloc _=>false
 | .makeSlice _ _ _=>false
 | .buildSlice _ _ _=>false
 | .makeMap _ _=>false
 | .mapUpdate _ _ _ _=>false
 | _=>true
def zZ:PV->Bool
 | .int _ _=>true
 | .bool _=>true
 | .str _=>true
 | .bR=>true
 | _=>false
def adk (P:Program) (b:PV) (args:List PV) (h:List ao) (K:PV->Prop):Prop:=
 match b with
 | .fn f=>gd (args.all oc) (∃(a:List PV) (v:PV),wx h [] [] args a/\a.all oc=true/\ACall P f a [] (λres _=>res=v)/\gd (zZ v) (K v))
 | _=>False
def qop (P:Program) (T:ru) (op:Op) (env:Env) (h:List ao) (K:PV->Prop):Prop:=
 match op with
 | .call ⟨.value a,args,_⟩=>adk P (ev env a) (args.toList.map (ev env)) h K
 | op=>dO T op env h K
def zE (P:Program) (T:ru) (all:List Oper) (h:List ao) (K:Env->Prop) (l:List Oper):Env->Prop:=
 List.rec (motive:=λ_=>Env->Prop) K (λo _ a env=>match o.guard with
  | none=>qop P T o.op env h (λv=>a (fZ env o.dst v))
  | some (j,want)=>match(all[j]?).bind (·.dst)with
   | some t=>match env t with
    | .bool b=>iq b
      (match want with
       | true=>qop P T o.op (se env t (.bool true)) h (λv=>a (fZ (se env t (.bool true)) o.dst v))
       | false=>a (fZ (se env t (.bool true)) o.dst (.gJ [])))
      (match want with
       | true=>a (fZ (se env t (.bool false)) o.dst (.gJ []))
       | false=>qop P T o.op (se env t (.bool false)) h (λv=>a (fZ (se env t (.bool false)) o.dst v)))
    | .gJ []=>a (fZ env o.dst (.gJ []))
    | _=>False
   | none=>False) l
def qA:List Nat->Nat->Bool
 | [],_=>false
 | a::r,x=>match Nat.beq a x with
  | true=>true
  | false=>qA r x
def xJ:PV->List Nat
 | .own id _ _ _=>[id]
 | .aI id _ _ _=>[id]
 | .rB id=>[id]
 | .qz _ dB=>dB.map (·.1)
 | _=>[]
def oI (env:Env) (op:Op):List Nat:=match op with | .move _=>[] | _=>op.operands.toList.flatMap λx=>xJ (ev env x)
def adm (o:Oper):List Nat:=o.after.toList.filterMap λe=>match Region.binds .any e with | true=>some e.on | false=>none
def ez (all:List Oper) (i:Nat):List Nat:=match all[i]? with | some o=>adm o | none=>[]
def ia:List (Nat×List Nat)->Nat->List Nat
 | [],_=>[]
 | (j,A)::r,i=>match Nat.beq j i with | true=>A | false=>ia r i
def ddL:List Nat->List Nat->List Nat
 | [],acc=>acc
 | a::r,acc=>match qA acc a with | true=>ddL r acc | false=>ddL r (a::acc)
def J8 (all:List Oper):List (Nat×Bool)->List (Nat×List Nat)->List (Nat×List Nat)
 | [],t=>t
 | (i,_)::r,t=>J8 all r ((i,ddL (ez all i++(ez all i).flatMap (ia t)) [])::t)
def xW (ops:Array Oper) (i j:Nat):Bool:=match ops[i]?,ops[j]? with | some x,some y=>Oper.apart ops x y | _,_=>false
def jO (ops:Array Oper) (t:List (Nat×List Nat)) (p i:Nat×Bool):Bool:=
 !(Nat.beq p.1 i.1)&&!(qA (ez ops.toList p.1) i.1)&&(qA (ez ops.toList i.1) p.1||(xW ops p.1 i.1&&(p.2||qA (ia t i.1) p.1)))
def dr (ops:Array Oper) (t:List (Nat×List Nat)):List (Nat×Bool)->Bool
 | []=>true
 | p::r=>r.all (jO ops t p)&&dr ops t r
def Tv (ops:Array Oper) (ord:List (Nat×Bool)):Bool:=
 Nat.beq ord.length ops.size&&(List.range ops.size).all (λj=>qA (ord.map (·.1)) j)&&ord.all (λp=>Nat.blt p.1 ops.size&&(ez ops.toList p.1).all (λd=>Nat.blt d ops.size&&!(Nat.beq d p.1)))&&dr ops (J8 ops.toList ord []) ord
def Ki (h h':List ao) (K:Prop):List Nat->Prop
 | []=>K
 | id::r=>eM h id=eM h' id/\Ki h h' K r
def sU (a:List Nat) (h h':List ao) (K:Prop):List (Nat×List Nat)->Prop
 | []=>K
 | (j,ids)::r=>match qA a j with
  | true=>sU a h h' K r
  | false=>Ki h h' (sU a h h' K r) ids
def GL (P:Program) (T:ru) (st:Bool) (op:Op) (env:Env) (h:List ao) (G:PV->List ao->Prop):Prop:=
 match st with
 | true=>dO T op env h (λv=>G v h)
 | false=>pop P T op env h G
def yO (P:Program) (T:ru) (all:List Oper) (st:Bool) (o:Oper) (F:Env->PV->List ao->Prop) (env:Env) (h:List ao):Prop:=
 match o.guard with
 | none=>GL P T st o.op env h (F env)
 | some (j,want)=>match(all[j]?).bind (·.dst)with
  | some t=>match env t with
   | .bool b=>iq b
     (match want with
      | true=>GL P T st o.op (se env t (.bool true)) h (F (se env t (.bool true)))
      | false=>F (se env t (.bool true)) (.gJ []) h)
     (match want with
      | true=>F (se env t (.bool false)) (.gJ []) h
      | false=>GL P T st o.op (se env t (.bool false)) h (F (se env t (.bool false))))
   | .gJ []=>F env (.gJ []) h
   | _=>False
  | none=>False
def fw (P:Program) (T:ru) (all:List Oper) (t:List (Nat×List Nat)) (K:Env->List ao->Prop) (l:List (Nat×Bool)):List (Nat×List Nat)->Env->List ao->Prop:=
 List.rec (motive:=λ_=>List (Nat×List Nat)->Env->List ao->Prop) (λ_ env h=>K env h) (λp _ b a env h=>match all[p.1]? with
  | some o=>match p.2 with
   | true=>yO P T all true o (λenv' v h'=>b ((p.1,oI env' o.op)::a) (fZ env' o.dst v) h') env h
   | false=>yO P T all false o (λenv' v h'=>sU (ia t p.1) h h' (b a (fZ env' o.dst v) h') a) env h
  | none=>False) l
def fwE (P:Program) (T:ru) (all:List Oper) (t:List (Nat×List Nat)) (E:List (Nat×List Nat)->Env->List ao->Prop) (l:List (Nat×Bool)):List (Nat×List Nat)->Env->List ao->Prop:=
 List.rec (motive:=λ_=>List (Nat×List Nat)->Env->List ao->Prop) (λa env h=>E a env h) (λp _ b a env h=>match all[p.1]? with
  | some o=>match p.2 with
   | true=>yO P T all true o (λenv' v h'=>b ((p.1,oI env' o.op)::a) (fZ env' o.dst v) h') env h
   | false=>yO P T all false o (λenv' v h'=>sU (ia t p.1) h h' (b a (fZ env' o.dst v) h') a) env h
  | none=>False) l
def ado (ops:Array Oper) (t:List (Nat×List Nat)) (ord:List (Nat×Bool)) (x y:Nat) (a b:List Nat):Bool:=
 Nat.beq a.length b.length&&ord.all (λp=>jO ops t p (x,false)&&jO ops t p (y,false)&&(ez ops.toList p.1).all (λd=>!(qA (x::a) d))&&!(qA (x::a) p.1))&&
  (x::a).all (λj=>qA (y::b) j)&&(y::b).all (λj=>qA (x::a) j)&&(ez ops.toList x).all (λd=>!(qA (x::a) d))&&!(qA a x)&&!(qA b y)&&
  a.all (λj=>Nat.beq j y||qA (ia t j) x||qA (ia t j) y)
abbrev sS:=List (List (Nat×Bool)×Nat×Nat×List (Nat×Bool))
def GM:sS->List (Nat×Bool)->List (Nat×Bool)
 | [],fin=>fin
 | c::r,fin=>c.1++(c.2.1,false)::GM r fin
def fwC (P:Program) (T:ru) (all:List Oper) (t:List (Nat×List Nat)) (K:Env->List ao->Prop) (fin:List (Nat×Bool)) (cs:sS):List (Nat×List Nat)->Env->List ao->Prop:=
 List.rec (motive:=λ_=>List (Nat×List Nat)->Env->List ao->Prop) (λa env h=>fw P T all t K fin a env h)
  (λc _ b a env h=>fwE P T all t (λa env h=>fwE P T all t b [(c.2.1,false)] a env h/\fw P T all t K ((c.2.2.1,false)::c.2.2.2) a env h) c.1 a env h) cs
def Vi (ops:Array Oper) (t:List (Nat×List Nat)) (fin:List (Nat×Bool)):sS->List (Nat×Bool)->Bool
 | [],pre=>dr ops t (pre++fin)
 | c::r,pre=>ado ops t (pre++c.1) c.2.1 c.2.2.1 ((GM r fin).map (·.1)) (c.2.2.2.map (·.1))&&dr ops t ((pre++c.1)++c.2.2.2)&&Vi ops t fin r (pre++c.1)
def Fm (ops:Array Oper) (cs:sS) (fin:List (Nat×Bool)):Bool:=
 (λall=>(λt=>Nat.beq all.length ops.size&&(List.range ops.size).all (λj=>qA (all.map (·.1)) j)&&all.all (λp=>Nat.blt p.1 ops.size&&(ez ops.toList p.1).all (λd=>Nat.blt d ops.size&&!(Nat.beq d p.1)))&&
  Vi ops t fin cs []) (J8 ops.toList all [])) (GM cs fin)
inductive Fo (P:Program) (T:ru) (m:Nat) (ops:Array Oper) (K:Env->List ao->Prop) (env:Env) (h:List ao):Prop
 | quiet (hq:zE P T ops.toList h (λenv'=>K env' h) ops.toList env):Fo P T m ops K env h
 | uE (cs:sS) (fin:List (Nat×Bool)) (hc:Fm ops cs fin=true) (hf:fwC P T ops.toList (J8 ops.toList (GM cs fin) []) K fin cs [] env h):Fo P T m ops K env h
 | float (ord:List (Nat×Bool)) (hc:Tv ops ord=true) (hf:fw P T ops.toList (J8 ops.toList ord []) K ord [] env h):Fo P T m ops K env h
def akW (Q:XQ) (env:Env) (h:List ao):Prop:=Q .normal env h
def aFU (Q:XQ) (h:List ao) (env:Env):Prop:=Q .normal env h
def vc (P:Program) (T:ru) (m:Nat) (c:Code):XQ->Env->List ao->Prop:=
 Code.rec (motive:=λ_=>XQ->Env->List ao->Prop)
  (λQ env h=>Q .normal env h)
  (λ_ ops d Q env h=>match d with
   | false=>xB P T ops.toList (Q .normal) ops.toList env h
   | true=>match ops.toList.all (λo=>HT o.op)with
    | true=>zE P T ops.toList h (aFU Q h) ops.toList env
    | false=>Fo P T m ops (akW Q) env h)
  (λ_ _ a b Q env h=>xr m a b Q env h)
  (λc _ _ a b Q env h=>match ev env c with
   | .bool t=>iq t (a Q env h) (b Q env h)
   | _=>False)
  (λid _ e Q env h=>e (XQ.inBlock id Q) env h)
  (λ_ e Q env h=>sO m (λnext=>e (XQ.then next Q)) env h)
  (λ_ _ _ _ _ _ _ _ _=>False)
  (λid Q env h=>Q (.exit id) env h)
  (λ_ _ _ _ _=>False)
  (λ_ Q env h=>Q .normal env h)
  (λ_ _ _ _=>False)
  (λQ env h=>Q .ret env h)
  (λ_ _ _ _=>False) c
def codeOk (nt:Nat):Code->Bool
 | .region _ ops d=>ops.toList.all (λo=>match o.dst with | some t=>Nat.blt t nt | none=>true)&&(!d||Region.lexB .any ops)
 | .seq a b=>codeOk nt a&&codeOk nt b
 | .cond _ a b=>codeOk nt a&&codeOk nt b
 | .block _ c=>codeOk nt c
 | .loop c=>codeOk nt c
 | _=>true
def xY (T:ru) (env:Env) (h:List ao):List ResultVar->(List PV->Prop)->Prop
 | [],K=>K []
 | .tmp t::r,K=>xY T env h r (λvs=>K (env t::vs))
 | .cell t ty::r,K=>Av T ty (env t) h (λv=>xY T env h r (λvs=>K (v::vs)))
def oneOf:List PV->PV
 | [v]=>v
 | vs=>.gJ vs
inductive Ends (m:Nat) (R:PV->List ao->Prop):List ao->List PV->Prop
 | mk {h:List ao} {vs:List PV} (hn:vs.all oc=true) (k:List Nat) (res:PV) (η:List ao) (hk:qs (pZ η k)=true) (hm:m<=k.length) (hz:Fz h η k (oneOf vs) res) (hh:mC h η k m 0 η k) (hR:R res η):Ends m R h vs
 | ex {h:List ao} {vs:List PV} (h1:List ao) (hx:MS h h1) (hk:Ends m R h1 vs):Ends m R h vs
 | ab {h:List ao} {vs:List PV} (id i j sub:Nat) (h1:(Nat->Prop)->List ao) (ha:∀F,EZ h id i j sub F (h1 F)) (hk:∀F,Ends m R (h1 F) vs):Ends m R h vs
def aFn (T:ru) (rs:List ResultVar) (m:Nat) (R:PV->List ao->Prop):XQ
 | .ret,env,h=>xY T env h rs (Ends m R h)
 | .normal,env,h=>xY T env h rs (Ends m R h)
 | _,_,_=>False
def xx (args:List PV):Env:=λt=>args.getD t .kB
def Rk (env env':Env) (op:Op):Prop:=∀x,x∈op.operands.toList->ev env x=ev env' x
def ast (h h':List ao) (env:Env) (op:Op):Prop:=∀x,x∈op.operands.toList->∀id,id∈xJ (ev env x)->eM h id=eM h' id
theorem nB {v:PV} {K:PV->Prop} (h:K v):force v K:=by cases v<;>exact h
theorem Fu {env env':Env} {sz:Nat} {fl:List (Nat×Nat×Bool)} {K:List PV->Prop}:∀(l:List (Nat×Operand)) (acc:List PV),(∀p,p∈l->ev env p.2=ev env' p.2)->rC env sz fl K l acc=rC env' sz fl K l acc
 | [],acc,_=>rfl
 | (k,x)::r,acc,hs=>by
  have e:=hs (k,x) aUG;simp only at e;unfold rC;rw[e];split
  ·congr 1;funext v;rw[Fu r _ (λp hp=>hs p (aRG _ hp))]
  ·rfl
theorem Fv {env env':Env} {sz:Nat} {K:List (List PV)->Prop}:∀(l:List (Nat×Operand)) (acc:List (List PV)),(∀p,p∈l->ev env p.2=ev env' p.2)->tr env sz K l acc=tr env' sz K l acc
 | [],acc,_=>rfl
 | (k,x)::r,acc,hs=>by
  have e:=hs (k,x) aUG;simp only at e;unfold tr;rw[e];congr 1;funext v;rw[Fv r _ (λp hp=>hs p (aRG _ hp))]
theorem Rm {env env':Env} {o:Option Operand} (hs:∀x,o=some x->ev env x=ev env' x):o.map (ev env)=o.map (ev env'):=by
 cases o with
 | none=>rfl
 | some x=>simp [hs x rfl]
theorem AM {T:ru} {env env':Env} {h:List ao} {K:PV->Prop} (op:Op) (hs:Rk env env' op):dO T op env h K=dO T op env' h K:=by
 cases op with
 | move x=>simp only[dO,hs x aUN]
 | assign x=>simp only[dO,hs x aUN]
 | pick c a b=>simp only[dO,hs c aUN,hs a aUN,hs b aUN]
 | binOp l t x y m=>simp only[dO,hs x aUN,hs y aUN]
 | unOp u t x=>simp only[dO,hs x aUN]
 | load t a=>simp only[dO,hs a aUN]
 | convert s d x=>simp only[dO,hs x aUN]
 | nilCheck x=>simp only[dO,hs x aUN]
 | fieldAddr s x k=>simp only[dO,hs x aUN]
 | field s x k=>simp only[dO,hs x aUN]
 | build t parts=>
  have e:∀sz fl (K:List PV->Prop) z,rC env sz fl K parts.toList z=rC env' sz fl K parts.toList z:=λsz fl K z=>Fu _ _ (λp hp=>hs p.2 aVz);simp only[dO,e]
 | indexAddr t x i=>simp only[dO,hs x aUN,hs i aUN]
 | index t x i=>simp only[dO,hs x aUN,hs i aUN]
 | extract x i=>simp only[dO,hs x aUN]
 | lookup t x i ok=>rfl
 | makeFunc fn first captured=>rfl
 | slice t x lo hi f=>
  have g:lo.map (ev env)=lo.map (ev env'):=Rm (λy hy=>hs y aVy);have e2:hi.map (ev env)=hi.map (ev env'):=Rm (λy hy=>hs y aVy);have j:f.map (ev env)=f.map (ev env'):=Rm (λy hy=>hs y aVy);simp only[dO,hs x aUN,g,e2,j]
 | call c=>
  obtain⟨callee,args,ts⟩:=c;cases callee with
  | builtin b=>
   cases b with
   | len=>
    simp only[dO];split
    ·rename_i x t hx n;have e:=hs x (by simp [Op.operands,Call.operands];have:x∈args.toList:=(by rw[hx];simp);simpa using this);rw[e]
    ·rfl
   | _=>rfl
  | _=>rfl
 | _=>rfl
theorem Vn {T:ru} {env:Env} {h h':List ao} {K:PV->Prop} (op:Op) (hs:ast h h' env op):dO T op env h K=dO T op env h' K:=by
 cases op with
 | load t a=>
  have q:=hs a aUN;simp only[dO];revert q;generalize ev env a=v;intro q;cases v with
  | aI id g i o=>simp only[Av,q id aVl]
  | _=>rfl
 | convert s d x=>
  have q:=hs x aUN;simp only[dO];revert q;generalize ev env x=v;intro q
  have e:∀K,zq v h K=zq v h' K:=λK=>by
   cases v with
   | own id g i o=>simp only[zq,q id aVl]
   | _=>rfl
  generalize T.get s=f;generalize T.get d=j;cases f with
  | slice a b c z=>cases j with
   | str=>simp only[e]
   | _=>rfl
  | int k=>cases j<;>cases v<;>rfl
  | _=>rfl
 | nilCheck x=>
  have q:=hs x aUN;simp only[dO];revert q;generalize ev env x=v;intro q;cases v with
  | aI id g i o=>simp only[q id aVl]
  | _=>rfl
 | fieldAddr s x k=>
  have q:=hs x aUN;simp only[dO];revert q;generalize ev env x=v;intro q;cases v with
  | aI id g i o=>simp only[q id aVl]
  | _=>rfl
 | indexAddr t x i=>
  have q:=hs x aUN;simp only[dO];revert q;generalize ev env x=v;generalize ev env i=u;generalize T.get t=f;intro q;cases f with
  | slice e sz b z=>cases v with
   | own id g o l=>cases u with
    | int k n=>simp only[q id aVl]
    | _=>rfl
   | im a b c=>cases u<;>rfl
   | _=>rfl
  | _=>rfl
 | lookup t x i ok=>rfl
 | slice t x lo hi m=>
  have q:=hs x aUN;simp only[dO];revert q;generalize ev env x=v;generalize T.get t=f;intro q;cases f with
  | slice e sz b z=>cases v with
   | own id g o l=>simp only[q id aVl]
   | _=>rfl
  | str=>cases v<;>rfl
  | _=>rfl
 | call c=>
  obtain⟨callee,args,ts⟩:=c;cases callee with
  | builtin b=>
   cases b with
   | len=>
    simp only[dO];split
    ·rename_i x t hx p;have q:=hs x (by simp [Op.operands,Call.operands];have:x∈args.toList:=(by rw[hx];simp);simpa using this);revert q;generalize ev env x=v;generalize T.get t=f;intro q;cases f with
     | slice e sz b z=>cases v with
      | own id g o l=>simp only[q id aVl]
      | _=>rfl
     | map k e z=>cases v with
      | rB id=>simp only[q id aVl]
      | _=>rfl
     | str=>cases v<;>rfl
     | _=>rfl
    ·rfl
   | _=>rfl
  | _=>rfl
 | _=>rfl
def One (F:(PV->Prop)->Prop):Prop:=∀K,F K->∃v,K v/\∀a,a v->F a
theorem uk (v:PV):One (force v):=λK h=>⟨v,eu h,λb a=>nB a⟩
theorem bN (v:PV):One (λK=>K v):=λK h=>⟨v,h,λ_ a=>a⟩
theorem eh {A:Prop} {F:(PV->Prop)->Prop} (h:One F):One (λK=>A/\F K):=λK a=>
 let⟨v,h1,h2⟩:=h K a.2
 ⟨v,h1,λb c=>⟨a.1,h2 b c⟩⟩
theorem kv {b:Bool} {F:(PV->Prop)->Prop} (h:One F):One (λK=>gd b (F K)):=λK a=>by
 cases b with
 | true=>exact h K a
 | false=>exact a.elim
theorem xK {α:Type} {A:α->Prop} {F:α->(PV->Prop)->Prop} (h:∀c,One (F c)):One (λK=>∃c,A c/\F c K):=λK ⟨c,a,b⟩=>
 let⟨v,h1,h2⟩:=h c K b
 ⟨v,h1,λd e=>⟨c,a,h2 d e⟩⟩
theorem Fw {F:(PV->Prop)->Prop} (h:One F):One (λK=>F (Ms K)):=λK k=>by
 obtain⟨v,h1,h2⟩:=h _ k;cases v with
 | im sz n f=>
  obtain⟨b,i,c,e2,d⟩:=h1;exact⟨.im sz b i,d,λe a=>h2 _ ⟨b,i,c,e2,a⟩⟩
 | own id g off n=>
  obtain⟨j,b,c,e2,d⟩:=h1;exact⟨.own id g j b,d,λe a=>h2 _ ⟨j,b,c,e2,a⟩⟩
 | str s=>
  obtain⟨s',c,d⟩:=h1;exact⟨.str s',d,λe a=>h2 _ ⟨s',c,a⟩⟩
 | _=>exact⟨_,h1,λe a=>h2 _ a⟩
theorem BV {K:List PV->Prop}:∀(n:Nat) (l acc:List PV),n<=l.length->K (acc.reverse++l.take n)->H0 K n l acc
 | 0,l,acc,_,h=>by unfold H0;simpa using h
 | n+1,[],acc,a,_=>by simp at a
 | n+1,c::r,acc,a,h=>nB (BV n r (c::acc) (by simp at a;omega) aVn)
theorem Fx (T:ru) (t:Nat) (cells:List PV):One (BE T t cells):=λK a=>by
 unfold BE at a ⊢;generalize T.get t=q1 at a ⊢;cases q1 with
 | struct sz fl z=>
  obtain⟨h1,h2⟩:=rA _ _ _ a;exact⟨_,h2,λd b=>BV _ _ _ h1 b⟩
 | other=>exact a.elim
 | _=>
  cases cells with
  | nil=>exact a.elim
  | cons c r=>exact uk c K a
theorem Vo (T:ru) (t:Nat) (a:PV) (h:List ao):One (Av T t a h):=λK b=>by
 cases a with
 | ic cells=>exact Fx T t cells K b
 | aI id gen i off=>
  simp only[Av]at b ⊢;generalize eM h id=d at b ⊢;cases d with
  | row g sz n e f=>exact eh (xK (λc=>Fx T t _)) K b
  | dead=>exact b.elim
 | _=>exact b.elim
theorem adB (f:TI) (e:BinOp) (x y:PV):One (UL f e x y):=λK d=>by
 cases x with
 | int k a=>cases y with
  | int i b=>
   cases e with
   | shl=>exact eh (bN _) K d
   | shr=>exact eh (bN _) K d
   | quo=>exact kv (eh (bN _)) K d
   | rem=>exact kv (eh (bN _)) K d
   | _=>exact kv (bN _) K d
  | _=>exact d.elim
 | bool a=>cases y with
  | bool b=>cases f with
   | bool=>cases e with
    | eql=>exact bN _ K d
    | neq=>exact bN _ K d
    | _=>exact d.elim
   | _=>exact d.elim
  | _=>exact d.elim
 | str a=>cases y with
  | str b=>cases e with
   | add=>exact eh (xK λc=>bN _) K d
   | eql=>exact bN _ K d
   | neq=>exact bN _ K d
   | lss=>exact bN _ K d
   | leq=>exact bN _ K d
   | gtr=>exact bN _ K d
   | geq=>exact bN _ K d
   | _=>exact d.elim
  | _=>exact d.elim
 | agg xs=>cases y with
  | agg g=>cases f with
   | struct sz fl z=>
    simp only[UL]at d ⊢;generalize EC z=h at d ⊢;cases h with
    | false=>exact d.elim
    | true=>
     simp only[gd]at d ⊢;generalize eqC z xs g=q at d ⊢;cases q with
     | none=>exact d.elim
     | some b=>cases e<;>first | exact d.elim | exact xK (λc=>bN _) K d
   | _=>exact d.elim
  | _=>exact d.elim
 | _=>exact d.elim
theorem zG (x:PV) (lo hi:Option PV):One (EH x lo hi):=λK a=>by
 cases x with
 | im sz n f=>
  cases lo with
  | none=>cases hi with
   | none=>exact bN _ K a
   | some u=>cases u<;>first | exact a.elim | exact eh (bN _) K a
  | some l=>cases l with
   | int k l=>cases hi with
    | none=>exact eh (bN _) K a
    | some u=>cases u<;>first | exact a.elim | exact eh (bN _) K a
   | _=>cases hi<;>exact a.elim
 | own id gen off len=>
  cases lo with
  | none=>cases hi with
   | none=>exact bN _ K a
   | some u=>cases u<;>first | exact a.elim | exact eh (bN _) K a
  | some l=>cases l with
   | int k l=>cases hi with
    | none=>exact eh (bN _) K a
    | some u=>cases u<;>first | exact a.elim | exact eh (bN _) K a
   | _=>cases hi<;>exact a.elim
 | str s=>
  cases lo with
  | none=>cases hi with
   | none=>exact bN _ K a
   | some u=>cases u<;>first | exact a.elim | exact eh (bN _) K a
  | some l=>cases l with
   | int k l=>cases hi with
    | none=>exact eh (bN _) K a
    | some u=>cases u<;>first | exact a.elim | exact eh (bN _) K a
   | _=>cases hi<;>exact a.elim
 | _=>exact a.elim
theorem Rn (v:PV) (h:List ao):One (λK=>zq v h (λs=>K (.str s))):=λK a=>by
 cases v with
 | bR=>exact bN _ K a
 | im sz n f=>exact kv (xK λs=>eh (bN _)) K a
 | own id gen off n=>
  simp only[zq]at a ⊢;generalize eM h id=b at a ⊢;cases b with
  | row g sz n e f=>exact eh (kv (xK λs=>eh (bN _))) K a
  | dead=>exact a.elim
 | _=>exact a.elim
theorem Fy (env:Env) (sz:Nat) (fl:List (Nat×Nat×Bool)):∀(l:List (Nat×Operand)) (acc:List PV),One (λK=>rC env sz fl (λcs=>K (.agg cs)) l acc)
 | [],acc=>bN _
 | (k,x)::r,acc=>λK a=>by
  unfold rC at a ⊢;generalize fl[k]? =c at a ⊢;cases c with
  | none=>exact a.elim
  | some p=>
   obtain⟨o,size,b⟩:=p;have h1:=eu a;obtain⟨v,h2,d⟩:=kv (Fy env sz fl r _) K h1;exact⟨v,h2,λe f=>nB (d e f)⟩
theorem Nl (T:ru) (op:Op) (env:Env) (h:List ao):One (dO T op env h):=λK l=>by
 cases op with
 | move x=>exact uk _ K l
 | assign x=>exact uk _ K l
 | pick c a b=>
  simp only[dO]at l ⊢;generalize ev env c=v at l ⊢;cases v with
  | bool t=>
   obtain⟨h1,h2⟩:=lX l;cases t with
   | true=>exact⟨_,eu (h1 rfl),λM q=>.mk (λ_=>nB q) (λh=>by cases h)⟩
   | false=>exact⟨_,eu (h2 rfl),λM q=>.mk (λh=>by cases h) (λ_=>nB q)⟩
  | _=>exact l.elim
 | binOp R t x y S=>exact adB _ _ _ _ K l
 | unOp u t x=>
  simp only[dO]at l ⊢;generalize ev env x=v at l ⊢;cases u<;>cases v<;>first | exact l.elim | exact bN _ K l
 | load t a=>exact Vo _ _ _ _ K l
 | convert s d x=>
  simp only[dO]at l ⊢;generalize ev env x=v at l ⊢;generalize T.get s=N at l ⊢;generalize T.get d=w at l ⊢;cases N with
  | int k=>cases w with
   | int U=>cases v<;>first | exact l.elim | exact bN _ K l
   | _=>cases v<;>exact l.elim
  | slice e sz b z=>cases w with
   | str=>
    simp only at l ⊢;generalize T.get e=O at l ⊢;cases O with
    | int k=>cases k<;>first | exact l.elim | exact Rn _ _ K l
    | _=>exact l.elim
   | _=>cases v<;>exact l.elim
  | _=>cases w<;>cases v<;>exact l.elim
 | nilCheck x=>
  simp only[dO]at l ⊢;generalize ev env x=v at l ⊢;cases v with
  | ic cs=>exact bN _ K l
  | aI id gen i off=>
   simp only at l ⊢;generalize eM h id=P at l ⊢;cases P with
   | row g sz n e f=>exact eh (bN _) K l
   | dead=>exact l.elim
  | _=>exact l.elim
 | fieldAddr s x k=>
  simp only[dO]at l ⊢;generalize ev env x=v at l ⊢;generalize T.get s=A at l ⊢;cases A with
  | struct sz fl z=>
   simp only at l ⊢;generalize fl[k]? =B at l ⊢;cases B with
   | none=>exact l.elim
   | some p=>
    obtain⟨o,a,b⟩:=p;cases v with
    | ic cs=>exact bN _ K l
    | aI id gen i off=>
     simp only at l ⊢;generalize eM h id=C at l ⊢;cases C with
     | row g sz n e f=>exact eh (bN _) K l
     | dead=>exact l.elim
    | _=>exact l.elim
  | _=>exact l.elim
 | field s x k=>
  simp only[dO]at l ⊢;generalize ev env x=v at l ⊢;generalize T.get s=A at l ⊢;cases A with
  | struct sz fl z=>
   simp only at l ⊢;generalize fl[k]? =B at l ⊢;cases B with
   | none=>exact l.elim
   | some p=>
    obtain⟨o,a,b⟩:=p;cases v with
    | agg cs=>
     cases b with
     | true=>
      obtain⟨h1,h2⟩:=rA _ _ _ l;exact⟨_,h2,λM q=>BV _ _ _ h1 q⟩
     | false=>
      simp only at l ⊢;generalize cs.drop o=C at l ⊢;cases C with
      | nil=>exact l.elim
      | cons c r=>exact uk c K l
    | _=>exact l.elim
  | _=>exact l.elim
 | build t parts=>
  simp only[dO]at l ⊢;generalize T.get t=D at l ⊢;cases D with
  | struct sz fl z=>exact Fy _ _ _ _ _ K l
  | _=>exact l.elim
 | indexAddr t x i=>
  simp only[dO]at l ⊢;generalize ev env x=v at l ⊢;generalize ev env i=u at l ⊢;generalize T.get t=E at l ⊢;cases E with
  | slice e sz b z=>cases v with
   | im Q n f=>cases u<;>first | exact l.elim | exact kv (eh (xK λc=>bN _)) K l
   | own id gen off len=>cases u with
    | int k n=>
     simp only at l ⊢;generalize eM h id=F at l ⊢;cases F with
     | row g sz n e f=>exact eh (kv (eh (xK λj=>bN _))) K l
     | dead=>exact l.elim
    | _=>exact l.elim
   | _=>cases u<;>exact l.elim
  | _=>cases v<;>cases u<;>exact l.elim
 | index t x i=>
  simp only[dO]at l ⊢;generalize ev env x=v at l ⊢;generalize ev env i=u at l ⊢;generalize T.get t=G at l ⊢;cases G with
  | str=>cases v with
   | str s=>cases u<;>first | exact l.elim | exact eh (xK λc=>bN _) K l
   | _=>cases u<;>exact l.elim
  | _=>cases v<;>cases u<;>exact l.elim
 | extract x i=>
  simp only[dO]at l ⊢;generalize ev env x=v at l ⊢;cases v with
  | gJ vs=>
   simp only at l ⊢;generalize vs[i]? =H at l ⊢;cases H with
   | none=>exact l.elim
   | some u=>exact uk _ K l
  | _=>exact l.elim
 | makeFunc fn first captured=>exact(show False from l).elim
 | lookup t x i ok=>exact(show False from l).elim
 | slice t x lo hi V=>
  simp only[dO]at l ⊢;generalize ev env x=v at l ⊢;generalize T.get t=I at l ⊢;cases I with
  | slice e sz b z=>cases v with
   | im Q n f=>exact kv (eh (Fw (zG _ _ _))) K l
   | own id gen off len=>
    simp only at l ⊢;generalize eM h id=J at l ⊢;cases J with
    | row g sz n e f=>exact eh (kv (eh (Fw (zG _ _ _)))) K l
    | dead=>exact l.elim
   | _=>exact l.elim
  | str=>cases v with
   | str s=>exact kv (Fw (zG _ _ _)) K l
   | _=>exact l.elim
  | _=>cases v<;>exact l.elim
 | call c=>
  obtain⟨callee,args,ts⟩:=c;cases callee with
  | builtin b=>
   cases b with
   | len=>
    simp only[dO]at l ⊢;split at l
    ·rename_i x t hx W;generalize ev env x=v at l ⊢;generalize T.get t=L at l ⊢;cases L with
     | slice e sz b z=>cases v with
      | im a n f=>exact bN _ K l
      | bR=>exact bN _ K l
      | own id gen off n=>
       simp only at l ⊢;generalize eM h id=m at l ⊢;cases m with
       | row g sz n e f=>exact eh (bN _) K l
       | dead=>exact l.elim
      | _=>exact l.elim
     | str=>cases v<;>first | exact l.elim | exact bN _ K l
     | map kt X Y=>cases v with
      | rB id=>
       simp only at l ⊢;generalize eM h id=m at l ⊢;cases m with
       | row g sz n e f=>exact bN _ K l
       | dead=>exact l.elim
      | _=>exact l.elim
     | _=>cases v<;>exact l.elim
    ·exact l.elim
   | _=>exact l.elim
  | _=>exact l.elim
 | _=>exact l.elim
theorem zH {v:PV} {K a:PV->Prop} (b:∀v,K v->a v) (h:force v K):force v a:=nB (b _ (eu h))
theorem gp {b:Bool} {K a:Prop} (c:K->a) (h:gd b K):gd b a:=by cases b;exact h;exact c h
theorem Cs {env:Env} {sz:Nat} {K a:List (List PV)->Prop} (b:∀l,K l->a l):∀(l:List (Nat×Operand)) (acc:List (List PV)),tr env sz K l acc->tr env sz a l acc
 | [],acc,h=>b _ h
 | (k,x)::r,acc,h=>zH (λv h=>gp (Cs b r _) h) h
theorem H3 {x:PV} {h:List ao} {sz:Nat} {K b:Nat->(Nat->List PV)->Prop} (a:∀n g,K n g->b n g) (hp:QL x h sz K):QL x h sz b:=by
 cases x with
 | bR=>exact a _ _ hp
 | im c m g=>exact gp (a _ _) hp
 | own id gen off m=>
  simp only[QL]at hp ⊢;generalize eM h id=q at hp ⊢;cases q with
  | row g c n e f=>exact⟨hp.1,hp.2.1,gp (a _ _) hp.2.2⟩
  | dead=>exact hp
 | str s=>exact gp (a _ _) hp
 | _=>exact hp
theorem Kj {e sz bytes:Nat} {s x:PV} {h:List ao} {K d:PV->List ao->Prop} (i:∀v h',K v h'->d v h') (hp:xS e sz bytes s x h K):xS e sz bytes s x h d:=by
 cases s with
 | bR=>
  simp only[xS]at hp ⊢;exact H3 (λm g ⟨h,a,b,c,e2,h2⟩=>⟨h,a,b,c,e2,i _ _ h2⟩) hp
 | own id gen off len=>
  simp only[xS]at hp ⊢;generalize eM h id=q at hp ⊢;cases q with
  | row g j n e' f=>exact⟨hp.1,gp (H3 (λm g ⟨h,a,b,c,e2,h2⟩=>⟨h,a,b,c,e2,i _ _ h2⟩)) hp.2⟩
  | dead=>exact hp
 | _=>exact hp
theorem Ro {e sz bytes:Nat} {s x:PV} {h:List ao} {K a:PV->List ao->Prop} (b:∀v h',K v h'->a v h') (hp:Na e sz bytes s x h K):Na e sz bytes s x h a:=by
 unfold Na at hp ⊢;split at hp
 ·split at hp
  ·exact⟨hp.1,gp (λq=>⟨q.1,b _ _ q.2⟩) hp.2⟩
  ·exact hp
 ·split at hp
  ·split at hp
   ·exact⟨hp.1,hp.2.1,gp (λq=>⟨q.1,b _ _ q.2⟩) hp.2.2⟩
   ·exact hp
  ·exact hp
 ·exact aUd
theorem Ra.mono {e sz bytes:Nat} {s x:PV} {h:List ao} {K a:PV->List ao->Prop} (b:∀v h',K v h'->a v h') (hp:Ra e sz bytes s x h K):Ra e sz bytes s x h a:=by
 cases hp with
 | gx hp=>exact .gx (Kj b hp)
 | move hp=>exact .move (Ro b hp)
theorem um {T:ru} {op:Op} {env:Env} {h:List ao} {K a:PV->Prop} (b:∀v,K v->a v) (hp:dO T op env h K):dO T op env h a:=
 let⟨v,h1,h2⟩:=Nl T op env h K hp
 h2 a (b v h1)
theorem adC {P:Program} {T:ru} {env:Env} {h:List ao} {K w:PV->List ao->Prop} (j:∀v h',K v h'->w v h') (op:Op) (hp:pop P T op env h K):pop P T op env h w:=by
 cases op with
 | store t a x=>
  simp only[pop]at hp ⊢;generalize ev env a=v at hp ⊢;cases v with
  | aI id gen i off=>
   simp only at hp ⊢;generalize eM h id=q at hp ⊢;cases q with
   | row g sz n e f=>exact⟨hp.1,zH (λv h=>gp (λ⟨c,o,p,e2,h2⟩=>⟨c,o,p,e2,j _ _ h2⟩) h) hp.2⟩
   | dead=>exact hp
  | _=>exact hp
 | box t x=>
  simp only[pop]at hp ⊢;exact zH (λv h=>gp (j _ _) h) hp
 | alloc t=>
  simp only[pop]at hp ⊢;generalize ED (T.get t)=q at hp ⊢;cases q<;>first | exact hp | exact j _ _ hp
 | makeSlice t l c=>
  simp only[pop]at hp ⊢;generalize T.get t=q at hp ⊢;generalize ev env l=u at hp ⊢;generalize ev env c=v at hp ⊢;cases q with
  | slice e sz b z=>cases u with
   | int k n=>cases v with
    | int D m=>(obtain⟨h,B,o,p,e2,h2⟩:=hp;exact⟨h,B,o,p,e2,j _ _ h2⟩)
    | _=>exact hp
   | _=>cases v<;>exact hp
  | _=>cases u<;>cases v<;>exact hp
 | buildSlice t len parts=>
  simp only[pop]at hp ⊢;generalize T.get t=q at hp ⊢;cases q with
  | slice e sz b z=>exact gp (Cs (λ_ ⟨o,p,h2⟩=>⟨o,p,j _ _ h2⟩) _ _) hp
  | _=>exact hp
 | convert s d x=>
  simp only[pop]at hp ⊢;split at hp
  ·split at hp
   ·exact let⟨o,p,h2⟩:=hp;⟨o,p,j _ _ h2⟩
   ·exact hp
  ·exact um (λv=>j v h) hp
 | binOp E t x y ty=>
  simp only[pop]at hp ⊢;split at hp
  ·exact⟨λh0=>j _ _ (hp.1 h0),j _ _ hp.2⟩
  ·exact um (λv=>j v h) hp
 | call c=>
  obtain⟨callee,args,ts⟩:=c;cases callee with
  | value C=>
   simp only[pop]at hp ⊢;generalize ev env C=v at hp ⊢;cases v with
   | fn f=>exact gp (λ⟨R,h1,h2⟩=>⟨R,h1,λres h' r=>j _ _ (h2 res h' r)⟩) hp
   | qz f dB=>exact gp (λ⟨R,h1,h2⟩=>⟨R,h1,λres h' r=>j _ _ (h2 res h' r)⟩) hp
   | _=>exact hp
  | builtin b=>
   cases b with
   | append=>
    simp only[pop]at hp ⊢;split at hp
    ·rename_i s x t tx F G;generalize T.get t=q at hp ⊢;generalize T.get tx=A at hp ⊢;cases q with
     | slice e sz b z=>cases A<;>first | exact hp | exact Ra.mono j hp
     | _=>cases A<;>exact hp
    ·exact hp
   | len=>(simp only[pop]at hp ⊢;exact um (λv=>j v h) hp)
   | _=>exact hp
  | _=>exact hp
 | _=>(simp only[pop]at hp ⊢;exact um (λv=>j v h) hp)
theorem adD {env env':Env} {args:Array Operand} (hs:∀x,x∈args.toList->ev env x=ev env' x):args.toList.map (ev env)=args.toList.map (ev env'):=
 List.map_congr_left hs
theorem ahd {env env':Env} {l:List Operand} (hs:∀x,x∈l->ev env x=ev env' x):l.all (λx=>oc (ev env x))=l.all (λx=>oc (ev env' x)):=by
 induction l with
 | nil=>rfl
 | cons a r b=>simp only[aRn,hs a aUG,b (λx hx=>hs x (aRG _ hx))]
theorem ahe {P:Program} {T:ru} {env env':Env} {h:List ao} {K:PV->List ao->Prop} (op:Op) (hs:Rk env env' op):pop P T op env h K=pop P T op env' h K:=by
 cases op with
 | store t a x=>simp only[pop,hs a aUN,hs x aUN]
 | box t x=>simp only[pop,hs x aUN]
 | alloc t=>rfl
 | makeSlice t l c=>simp only[pop,hs l aUN,hs c aUN]
 | buildSlice t len parts=>
  have e:∀sz (K:List (List PV)->Prop) z,tr env sz K parts.toList z=tr env' sz K parts.toList z:=λsz K z=>Fv _ _ (λp hp=>hs p.2 aVz);simp only[pop,e]
 | convert s d x=>simp only[pop,dO,hs x aUN]
 | binOp j t x y ty=>simp only[pop,dO,hs x aUN,hs y aUN]
 | call c=>
  obtain⟨callee,args,ts⟩:=c;cases callee with
  | value i=>
   have e0:=hs i (by simp [Op.operands,Call.operands]);have f:∀x,x∈args.toList->ev env x=ev env' x:=λx hx=>hs x (by simp [Op.operands,Call.operands];right;simpa using hx);simp only[pop,e0,adD f,ahd f]
  | builtin b=>
   have f:∀x,x∈args.toList->ev env x=ev env' x:=λx hx=>hs x (by simp [Op.operands,Call.operands];simpa using hx);cases b with
   | append=>
    simp only[pop];split
    ·rename_i s x t tx g k;rw[f s (by rw[g];simp),f x (by rw[g];simp)]
    ·rfl
   | len=>(simp only[pop];exact AM _ hs)
   | _=>rfl
  | _=>rfl
 | _=>(simp only[pop];exact AM _ hs)
section
variable {P:Program}{T:ru}
def fs (P:Program) (T:ru) (all:List Oper) (st:Bool) (o:Oper) (G:PV->List ao->Prop) (env:Env) (h:List ao):Prop:=
 match o.guard with
 | none=>GL P T st o.op env h G
 | some (j,want)=>match(all[j]?).bind (·.dst)with
  | some t=>match env t with
   | .bool b=>match b==want with
    | true=>GL P T st o.op env h G
    | false=>G (.gJ []) h
   | .gJ []=>G (.gJ []) h
   | _=>False
  | none=>False
theorem Dj {env:Env} {t:Nat} {v:PV} (h:env t=v):se env t v=env:=by
 funext j;unfold se;cases a:Nat.beq j t with
 | true=>rw[amb a,<-h];rfl
 | false=>rfl
theorem H4 {st:Bool} {op:Op} {env:Env} {h:List ao} {G a:PV->List ao->Prop} (b:∀v h',G v h'->a v h') (hp:GL P T st op env h G):GL P T st op env h a:=by
 cases st with
 | true=>exact um (λv=>b v h) hp
 | false=>exact adC b _ hp
theorem jJ {all:List Oper} {st:Bool} {o:Oper} {env:Env} {h:List ao} {G f:PV->List ao->Prop} (e:∀v h',G v h'->f v h') (hp:fs P T all st o G env h):fs P T all st o f env h:=by
 unfold fs at hp ⊢;generalize o.guard=g at hp ⊢;cases g with
 | none=>exact H4 e hp
 | some q=>
  obtain⟨j,want⟩:=q;simp only at hp ⊢;generalize(all[j]?).bind (·.dst)=d at hp ⊢;cases d with
  | none=>exact hp
  | some t=>
   simp only at hp ⊢;generalize env t=v at hp ⊢;cases v with
   | bool b=>
    simp only at hp ⊢;generalize(b==want)=c at hp ⊢;cases c with
    | true=>exact H4 e hp
    | false=>exact e _ _ hp
   | gJ l=>cases l with
    | nil=>exact e _ _ hp
    | cons a r=>exact hp
   | _=>exact hp
theorem sW {all:List Oper} {st:Bool} {o:Oper} {F:Env->PV->List ao->Prop} {env:Env} {h:List ao} (hp:yO P T all st o F env h):fs P T all st o (F env) env h:=by
 unfold yO at hp;unfold fs;generalize o.guard=g at hp ⊢;cases g with
 | none=>exact hp
 | some q=>
  obtain⟨j,want⟩:=q;simp only at hp ⊢;generalize(all[j]?).bind (·.dst)=d at hp ⊢;cases d with
  | none=>exact hp
  | some t=>
   simp only at hp ⊢;generalize hv:env t=v at hp ⊢;cases v with
   | bool b=>
    simp only at hp ⊢;obtain⟨h1,h2⟩:=lX hp;cases b with
    | true=>
     have h1:=h1 rfl;rw[Dj hv]at h1;cases want<;>exact h1
    | false=>
     have h2:=h2 rfl;rw[Dj hv]at h2;cases want<;>exact h2
   | gJ l=>cases l with
    | nil=>exact hp
    | cons a r=>exact hp
   | _=>exact hp
theorem AO {env env':Env} {o:Oper} {ops:Array Oper} (a:∀t,t∈o.looksAt ops->env t=env' t):Rk env env' o.op:=λx hx=>by
 cases x with
 | tmp t=>exact a t (by unfold Oper.looksAt;rw[aRp];left;rw[List.mem_filterMap];exact⟨_,hx,rfl⟩)
 | _=>rfl
theorem vo {env env':Env} {o:Oper} {ops:Array Oper} (b:∀t,t∈o.looksAt ops->env t=env' t) {j:Nat} {w:Bool} (hg:o.guard=some (j,w)) {t:Nat} (a:(ops.toList[j]?).bind (·.dst)=some t):env t=env' t:=
 b t (by
  unfold Oper.looksAt;rw[aRp,hg];right;have:ops.toList[j]? =ops[j]?:=by simp
  rw[this]at a;show t∈((ops[j]?).bind (·.dst)).toList;rw[a];simp)
theorem adE {ops:Array Oper} {st:Bool} {o:Oper} {G:PV->List ao->Prop} {env env':Env} {h:List ao} (a:∀t,t∈o.looksAt ops->env t=env' t) (hp:fs P T ops.toList st o G env h):fs P T ops.toList st o G env' h:=by
 have b:GL P T st o.op env h G=GL P T st o.op env' h G:=by
  cases st with
  | true=>exact AM _ (AO a)
  | false=>exact ahe _ (AO a)
 unfold fs at hp ⊢;cases hg:o.guard with
 | none=>rw[hg]at hp;simp only at hp ⊢;rw[<-b];exact hp
 | some q=>
  obtain⟨j,want⟩:=q;rw[hg]at hp;simp only at hp ⊢;cases hd:(ops.toList[j]?).bind (·.dst)with
  | none=>rw[hd]at hp;exact hp
  | some t=>
   rw[hd]at hp;simp only at hp ⊢;rw[<-vo a hg hd,<-b];exact hp
theorem AP {α β:Type} {f g:α->List β}:∀(l:List α),(∀x,x∈l->f x=g x)->l.flatMap f=l.flatMap g
 | [],_=>rfl
 | a::r,h=>by rw[aSm,aSm,h a aUG,AP r (λx hx=>h x (aRG _ hx))]
theorem FA (env:Env) (op:Op):(∃x,op=.move x)\/oI env op=op.operands.toList.flatMap (λx=>xJ (ev env x)):=by
 cases op<;>first | exact .inl ⟨_,rfl⟩ | exact .inr rfl
theorem Rp {T:ru} {env:Env} {h h':List ao} {K:PV->Prop} {op:Op} (hi:∀id,id∈oI env op->eM h id=eM h' id):dO T op env h K=dO T op env h' K:=by
 rcases FA env op with⟨x,rfl⟩ | e
 ·rfl
 ·exact Vn op (λx hx id hid=>hi id (by rw[e,List.mem_flatMap];exact⟨x,hx,hid⟩))
theorem FB {env env':Env} {op:Op} (hs:∀x,x∈op.operands.toList->ev env x=ev env' x):oI env' op=oI env op:=by
 rcases FA env op with⟨x,rfl⟩ | e
 ·rfl
 ·rcases FA env' op with⟨x,rfl⟩ | e'
  ·rfl
  ·rw[e,e'];exact AP _ (λx hx=>by rw[hs x hx])
theorem Kk {ops:Array Oper} {o:Oper} {G:PV->List ao->Prop} {env:Env} {h:List ao} (hp:fs P T ops.toList true o G env h):
  ∃v,G v h/\∀(env':Env) (h':List ao) (c:PV->List ao->Prop),(∀t,t∈o.looksAt ops->env t=env' t)->(∀id,id∈oI env o.op->eM h id=eM h' id)->c v h'->fs P T ops.toList true o c env' h':=by
 have run:dO T o.op env h (λv=>G v h)->∃v,G v h/\∀(env':Env) (h':List ao) (c:PV->List ao->Prop),(∀t,t∈o.looksAt ops->env t=env' t)->(∀id,id∈oI env o.op->eM h id=eM h' id)->c v h'->dO T o.op env' h' (λv=>c v h'):=λhs=>by
  obtain⟨v,h1,h2⟩:=Nl T o.op env h _ hs;refine⟨v,h1,λenv' h' c d hi hg=>?_⟩;rw[<-AM o.op (AO d),<-Rp (op:=o.op) hi];exact h2 _ hg
 unfold fs at hp;cases hg:o.guard with
 | none=>
  rw[hg]at hp;obtain⟨v,h1,h2⟩:=run hp;refine⟨v,h1,λenv' h' c d hi e=>?_⟩;unfold fs;rw[hg];exact h2 env' h' c d hi e
 | some q=>
  obtain⟨j,want⟩:=q;rw[hg]at hp;simp only at hp;cases hd:(ops.toList[j]?).bind (·.dst)with
  | none=>rw[hd]at hp;exact hp.elim
  | some t=>
   rw[hd]at hp;simp only at hp;cases hv:env t with
   | bool b=>
    rw[hv]at hp;simp only at hp;cases hc:(b==want)with
    | true=>
     rw[hc]at hp;obtain⟨v,h1,h2⟩:=run hp;refine⟨v,h1,λenv' h' c d hi e=>?_⟩;unfold fs;rw[hg];simp only;rw[hd];simp only;rw[<-vo d hg hd,hv];simp only;rw[hc];exact h2 env' h' c d hi e
    | false=>
     rw[hc]at hp;refine⟨_,hp,λenv' h' c d hi e=>?_⟩;unfold fs;rw[hg];simp only;rw[hd];simp only;rw[<-vo d hg hd,hv];simp only;rw[hc];exact e
   | gJ l=>
    rw[hv]at hp;cases l with
    | nil=>
     refine⟨_,hp,λenv' h' c d hi e=>?_⟩;unfold fs;rw[hg];simp only;rw[hd];simp only;rw[<-vo d hg hd,hv];exact e
    | cons a r=>exact hp.elim
   | _=>rw[hv]at hp;exact hp.elim
def Rd (P:Program) (T:ru) (all:List Oper) (t:List (Nat×List Nat)) (K:Env->List ao->Prop):List (Nat×Bool)->List (Nat×List Nat)->Env->List ao->Prop
 | [],_,env,h=>K env h
 | (i,st)::r,a,env,h=>∃o,all[i]? =some o/\fs P T all st o (λv h'=>match st with
   | true=>Rd P T all t K r ((i,oI env o.op)::a) (fZ env o.dst v) h'
   | false=>(∀j ids,(j,ids)∈a->qA (ia t i) j=false->∀id,id∈ids->eM h id=eM h' id)/\Rd P T all t K r a (fZ env o.dst v) h') env h
theorem AQ {h h':List ao} {K:Prop}:∀(ids:List Nat),Ki h h' K ids->(∀id,id∈ids->eM h id=eM h' id)/\K
 | [],b=>⟨λid hid=>by simp at hid,b⟩
 | a::r,b=>by
  obtain⟨h1,h2⟩:=AQ r b.2;refine⟨λid hid=>?_,h2⟩;simp only[aRo]at hid;rcases hid with rfl | hid
  ·exact b.1
  ·exact h1 id hid
theorem qM {b:List Nat} {h h':List ao} {K:Prop}:∀(f:List (Nat×List Nat)),sU b h h' K f->(∀j ids,(j,ids)∈f->qA b j=false->∀id,id∈ids->eM h id=eM h' id)/\K
 | [],c=>⟨λj ids hj=>by simp at hj,c⟩
 | (a,l)::r,c=>by
  unfold sU at c;cases e:qA b a with
  | true=>
   rw[e]at c;obtain⟨h1,h2⟩:=qM r c;refine⟨λj ids hj d=>?_,h2⟩;simp only[aRo]at hj;rcases hj with hj | hj
   ·injection hj with g e2;subst g;rw[e]at d;cases d
   ·exact h1 j ids hj d
  | false=>
   rw[e]at c;obtain⟨q1,i⟩:=AQ l c;obtain⟨h1,h2⟩:=qM r i;refine⟨λj ids hj d=>?_,h2⟩;simp only[aRo]at hj;rcases hj with hj | hj
   ·injection hj with g e2;subst e2;exact q1
   ·exact h1 j ids hj d
theorem ui {all:List Oper} {t:List (Nat×List Nat)} {K:Env->List ao->Prop}:∀(l:List (Nat×Bool)) (a:List (Nat×List Nat)) (env:Env) (h:List ao),fw P T all t K l a env h->Rd P T all t K l a env h
 | [],_,_,_,hp=>hp
 | (i,true)::r,a,env,h,hp=>by
  have hp:(match all[i]? with
   | some o=>yO P T all true o (λenv' v h'=>fw P T all t K r ((i,oI env' o.op)::a) (fZ env' o.dst v) h') env h
   | none=>False):=hp
  cases ho:all[i]? with
  | none=>rw[ho]at hp;exact hp.elim
  | some o=>
   rw[ho]at hp;exact⟨o,ho,jJ (λv h' b=>ui r _ _ _ b) (sW hp)⟩
 | (i,false)::r,a,env,h,hp=>by
  have hp:(match all[i]? with
   | some o=>yO P T all false o (λenv' v h'=>sU (ia t i) h h' (fw P T all t K r a (fZ env' o.dst v) h') a) env h
   | none=>False):=hp
  cases ho:all[i]? with
  | none=>rw[ho]at hp;exact hp.elim
  | some o=>
   rw[ho]at hp;refine⟨o,ho,jJ (λv h' b=>?_) (sW hp)⟩;obtain⟨h1,h2⟩:=qM _ b;exact⟨h1,ui r _ _ _ h2⟩
theorem AR {all:List Oper} {t:List (Nat×List Nat)} {K:Env->List ao->Prop}:∀(l:List (Nat×Bool)) (a b:List (Nat×List Nat)) (env:Env) (h:List ao),(∀x,x∈b->x∈a)->Rd P T all t K l a env h->Rd P T all t K l b env h
 | [],_,_,_,_,_,hp=>hp
 | (i,st)::r,a,b,env,h,hs,hp=>by
  obtain⟨o,ho,hp⟩:=hp;refine⟨o,ho,jJ (λv h' c=>?_) hp⟩;cases st with
  | true=>exact AR r _ _ _ _ (λx hx=>by simp only[aRo]at hx ⊢;exact hx.imp id (hs x)) c
  | false=>exact⟨λj ids hj=>c.1 j ids (hs _ hj),AR r _ _ _ _ hs c.2⟩
theorem H5 {env:Env} {d e:Option Nat} {u v:PV} (b:∀x,d=some x->e≠some x):fZ (fZ env d u) e v=fZ (fZ env e v) d u:=by
 cases d with
 | none=>rfl
 | some x=>
  cases e with
  | none=>rfl
  | some y=>
   have a:x≠y:=λhe=>b x rfl (by rw[he]);funext j;simp only[fZ,se];cases h1:Nat.beq j y with
   | true=>
    have:=amb h1;subst this;cases h2:Nat.beq j x with
    | true=>exact absurd (amb h2).symm a
    | false=>rfl
   | false=>cases h2:Nat.beq j x<;>rfl
theorem xZ {env:Env} {d:Option Nat} {v:PV} {l:List Nat} (a:∀x,d=some x->x∉l):∀t,t∈l->env t=fZ env d v t:=λt b=>by
 cases d with
 | none=>rfl
 | some x=>
  have:t≠x:=λhe=>a x rfl (he▸b);simp only[fZ,se];cases h2:Nat.beq t x with
  | true=>exact absurd (amb h2) this
  | false=>rfl
theorem Nh {ops:Array Oper} {t:List (Nat×List Nat)} {K:Env->List ao->Prop} {i:Nat} {st:Bool} {b:Oper} (k:ops.toList[i]? =some b):
  ∀(e l2:List (Nat×Bool)) (f:List (Nat×List Nat)) (env:Env) (h:List ao),(∀p,p∈e->p.2=true/\qA (ia t i) p.1=false/\xW ops p.1 i=true)->Rd P T ops.toList t K (e++(i,st)::l2) f env h->
   fs P T ops.toList st b (λv h'=>(st=true->h'=h)/\(st=false->∀j ids,(j,ids)∈f->qA (ia t i) j=false->∀id,id∈ids->eM h id=eM h' id)/\Rd P T ops.toList t K (e++l2) f (fZ env b.dst v) h') env h
 | [],l2,f,env,h,_,hp=>by
  obtain⟨o,ho,hp⟩:=hp;rw[k]at ho;injection ho with ho;subst ho;cases st with
  | true=>
   obtain⟨v,h1,h2⟩:=Kk hp;exact h2 env h _ (λ_ _=>rfl) (λ_ _=>rfl) ⟨λ_=>rfl,λhc=>Bool.noConfusion hc,AR _ _ _ _ _ (λx hx=>aRG _ hx) h1⟩
  | false=>exact jJ (λv h' c=>⟨λhc=>Bool.noConfusion hc,λ_=>c.1,c.2⟩) hp
 | (a,w)::e,l2,f,env,h,r,hp=>by
  obtain⟨h1,h2,g⟩:=r (a,w) aUG;simp only at h1 h2 g;subst h1;obtain⟨o,ho,hp⟩:=hp
  have l:Oper.apart ops o b=true:=by
   unfold xW at g;have y:ops[a]? =some o:=by simpa using ho
   have e2:ops[i]? =some b:=by simpa using k
   rw[y,e2]at g;exact g
  obtain⟨z,A,B⟩:=Oper.apart_spec l;obtain⟨u,k1,k2⟩:=Kk hp;have C:=Nh k e l2 _ _ h (λp hp=>r p (aRG _ hp)) k1;have m:=adE (env':=env) (λx hx=>(xZ (λd hd=>z d hd) x hx).symm) C;refine jJ (λv h' c=>⟨c.1,λhc j ids hj=>c.2.1 hc j ids (aRG _ hj),?_⟩) m
  have n:∀id,id∈oI env o.op->eM h id=eM h' id:=λid hid=>by
   cases st with
   | true=>rw[c.1 rfl]
   | false=>exact c.2.1 rfl a _ aUG h2 id hid
  have s:∀x,x∈o.looksAt ops->env x=fZ env b.dst v x:=xZ (λd hd=>B d hd);refine⟨o,ho,k2 _ h' _ s n ?_⟩
  have q:oI (fZ env b.dst v) o.op=oI env o.op:=by
   exact FB (AO s)
  simp only;rw[q,H5 (λx hx=>(λhe=>A x he hx):∀x,b.dst=some x->o.dst≠some x)];exact c.2.2
def nD (P:Program) (T:ru) (all:List Oper) (t:List (Nat×List Nat)) (E:List (Nat×List Nat)->Env->List ao->Prop):List (Nat×Bool)->List (Nat×List Nat)->Env->List ao->Prop
 | [],a,env,h=>E a env h
 | (i,st)::r,a,env,h=>∃o,all[i]? =some o/\fs P T all st o (λv h'=>match st with
   | true=>nD P T all t E r ((i,oI env o.op)::a) (fZ env o.dst v) h'
   | false=>(∀j ids,(j,ids)∈a->qA (ia t i) j=false->∀id,id∈ids->eM h id=eM h' id)/\nD P T all t E r a (fZ env o.dst v) h') env h
def vI (E:List (Nat×List Nat)->Env->List ao->Prop):Prop:=∀(a b:List (Nat×List Nat)) (env:Env) (h:List ao),(∀x,x∈b->x∈a)->E a env h->E b env h
theorem x7 {all:List Oper} {t:List (Nat×List Nat)} {E:List (Nat×List Nat)->Env->List ao->Prop} (c:vI E):∀(l:List (Nat×Bool)) (a b:List (Nat×List Nat)) (env:Env) (h:List ao),(∀x,x∈b->x∈a)->nD P T all t E l a env h->nD P T all t E l b env h
 | [],a,b,_,_,hs,hp=>c a b _ _ hs hp
 | (i,st)::r,a,b,env,h,hs,hp=>by
  obtain⟨o,ho,hp⟩:=hp;refine⟨o,ho,jJ (λv h' d=>?_) hp⟩;cases st with
  | true=>exact x7 c r _ _ _ _ (λx hx=>by simp only[aRo]at hx ⊢;exact hx.imp id (hs x)) d
  | false=>exact⟨λj ids hj=>d.1 j ids (hs _ hj),x7 c r _ _ _ _ hs d.2⟩
theorem xX {ops:Array Oper} {t:List (Nat×List Nat)} {E:List (Nat×List Nat)->Env->List ao->Prop} (r:vI E) {i:Nat} {st:Bool} {b:Oper} (k:ops.toList[i]? =some b):
  ∀(e l2:List (Nat×Bool)) (f:List (Nat×List Nat)) (env:Env) (h:List ao),(∀p,p∈e->p.2=true/\qA (ia t i) p.1=false/\xW ops p.1 i=true)->nD P T ops.toList t E (e++(i,st)::l2) f env h->
   fs P T ops.toList st b (λv h'=>(st=true->h'=h)/\(st=false->∀j ids,(j,ids)∈f->qA (ia t i) j=false->∀id,id∈ids->eM h id=eM h' id)/\nD P T ops.toList t E (e++l2) f (fZ env b.dst v) h') env h
 | [],l2,f,env,h,_,hp=>by
  obtain⟨o,ho,hp⟩:=hp;rw[k]at ho;injection ho with ho;subst ho;cases st with
  | true=>
   obtain⟨v,h1,h2⟩:=Kk hp;exact h2 env h _ (λ_ _=>rfl) (λ_ _=>rfl) ⟨λ_=>rfl,λhc=>Bool.noConfusion hc,x7 r _ _ _ _ _ (λx hx=>aRG _ hx) h1⟩
  | false=>exact jJ (λv h' c=>⟨λhc=>Bool.noConfusion hc,λ_=>c.1,c.2⟩) hp
 | (a,y)::e,l2,f,env,h,s,hp=>by
  obtain⟨h1,h2,g⟩:=s (a,y) aUG;simp only at h1 h2 g;subst h1;obtain⟨o,ho,hp⟩:=hp
  have l:Oper.apart ops o b=true:=by
   unfold xW at g;have z:ops[a]? =some o:=by simpa using ho
   have e2:ops[i]? =some b:=by simpa using k
   rw[z,e2]at g;exact g
  obtain⟨A,B,C⟩:=Oper.apart_spec l;obtain⟨u,k1,k2⟩:=Kk hp;have D:=xX r k e l2 _ _ h (λp hp=>s p (aRG _ hp)) k1;have m:=adE (env':=env) (λx hx=>(xZ (λd hd=>A d hd) x hx).symm) D;refine jJ (λv h' c=>⟨c.1,λhc j ids hj=>c.2.1 hc j ids (aRG _ hj),?_⟩) m
  have n:∀id,id∈oI env o.op->eM h id=eM h' id:=λid hid=>by
   cases st with
   | true=>rw[c.1 rfl]
   | false=>exact c.2.1 rfl a _ aUG h2 id hid
  have w:∀x,x∈o.looksAt ops->env x=fZ env b.dst v x:=xZ (λd hd=>C d hd);refine⟨o,ho,k2 _ h' _ w n ?_⟩
  have q:oI (fZ env b.dst v) o.op=oI env o.op:=by
   exact FB (AO w)
  simp only;rw[q,H5 (λx hx=>(λhe=>B x he hx):∀x,b.dst=some x->o.dst≠some x)];exact c.2.2
theorem xF {all:List Oper} {t:List (Nat×List Nat)} {E:List (Nat×List Nat)->Env->List ao->Prop} {c:List (Nat×Bool)}:∀(l:List (Nat×Bool)) (a:List (Nat×List Nat)) (env:Env) (h:List ao),nD P T all t (λa env h=>nD P T all t E c a env h) l a env h->nD P T all t E (l++c) a env h
 | [],_,_,_,hp=>hp
 | (i,st)::r,a,env,h,hp=>by
  obtain⟨o,ho,hp⟩:=hp;refine⟨o,ho,jJ (λv h' b=>?_) hp⟩;cases st with
  | true=>exact xF r _ _ _ b
  | false=>exact⟨b.1,xF r _ _ _ b.2⟩
theorem AK {all:List Oper} {t:List (Nat×List Nat)} {E c:List (Nat×List Nat)->Env->List ao->Prop} (hi:∀a env h,E a env h->c a env h):∀(l:List (Nat×Bool)) (a:List (Nat×List Nat)) (env:Env) (h:List ao),nD P T all t E l a env h->nD P T all t c l a env h
 | [],_,_,_,hp=>hi _ _ _ hp
 | (i,st)::r,a,env,h,hp=>by
  obtain⟨o,ho,hp⟩:=hp;refine⟨o,ho,jJ (λv h' b=>?_) hp⟩;cases st with
  | true=>exact AK hi r _ _ _ b
  | false=>exact⟨b.1,AK hi r _ _ _ b.2⟩
theorem xE {all:List Oper} {t:List (Nat×List Nat)} {K:Env->List ao->Prop} {c:List (Nat×Bool)}:∀(l:List (Nat×Bool)) (a:List (Nat×List Nat)) (env:Env) (h:List ao),nD P T all t (λa env h=>Rd P T all t K c a env h) l a env h->Rd P T all t K (l++c) a env h
 | [],_,_,_,hp=>hp
 | (i,st)::r,a,env,h,hp=>by
  obtain⟨o,ho,hp⟩:=hp;refine⟨o,ho,jJ (λv h' b=>?_) hp⟩;cases st with
  | true=>exact xE r _ _ _ b
  | false=>exact⟨b.1,xE r _ _ _ b.2⟩
theorem sT {all:List Oper} {t:List (Nat×List Nat)} {E c:List (Nat×List Nat)->Env->List ao->Prop} (hi:∀a env h,E a env h->c a env h):∀(l:List (Nat×Bool)) (a:List (Nat×List Nat)) (env:Env) (h:List ao),fwE P T all t E l a env h->nD P T all t c l a env h
 | [],_,_,_,hp=>hi _ _ _ hp
 | (i,true)::r,a,env,h,hp=>by
  have hp:(match all[i]? with
   | some o=>yO P T all true o (λenv' v h'=>fwE P T all t E r ((i,oI env' o.op)::a) (fZ env' o.dst v) h') env h
   | none=>False):=hp
  cases ho:all[i]? with
  | none=>rw[ho]at hp;exact hp.elim
  | some o=>
   rw[ho]at hp;exact⟨o,ho,jJ (λv h' b=>sT hi r _ _ _ b) (sW hp)⟩
 | (i,false)::r,a,env,h,hp=>by
  have hp:(match all[i]? with
   | some o=>yO P T all false o (λenv' v h'=>sU (ia t i) h h' (fwE P T all t E r a (fZ env' o.dst v) h') a) env h
   | none=>False):=hp
  cases ho:all[i]? with
  | none=>rw[ho]at hp;exact hp.elim
  | some o=>
   rw[ho]at hp;refine⟨o,ho,jJ (λv h' b=>?_) (sW hp)⟩;obtain⟨h1,h2⟩:=qM _ b;exact⟨h1,sT hi r _ _ _ h2⟩
theorem BT {all:List Oper} {t:List (Nat×List Nat)} {K:Env->List ao->Prop} (l:List (Nat×Bool)):vI (λa env h=>Rd P T all t K l a env h):=λa b env h hs hp=>AR l a b env h hs hp
theorem rN {all:List Oper} {t:List (Nat×List Nat)} {E:List (Nat×List Nat)->Env->List ao->Prop} (b:vI E) (l:List (Nat×Bool)):vI (λa env h=>nD P T all t E l a env h):=λa c env h hs hp=>x7 b l a c env h hs hp
theorem HQ {E b:List (Nat×List Nat)->Env->List ao->Prop} (h1:vI E) (h2:vI b):vI (λa env h=>E a env h/\b a env h):=λa c env h hs hp=>⟨h1 a c env h hs hp.1,h2 a c env h hs hp.2⟩
end
theorem bh.mono {S S':Nat->Prop} {w w':World} (hw:∀b,S b->w'.heap[b]? =w.heap[b]?) (l:∀b,S b->S' b) {pv:PV} {v:Value} (h:bh S w pv v):bh S' w' pv v:=by
 induction h with
 | int k n=>exact .int k n
 | bool b=>exact .bool b
 | str s=>exact .str s
 | bR=>exact .bR
 | jk=>exact .jk
 | fn f=>exact .fn f
 | rZ sz f a c=>exact .rZ sz f a c
 | im sz n f b off c d h1 h2 m e _ g=>
  exact .im sz n f b off c d (l b h1) h2 m (λi j pv hi hj=>(World.cell?_of_block (w:=w) (hw b h1)).trans (e i j pv hi hj)) g
 | ic cs b off d h1 e _ g=>
  exact .ic cs b off d (l b h1) (λj pv hj=>(World.cell?_of_block (w:=w) (hw b h1)).trans (e j pv hj)) g
theorem lZ.of_same {w w':World} {b k:Nat} (h:w'.heap[b]? =w.heap[b]?) (hc:lZ w b k):lZ w' b k:=by
 obtain⟨cur,e,z,h1,h2⟩:=hc;exact⟨cur,e,z,h.trans h1,h2⟩
theorem lZ.least {w:World} {b k:Nat} (h:lZ w b k):lZ w b 0:=by
 obtain⟨cur,e,z,h1,h2⟩:=h;exact⟨cur,e,z,h1,aRV _⟩
theorem nh.mono {S S':Nat->Prop} {w w':World} (hw:∀b,S b->w'.heap[b]? =w.heap[b]?) (r:∀b,S b->S' b) {pv:PV} {v:Value} (h:nh S w pv v):
  (∀sz n e f F,pv=.fG sz n e f F->∀b,F b->w'.heap[b]? =w.heap[b]?)->nh S' w' pv v:=by
 induction h with
 | nil sz e f F d=>exactλ_=>.nil sz e f F d
 | FK sz n e f F b off c a cur s d t hlen hc u x y z E k A B=>
  intro g;have g:=g _ _ _ _ _ rfl
  exact .FK sz n e f F b off c a cur s d ((g b d).trans t) hlen hc u x y (λi j pv hi hj=>(z i j pv hi hj).imp_left (λq=>q.mono hw r))
   (λi j l m e' o C hi hj=>B i j l m e' o C hi hj (λ_ _ _ _ _ he p D=>by
    injection he with _ _ _ _ he;subst he;exact g p (k i j l m e' o _ hi hj p D).1)) k A
inductive OG (G:PV->Prop):PV->Prop
 | mk (sz n:Nat) (e:TypeId) (f:Nat->List PV) (F:Nat->Prop) (h1:∀(i j:Nat) (pv:PV),i<n->(f i)[j]? =some pv->eH pv=false->G pv)
   (h2:∀(i j cV n':Nat) (e':TypeId) (f':Nat->List PV) (F':Nat->Prop),i<n->(f i)[j]? =some (.fG cV n' e' f' F')->OG G (.fG cV n' e' f' F')):OG G (.fG sz n e f F)
theorem nh.og {S S':Nat->Prop} {w:World} {G:PV->Prop} (o:∀pv v,G pv->bh S w pv v->bh S' w pv v) {pv:PV} {v:Value} (h:nh S w pv v):OG G pv->nh S' w pv v:=by
 induction h with
 | nil sz e f F d=>exactλ_=>.nil sz e f F d
 | FK sz n e f F b off c a cur p d r hlen hc s t u x B y z A=>
  intro hg;cases hg with
  | mk _ _ _ _ _ h1 h2=>
   exact .FK sz n e f F b off c a cur p d r hlen hc s t u (λi j pv hi hj=>by
    cases hx:eH pv with
    | false=>exact(x i j pv hi hj).imp_left (λq=>o pv _ (h1 i j pv hi hj hx) q)
    | true=>exact .inr (by cases pv<;>first | exact⟨_,_,_,_,_,rfl⟩ | cases hx)) (λi j g k e' l m hi hj=>A i j g k e' l m hi hj (h2 i j g k e' l m hi hj)) y z
theorem nh.all {S:Nat->Prop} {w:World} {pv:PV} {v:Value} (h:nh S w pv v):OG (λ_=>True) pv:=by
 induction h with
 | nil sz e f F d=>exact .mk sz 0 e f F (λ_ _ _ _ _ _=>trivial) (λi j _ _ _ _ _ hi=>absurd hi (aSk _))
 | FK sz n e f F b off c a cur k d l hlen hc m o p q r s t g=>exact .mk sz n e f F (λ_ _ _ _ _ _=>trivial) g
theorem nh.one {S:Nat->Prop} {w:World} {pv:PV} {v:Value} (h:nh S w pv v):v.oneCell'=true:=by cases h<;>rfl
section
variable {μ μ':Mu}{h h':List ao}{S S':Nat->Prop}{w w':World}
theorem db.mu {pv:PV} {v:Value} (hp:bh S w pv v):db μ h S w pv v:=by
 cases hp<;>first | exact .int _ _ | exact .bool _ | exact .str _ | exact .bR | exact .jk | exact .fn _ | exact .rZ _ _ _ _ | (rename_i h1 h2 a b c _;first | exact .im _ _ _ _ _ _ _ ‹_› ‹_› ‹_› ‹_› ‹_›) | exact .ic _ _ _ _ ‹_› ‹_› ‹_›
theorem db.fr (hf:Fr μ h S w μ' h' S' w') (hm:uY μ h S w) {pv:PV} {v:Value} (hc:db μ h S w pv v):db μ' h' S' w' pv v:=by
 have d:∀b,S b->w'.heap[b]? =w.heap[b]?:=λb A=>hf.blocks b (hm.slt b A) (λho=>hm.apart b ho A)
 have B:∀(id gen i off:Nat) (v:Value),c7 μ h w id gen i off v->c7 μ' h' w' id gen i off v:=λid gen i off v hc=>by
  unfold c7 at hc ⊢;obtain⟨l,hc⟩:=hc;refine⟨l,?_⟩;cases ho:h[id]? with
  | none=>rw[ho]at hc;exact hc.elim
  | some o=>
   cases o with
   | dead=>rw[hf.dead id ho];trivial
   | row g sz n e f=>
    rw[ho]at hc;have hg:=hf.EO id g sz n e f ho;cases c:h'[id]? with
    | none=>rw[c]at hg;exact hg
    | some t=>
     cases t with
     | dead=>trivial
     | row q C D e' E=>
      rw[c]at hg;obtain⟨hle,x⟩:=hg;obtain⟨j,hc⟩:=hc;refine⟨aSe j hle,λhe=>?_⟩;have heq:q=g:=by omega
      obtain⟨hμ,rfl,rfl,rfl⟩:=x heq;obtain⟨h1,h2⟩:=hc aUE;refine⟨h1,?_⟩;rw[hμ];obtain⟨b,base,q1,r,y⟩:=h2;exact⟨b,base,q1,⟨hf.dB b _ (.inl ⟨id,g,_,_,_,_,base,ho,q1⟩) r.1,r.2⟩,y⟩
 cases pv with
 | own id gen off len=>
  have hc:bX μ h w id gen off len v:=hc;show bX μ' h' w' id gen off len v;unfold bX at hc ⊢;obtain⟨l,hc⟩:=hc;refine⟨l,?_⟩;cases ho:h[id]? with
  | none=>rw[ho]at hc;exact hc.elim
  | some o=>
   cases o with
   | dead=>rw[hf.dead id ho];trivial
   | row g sz n e f=>
    rw[ho]at hc;have hg:=hf.EO id g sz n e f ho;cases c:h'[id]? with
    | none=>rw[c]at hg;exact hg
    | some t=>
     cases t with
     | dead=>trivial
     | row q C D e' E=>
      rw[c]at hg;obtain⟨hle,x⟩:=hg;obtain⟨j,hc⟩:=hc;refine⟨aSe j hle,λhe=>?_⟩;have heq:q=g:=by omega
      obtain⟨hμ,rfl,rfl,rfl⟩:=x heq;obtain⟨h1,h2⟩:=hc aUE;refine⟨h1,?_⟩;rw[hμ];cases z:μ id with
      | none=>rw[z]at h2;exact h2
      | some p=>
       obtain⟨b,base⟩:=p;rw[z]at h2;obtain⟨a,cap,G,H,I,J⟩:=h2;exact⟨a,cap,G,H,I,hf.dB b _ (.inl ⟨id,g,_,_,_,_,base,ho,z⟩) J⟩
 | aI id gen i off=>exact B _ _ _ _ _ hc
 | qz f dB=>exact wi.mono (show rF μ h w f dB v from hc) (λid g u hu=>B _ _ _ _ _ hu)
 | rB id=>
  have hc:je μ h w id v:=hc;show je μ' h' w' id v;unfold je at hc ⊢;obtain⟨l,hc⟩:=hc;refine⟨l,?_⟩;cases ho:h[id]? with
  | none=>rw[ho]at hc;exact hc.elim
  | some o=>
   cases o with
   | dead=>rw[hf.dead id ho];trivial
   | row g sz n e f=>
    rw[ho]at hc;obtain⟨b,base,q1,r,y⟩:=hc;obtain⟨r1,m⟩:=hf.maps id g sz n e f b base ho q1 r;rcases m with m | ⟨⟨q,C,D,e',E,m⟩,K⟩
    ·rw[m];trivial
    ·rw[m];exact⟨b,base,K,r1,y⟩
 | kB=>exact hc
 | fG sz n e f F=>exact hc
 | agg cs=>exact hc.elim
 | gJ cs=>exact hc.elim
 | int k n=>exact bh.mono d hf.sub hc
 | bool b=>exact bh.mono d hf.sub hc
 | str s=>exact bh.mono d hf.sub hc
 | bR=>exact bh.mono d hf.sub hc
 | jk=>exact bh.mono d hf.sub hc
 | im sz n f=>exact bh.mono d hf.sub hc
 | ic cs=>exact bh.mono d hf.sub hc
 | fn f=>exact bh.mono d hf.sub hc
theorem lE.fr (hf:Fr μ h S w μ' h' S' w') (hm:uY μ h S w) {pv:PV} {v:Value} (hc:lE μ h S w pv v):lE μ' h' S' w' pv v:=by
 cases pv with
 | agg cs=>
  obtain⟨vs,h1,h2,a⟩:=hc;exact⟨vs,h1,h2,λj pv hj=>let⟨u,hu,c⟩:=a j pv hj;⟨u,hu,c.fr hf hm⟩⟩
 | int k n=>exact db.fr (pv:=.int k n) hf hm hc
 | bool b=>exact db.fr (pv:=.bool b) hf hm hc
 | str s=>exact db.fr (pv:=.str s) hf hm hc
 | bR =>exact db.fr (pv:=.bR) hf hm hc
 | jk=>exact db.fr (pv:=.jk) hf hm hc
 | im sz n f=>exact db.fr (pv:=.im sz n f) hf hm hc
 | ic cs=>exact db.fr (pv:=.ic cs) hf hm hc
 | own id gen off len=>exact db.fr (pv:=.own id gen off len) hf hm hc
 | aI id gen i off=>exact db.fr (pv:=.aI id gen i off) hf hm hc
 | rB id=>exact db.fr (pv:=.rB id) hf hm hc
 | qz f dB=>exact db.fr (pv:=.qz f dB) hf hm hc
 | fn f=>exact db.fr (pv:=.fn f) hf hm hc
 | kB=>trivial
 | fG sz n e f F=>exact db.fr (pv:=.fG sz n e f F) hf hm hc
 | gJ cs=>exact(show False from hc).elim
theorem cE.fr (hf:Fr μ h S w μ' h' S' w') (hm:uY μ h S w) {pv:PV} {v:Value} (hc:cE μ h S w pv v):cE μ' h' S' w' pv v:=by
 cases pv with
 | gJ cs=>
  obtain⟨vs,h1,h2,a⟩:=hc;exact⟨vs,h1,h2,λj pv hj=>let⟨u,hu,c⟩:=a j pv hj;⟨u,hu,c.fr hf hm⟩⟩
 | int k n=>exact lE.fr (pv:=.int k n) hf hm hc
 | bool b=>exact lE.fr (pv:=.bool b) hf hm hc
 | str s=>exact lE.fr (pv:=.str s) hf hm hc
 | bR =>exact lE.fr (pv:=.bR) hf hm hc
 | jk=>exact lE.fr (pv:=.jk) hf hm hc
 | im sz n f=>exact lE.fr (pv:=.im sz n f) hf hm hc
 | ic cs=>exact lE.fr (pv:=.ic cs) hf hm hc
 | own id gen off len=>exact lE.fr (pv:=.own id gen off len) hf hm hc
 | aI id gen i off=>exact lE.fr (pv:=.aI id gen i off) hf hm hc
 | rB id=>exact lE.fr (pv:=.rB id) hf hm hc
 | qz f dB=>exact lE.fr (pv:=.qz f dB) hf hm hc
 | fn f=>exact lE.fr (pv:=.fn f) hf hm hc
 | kB=>trivial
 | fG sz n e f F=>exact lE.fr (pv:=.fG sz n e f F) hf hm hc
 | agg cs=>exact lE.fr (pv:=.agg cs) hf hm hc
theorem bh.one {pv:PV} {v:Value} (hp:bh S w pv v):v.oneCell'=true:=by cases hp<;>rfl
theorem db.one {pv:PV} {v:Value} (hc:db μ h S w pv v):v.oneCell'=true:=by
 cases pv with
 | own id gen off len=>
  obtain⟨⟨a,l,c,rfl⟩,_⟩:=(show bX μ h w id gen off len v from hc);rfl
 | aI id gen i off=>
  obtain⟨⟨a,rfl⟩,_⟩:=(show c7 μ h w id gen i off v from hc);rfl
 | rB id=>
  obtain⟨⟨a,rfl⟩,_⟩:=(show je μ h w id v from hc);rfl
 | qz f dB=>
  obtain⟨vs,rfl,_⟩:=(show rF μ h w f dB v from hc);rfl
 | kB=>exact hc
 | fG sz n e f F=>exact hc
 | agg cs=>exact(show False from hc).elim
 | gJ cs=>exact(show False from hc).elim
 | int k n=>exact bh.one (show bh S w _ v from hc)
 | bool b=>exact bh.one (show bh S w _ v from hc)
 | str s=>exact bh.one (show bh S w _ v from hc)
 | bR=>exact bh.one (show bh S w _ v from hc)
 | jk=>exact bh.one (show bh S w _ v from hc)
 | im sz n f=>exact bh.one (show bh S w _ v from hc)
 | ic cs=>exact bh.one (show bh S w _ v from hc)
 | fn f=>exact bh.one (show bh S w _ v from hc)
theorem qn.c {pv:PV} {v:Value} (hc:qn μ h S w pv v):db μ h S w pv v:=by
 cases pv with
 | fG sz n e f F=>exact nh.one (show nh S w (.fG sz n e f F) v from hc)
 | _=>exact hc
theorem db.k {pv:PV} {v:Value} (hc:db μ h S w pv v) (ho:eH pv=false):qn μ h S w pv v:=by
 cases pv with
 | fG sz n e f F=>cases ho
 | _=>exact hc
theorem qn.fr (hf:Fr μ h S w μ' h' S' w') (hm:uY μ h S w) {pv:PV} {v:Value} (d:∀sz n e f F,pv=.fG sz n e f F->∀b,F b->w'.heap[b]? =w.heap[b]?) (hc:qn μ h S w pv v):qn μ' h' S' w' pv v:=by
 cases pv with
 | fG sz n e f F=>exact nh.mono (λb a=>hf.blocks b (hm.slt b a) (λho=>hm.apart b ho a)) hf.sub (show nh S w (.fG sz n e f F) v from hc) d
 | _=>exact(db.fr hf hm (qn.c hc)).k rfl
theorem AL {id i j b:Nat}:¬eR [] id i j b:=λ⟨_,_,_,_,_,_,_,_,_,_,h1,_⟩=>by simp at h1
theorem mv {μ:Mu} {b:Nat}:¬dL μ [] b:=λh=>by
 rcases h with⟨id,g,sz,n,e,f,base,h1,_⟩ | ⟨_,_,_,h1⟩
 ·simp at h1
 ·exact AL h1
theorem Fr.refl:Fr μ h S w μ h S w where
 len:=Of _
 blocks _ _ _:=rfl
 sub _ a:=a
 new _ a:=.inl a
 own _ a:=.inl a
 size:=Of _
 os:=rfl
 tape:=rfl
 output:=rfl
 EO id g sz n e f hh:=by rw[hh];exact⟨Of _,λ_=>⟨rfl,rfl,rfl,rfl⟩⟩
 dead _ hh:=hh
 dB _ _ _ hc:=hc
 maps id g sz n e f b base ho hm a:=⟨a,.inr ⟨⟨g,sz,n,e,f,ho⟩,hm⟩⟩
 yK b id i j hh a:=a
theorem Fr.trans {μ'':Mu} {q:List ao} {u:Nat->Prop} {v:World} (a:Fr μ h S w μ' h' S' w') (b:Fr μ' h' S' w' μ'' q u v):Fr μ h S w μ'' q u v where
 len:=aSe a.len b.len
 blocks k o G:=(b.blocks k (aRx o a.size) (λho=>by
  rcases a.own k ho with h1 | h1
  ·exact G h1
  ·omega)).trans (a.blocks k o G)
 sub k o:=b.sub k (a.sub k o)
 new k o:=by
  rcases b.new k o with h1 | h1 | h1
  ·exact a.new k h1
  ·rcases a.own k h1 with h2 | h2
   ·exact .inr (.inl h2)
   ·exact .inr (.inr h2)
  ·exact .inr (.inr (aSe a.size h1))
 own k o:=by
  rcases b.own k o with h1 | h1
  ·exact a.own k h1
  ·exact .inr (aSe a.size h1)
 size:=aSe a.size b.size
 os:=b.os.trans a.os
 tape:=b.tape.trans a.tape
 output:=b.output.trans a.output
 EO id g sz n e f hh:=by
  have h1:=a.EO id g sz n e f hh;cases d:h'[id]? with
  | none=>rw[d]at h1;exact h1.elim
  | some I=>
   cases I with
   | dead=>rw[b.dead id d];trivial
   | row l r s e' t=>
    rw[d]at h1;have h2:=b.EO id l r s e' t d;cases p:q[id]? with
    | none=>rw[p]at h2;exact h2
    | some B=>
     cases B with
     | dead=>trivial
     | row C H J K L=>
      rw[p]at h2;refine⟨aSe h1.1 h2.1,λhe=>?_⟩;have M:l=g:=by have:=h1.1;have:=h2.1;omega
      have e2:C=l:=by omega
      obtain⟨N,O,P,Q⟩:=h1.2 M;obtain⟨y1,R,T,U⟩:=h2.2 e2;exact⟨y1.trans N,R.trans O,T.trans P,U.trans Q⟩
 dead id hh:=b.dead id (a.dead id hh)
 dB k c ho hc:=by
  have h1:=a.dB k c ho hc;by_cases h2:dL μ' h' k
  ·exact b.dB k c h2 h1
  ·refine lZ.of_same (b.blocks k ?_ h2) h1;obtain⟨cur,e,z,D,_⟩:=h1;exact(aRa.1 D).1
 maps id g sz n e f k base ho hm E:=by
  obtain⟨h1,h2⟩:=a.maps id g sz n e f k base ho hm E;rcases h2 with h2 | ⟨⟨l,r,s,e',t,h2⟩,D⟩
  ·refine⟨?_,.inl (b.dead id h2)⟩;by_cases m:dL μ' h' k
   ·rcases m with⟨j,l,r,s,e',t,F,j1,j2⟩ | ⟨j,x,y,m⟩
    ·exact(b.maps j l r s e' t k F j1 j2 h1).1
    ·exact b.yK k j x y m h1
   ·obtain⟨es,c,A⟩:=h1;exact⟨es,c,(b.blocks k (aRa.1 A).1 m).trans A⟩
  ·exact b.maps id l r s e' t k base h2 D h1
 yK k id i j hh E:=by
  have h1:=a.yK k id i j hh E;by_cases m:dL μ' h' k
  ·rcases m with⟨j,l,r,s,e',t,F,j1,j2⟩ | ⟨j,x,y,m⟩
   ·exact(b.maps j l r s e' t k F j1 j2 h1).1
   ·exact b.yK k j x y m h1
  ·obtain⟨es,c,A⟩:=h1;exact⟨es,c,(b.blocks k (aRa.1 A).1 m).trans A⟩
structure dt (w w':World):Prop where
 blocks:∀b,b<w.heap.size->w'.heap[b]? =w.heap[b]?
 size:w.heap.size<=w'.heap.size
 os:w'.os=w.os
 tape:w'.tape=w.tape
 output:w'.output=w.output
theorem dt.refl (w:World):dt w w:=⟨λ_ _=>rfl,Of _,rfl,rfl,rfl⟩
theorem dt.trans {a b c:World} (x:dt a b) (y:dt b c):dt a c:=
 ⟨λk d=>(y.blocks k (aRx d x.size)).trans (x.blocks k d),aSe x.size y.size,y.os.trans x.os,y.tape.trans x.tape,y.output.trans x.output⟩
theorem dt.cell {w w':World} (h:dt w w') {a:Addr} {u:Value} (hc:w.cell? a=some u):w'.cell? a=some u:=
 (World.cell?_of_block (w:=w) (h.blocks a.block (World.block_lt_of_cell? _ _ hc))).trans hc
theorem dt.drew (w:World):dt w w.drew:=⟨λ_ _=>rfl,Of _,rfl,rfl,rfl⟩
theorem dt.drewN (w:World) (n:Nat):dt w (w.drewN n):=⟨λ_ _=>rfl,Of _,rfl,rfl,rfl⟩
theorem lZ.lt {b k:Nat} (h:lZ w b k):b<w.heap.size:=by
 obtain⟨cur,e,z,h1,_⟩:=h;exact(aRa.1 h1).1
theorem Fr.tH (d:dt w w'):Fr μ h S w μ h S w' where
 len:=Of _
 blocks b a _:=d.blocks b a
 sub _ a:=a
 new _ a:=.inl a
 own _ a:=.inl a
 size:=d.size
 os:=d.os
 tape:=d.tape
 output:=d.output
 EO id g sz n e f hh:=by rw[hh];exact⟨Of _,λ_=>⟨rfl,rfl,rfl,rfl⟩⟩
 dead _ hh:=hh
 dB b k _ hc:=lZ.of_same (d.blocks b hc.lt) hc
 maps id g sz n e f b base ho hm a:=⟨let⟨es,c,l⟩:=a;⟨es,c,(d.blocks b (aRa.1 l).1).trans l⟩,.inr ⟨⟨g,sz,n,e,f,ho⟩,hm⟩⟩
 yK b id i j _ a:=let⟨es,c,l⟩:=a;⟨es,c,(d.blocks b (aRa.1 l).1).trans l⟩
theorem uY.EN (hm:uY μ h S w) (a:Fr μ h S w μ' h' S' w'):RQ S' w':=
 hm.known.gx (λb c=>a.blocks b (hm.slt b c) (λho=>hm.apart b ho c)) a.sub
theorem uY.agree (c:dt w w') (hm:uY μ h S w):uY μ h S w':=
 ⟨hm.apart,λb a=>aRx (hm.lt b a) c.size,λb a=>aRx (hm.slt b a) c.size,hm.inj,hm.known.gx (λb a=>c.blocks b (hm.slt b a)) (λ_ a=>a),hm.hv,hm.hh⟩
theorem dA.agree (a:dt w w') (hm:uY μ h S w) (hh:dA μ h S w):dA μ h S w':=by
 intro id g sz n e f ho;obtain⟨h1,h2⟩:=hh id g sz n e f ho;refine⟨h1,?_⟩;cases c:μ id with
 | none=>rw[c]at h2;exact h2
 | some p=>
  obtain⟨b,base⟩:=p;rw[c]at h2;obtain⟨o,d,l⟩:=h2;have m:b<w.heap.size:=(aRa.1 d).1;exact⟨o,(a.blocks b m).trans d,l.mono (λi j pv v hi hj q=>q.fr (Fr.tH a) hm (λr s e' t u he k x=>a.blocks k (hm.lt k (.inr ⟨id,i,j,g,sz,n,e,f,r,s,e',t,u,ho,hi,by rw[hj,he],x⟩))))⟩
end
end Go.Am
