/- Texts of the proof, joined and shortened. -/
import Derived.WalkKit
import Derived.Deep.Draws
import Derived.Deep.Quiet
namespace Go.Am
open Go Go.RowKit
set_option linter.unusedVariables false
abbrev an:=@List.length_cons
abbrev An:=@List.getElem?_eq_some_iff
abbrev As:=@Bool.and_eq_true
abbrev At:=@List.length_nil
abbrev No:=@Nat.le_refl
abbrev Of:=@Nat.eq_of_beq_eq_true
abbrev abF:=@List.getElem?_eq_getElem
abbrev abL:=@Array.getElem?_eq_some_iff
abbrev amb:=@Bool.false_eq_true
abbrev are:=@List.mem_append
abbrev aHH:=@List.all_eq_true
abbrev aHI:=@Bool.false_ne_true
abbrev aHJ:=@Nat.zero_add
abbrev aHK:=@List.length_append
abbrev aHL:=@List.getD_eq_getElem?_getD
abbrev aHM:=@List.mem_cons
abbrev aHN:=@List.drop_eq_nil_of_le
abbrev aHO:=@Nat.mul_le_mul_right
abbrev aHP:=@Nat.lt_succ_self
abbrev aHQ:=@List.map_cons
abbrev aHR:=@Nat.add_mul
abbrev aHS:=@List.all_cons
abbrev aHT:=@List.mem_cons_of_mem
abbrev aHU:=@List.mem_of_getElem?
abbrev aHV:=@Nat.le_of_ble_eq_true
abbrev aHW:=@List.mem_map
abbrev aHX:=@Nat.lt_of_lt_of_le
abbrev aHY:=@List.drop_zero
abbrev aHZ:=@Array.getElem?_toList
abbrev aIa:=@Array.getElem?_eq_getElem
abbrev aIb:=@List.getElem?_map
abbrev aIc:=@List.getElem?_append_right
abbrev aId:=@List.getElem?_set_ne
abbrev aIe:=@List.append_assoc
abbrev aIf:=@List.drop_eq_getElem_cons
abbrev aIg:=@List.nil_append
abbrev aIh:=@List.getElem_mem
abbrev aIi:=@Bool.false_or
abbrev aIj:=@Bool.and_true
abbrev aIk:=@List.getElem?_append_left
abbrev aIl:=@Bool.and_false
abbrev aIm:=@List.getElem?_cons_succ
abbrev aIn:=@Nat.le_of_lt
abbrev aIo:=@Bool.or_false
abbrev aIp:=@List.map_append
abbrev aIq:=@List.getElem?_cons_zero
abbrev aIr:=@List.map_nil
abbrev aIs:=@Nat.not_lt_zero
abbrev aIt:=@Bool.not_eq_true'
abbrev aIu:=@List.all_nil
abbrev aIv:=@Option.some.inj
abbrev aIw:=@List.getElem?_eq_none
abbrev aIx:=@List.getElem?_set_self
abbrev aIy:=@List.contains_cons
abbrev aIz:=@List.length_drop
abbrev aIA:=@Array.length_toList
abbrev aIB:=@List.contains_nil
abbrev aIC:=@Nat.add_sub_cancel_left
abbrev aID:=@Array.getElem?_append_left
abbrev aIE:=@Nat.lt_or_ge
abbrev aIF:=@Array.eq_empty_of_size_eq_zero
abbrev aIG:=@List.getElem?_nil
abbrev aIH:=@Nat.le_trans
abbrev aII:=@List.append_nil
abbrev aIJ:=@Bool.or_eq_true
abbrev aIK:=@Nat.le_succ
abbrev aIL:=@Nat.eq_zero_or_pos
abbrev aIM:=@List.cons_append
abbrev aIN:=@Bool.or_true
abbrev aIO:=@Bool.true_and
abbrev aIP:=@Nat.add_zero
abbrev aIQ:=@List.getElem?_drop
abbrev aIR:=@Nat.sub_self
abbrev aIS:=@Nat.zero_le
abbrev aIT:=@Ne.symm
abbrev aIU:=@Int.toNat_natCast
abbrev aIV:=@List.drop_succ_cons
abbrev aIW:=@Nat.beq_refl
abbrev aIX:=@Bool.true_or
abbrev aIY:=@Bool.false_and
abbrev aIZ:=@List.mem_append_left
abbrev aJa:=@List.set_cons_zero
abbrev aJb:=@Bool.eq_iff_iff
abbrev aJc:=@List.mem_iff_getElem
abbrev aJd:=@List.getElem_append_right
abbrev aJe:=@List.getElem_append_left
abbrev aJf:=@List.length_eq_zero_iff
abbrev aJg:=@List.set_cons_succ
abbrev aJh:=@Array.size_append
abbrev aJi:=@List.mem_range
abbrev aJj:=@List.getElem?_toArray
abbrev aJk:=@List.length_take
abbrev aJl:=@List.isPrefixOf_iff_prefix
abbrev aJm:=@List.length_map
abbrev aJn:=@List.getElem?_take
abbrev aJo:=@Array.getElem?_map
abbrev aJp:=@Array.empty_append
abbrev aJq:=@List.getElem?_set
abbrev aJr:=@Bool.eq_false_iff
abbrev aJs:=@List.getElem_cons_zero
abbrev aJt:=@List.drop_nil
abbrev aJu:=@List.map_toArray
abbrev aJv:=@Array.getElem?_setIfInBounds_ne
abbrev aJw:=@List.length_set
abbrev aJx:=@List.drop_take
abbrev aJy:=@List.mem_singleton
abbrev aJz:=@List.append_of_mem
abbrev aJA:=@Nat.add_assoc
abbrev aJB:=@List.reverse_nil
abbrev aJC:=@Option.getD_some
abbrev aJD:=@Option.bind_some
abbrev aJE:=@List.not_mem_nil
abbrev aJF:=@Nat.max_eq_right
theorem aJG {p:Prop} (h:p:=by
  obtain rfl:=si h
  replace h:=gd
  exact eB h):p:=h
theorem aJH {p:Prop} (h:p:=by
  obtain rfl:=si h
  replace h:=eA
  exact eB h):p:=h
theorem aJI {p:Prop} (h:p:=by
  obtain rfl:=si h
  replace h:=gV
  exact eB h):p:=h
theorem aJJ {p:Prop} (h:p:=by
  obtain rfl:=si h
  replace h:=yG
  exact eB h):p:=h
theorem aJK {p:Prop} (h:p:=by
  replace h:=gd
  obtain rfl:=si h
  exact ⟨rfl,_,rfl,(en [] ⟨rfl,rfl⟩ (.cP ⟨.aI ⟨.i,.i,.s,.i,⟨⟩⟩,.i,.i,⟨⟩⟩) ⟨⟩)⟩):p:=h
theorem aJL {p:Prop} (h:p:=by
  obtain rfl:=si h
  replace h:=qz
  exact eB h):p:=h
theorem aJM {p:Prop} (h:p:=by
  replace h:=OU
  obtain rfl:=si h
  exact ⟨rfl,_,rfl,(en [0,4] ⟨Mh,vY.self,rfl,rfl⟩ (.aI ⟨.i,.i,.s,.oe,⟨⟩⟩) ⟨(ob rfl ⟨.l,.i,.i,.b,⟨⟩⟩),(bu vY vY.len vY.len),⟨⟩⟩)⟩):p:=h
theorem aJN {p:Prop} (h:p:=by
  rintro _ _ ⟨y1,rfl,rfl,rfl⟩
  replace h:=FL
  exact .d (eI h)):p:=h
theorem aJO {p:Prop} (h:p:=by
  replace h:=adm
  obtain rfl:=si h
  exact en [0,1] ⟨g1001,rfl,rfl⟩ (.cP ⟨⟩) ⟨(ob rfl ⟨.s,.i,.o,.i,⟨⟩⟩),od,⟨⟩⟩):p:=h
theorem aJP {p:Prop} (h:p:=by
  obtain rfl:=si h
  replace h:=zN
  exact eB h):p:=h
theorem aJQ {p:Prop} (h:p:=by
  obtain rfl:=si h
  replace h:=alh
  exact lg (ih9 _ _ _ _ h rfl) (tk [0] ⟨.s,.o,.b,.i,⟨⟩⟩ ⟨nw,⟨⟩⟩)):p:=h
theorem aJR {p:Prop} (h:p:=by
  obtain rfl:=si h
  replace h:=Ey
  exact eB h):p:=h
theorem aJS {p:Prop} (h:p:=by
  obtain ⟨dst,op,ty,pos,after,guard⟩:=o
  subst hg
  exact hp):p:=h
theorem aJT {p:Prop} (h:p:=by
  obtain rfl:=si h
  replace h:=FL
  exact eI h):p:=h
theorem aJU {p:Prop} (h:p:=by
  obtain rfl:=si h
  exact ⟨rfl,_,rfl,(en [0,4] ⟨_,(DR.nil (D:=ae.D)),rfl,rfl⟩ (.aI ⟨.i,.i,.s,.g,⟨⟩⟩) ⟨(ob rfl ⟨.l,.i,.i,.b,⟨⟩⟩),gh,⟨⟩⟩)⟩):p:=h
theorem aJV {p:Prop} (h:p:=by
  obtain rfl:=si h
  exact ⟨rfl,_,rfl,(en [0,4] ⟨_,(DR.nil (D:=ae.D)),rfl,rfl⟩ (.aI ⟨.i,.i,.s,.g,⟨⟩⟩) ⟨(ob rfl ⟨.l,.i,.i,.i,⟨⟩⟩),gh,⟨⟩⟩)⟩):p:=h
theorem aJW {p:Prop} (h:p:=by
  obtain rfl:=si h
  exact en [0] ⟨rfl,rfl⟩ .s ⟨(ob rfl ⟨.l,.i,.i,.b,⟨⟩⟩),⟨⟩⟩):p:=h
theorem aJX {p:Prop} (h:p:=by
  obtain rfl:=si h
  exact ⟨rfl,_,rfl,(en [4] ⟨_,(DR.nil (D:=ae.D)),rfl,rfl⟩ (.cP ⟨.aI ⟨.i,.i,.s,.g,⟨⟩⟩,.i,⟨⟩⟩) ⟨gh,⟨⟩⟩)⟩):p:=h
theorem aJY {p:Prop} (h:p:=by
  obtain rfl:=si h
  exact ⟨rfl,_,rfl,(en [0,3] ⟨_,(DR.nil (D:=ae.D)),rfl,rfl⟩ (.aI ⟨.i,.i,.s,.g,⟨⟩⟩) ⟨(ob rfl ⟨.l,.i,.i,.i,⟨⟩⟩),gh,⟨⟩⟩)⟩):p:=h
theorem aJZ {p:Prop} (h:p:=by
  obtain rfl:=si h
  exact en [0] ⟨rfl,rfl⟩ .b ⟨(ob rfl ⟨.l,.i,.i,.i,⟨⟩⟩),⟨⟩⟩):p:=h
theorem aKa {p:Prop} (h:p:=by
  obtain rfl:=si h
  exact en [0,1] ⟨g1001,rfl,rfl⟩ (.cP ⟨⟩) ⟨(ob rfl ⟨.s,.i,.o,.i,⟨⟩⟩),od,⟨⟩⟩):p:=h
theorem aKb {p:Prop} (h:p:=by
  obtain rfl:=si h
  exact en [0] ⟨rfl,rfl⟩ .b ⟨(ob rfl ⟨.l,.i,.i,.b,⟨⟩⟩),⟨⟩⟩):p:=h
theorem aKc {p:Prop} (h:p:=by
  obtain rfl:=si h
  exact ⟨rfl,_,rfl,(en [0,2] ⟨ais,Mc.self,rfl,rfl⟩ (.aI ⟨.i,.i,.s,.oe,⟨⟩⟩) ⟨(ob rfl ⟨.l,.i,.i,.b,⟨⟩⟩),(bu Mc),⟨⟩⟩)⟩):p:=h
theorem aKd {p:Prop} (h:p:=by
  obtain rfl:=si h
  exact ⟨rfl,_,rfl,(en [0,2] ⟨aiJ,zd.self,rfl,rfl⟩ (.aI ⟨.i,.i,.s,.oe,⟨⟩⟩) ⟨(ob rfl ⟨.l,.i,.i,.b,⟨⟩⟩),(bu zd),⟨⟩⟩)⟩):p:=h
theorem aKe {p:Prop} (h:p:=by
  obtain rfl:=si h
  exact en [] ⟨rfl,rfl⟩ (.cP ⟨.i,.b,⟨⟩⟩) ⟨⟩):p:=h
theorem aKf {p:Prop} (h:p:=by
  intro F0 F1 nK nL a0 y5 y6 o h
  exact .mk F0 nK F1 nL a0 y5 y6 o h):p:=h
theorem aKg {p:Prop} (h:p:=by
  obtain ⟨e,he,hb,rfl⟩:=(oc xD).1 vN
  exact (hgd _ (kk i ru _ vN).1).1 (KJ e he hb)):p:=h
theorem aKh {p:Prop} (h:p:=by
  obtain rfl:=si h
  exact en [0] ⟨rfl,rfl⟩ .s ⟨(ob rfl ⟨.l,.i,.i,.i,⟨⟩⟩),⟨⟩⟩):p:=h
theorem aKi {p:Prop} (h:p:=by
  obtain rfl:=si h
  exact aJK):p:=h
theorem aKj {p:Prop} (h:p:=by
  obtain rfl:=si h
  exact en [] ⟨rfl,rfl⟩ (.cP ⟨.s,.i,⟨⟩⟩) ⟨⟩):p:=h
theorem aKk {p:Prop} (h:p:=by exact ct ⟨_,si h,rfl,rfl⟩ (tk [0] ⟨.p,.i,.i,.b,⟨⟩⟩ ⟨(gg rfl),⟨⟩⟩)):p:=h
theorem aKl {p:Prop} (h:p:=by exact ct ⟨_,si h,rfl,rfl⟩ (tk [0] ⟨.p,.b,.b,.i,.b,⟨⟩⟩ ⟨(gg rfl),⟨⟩⟩)):p:=h
theorem aKm {p:Prop} (h:p:=by exact hp.elim):p:=h
theorem aKn {p:Prop} (h:p:=by exact ct ⟨si h,rfl,rfl⟩ (tk [] ⟨⟩ ⟨⟩)):p:=h
theorem aKo {p:Prop} (h:p:=by exact .d (eB h)):p:=h
theorem aKp {p:Prop} (h:p:=by exact ct ⟨_,si h,rfl,rfl⟩ (tk [0] ⟨.p,.i,.b,.b,.i,.b,⟨⟩⟩ ⟨(gg rfl),⟨⟩⟩)):p:=h
theorem aKq {p:Prop} (h:p:=by exact ct ⟨_,si h,rfl,rfl⟩ (tk [] ⟨.i,.b,⟨⟩⟩ ⟨⟩)):p:=h
theorem aKr {p:Prop} (h:p:=by exact ct ⟨_,si h,rfl,rfl⟩ (tk [0] ⟨.p,.i,.b,.i,.b,⟨⟩⟩ ⟨(gg rfl),⟨⟩⟩)):p:=h
theorem aKs {p:Prop} (h:p:=by exact ⟨_,hu,rfl,h1,Of h2,h4,λu=>by rw [show 9999=9998+1 from rfl,Instr.checkKey];simp [run_underlying hu]⟩):p:=h
theorem aKt {p:Prop} (h:p:=by exact ⟨_,rfl⟩):p:=h
theorem aKu {p:Prop} (h:p:=by exact ct ⟨_,si h,rfl,rfl⟩ (tk [] ⟨.i,⟨⟩⟩ ⟨⟩)):p:=h
theorem aKv {p:Prop} (h:p:=by exact .d (eI h)):p:=h
theorem aKw {p:Prop} (h:p:=by exact ct ⟨_,si h,rfl,rfl⟩ (tk [0,1] ⟨.p,.s,.i,⟨⟩⟩ ⟨(ob rfl ⟨.s,.i,.o,.i,⟨⟩⟩),od,⟨⟩⟩)):p:=h
theorem aKx {p:Prop} (h:p:=by exact lg (ih9 _ _ _ _ h rfl) (tk [0] ⟨.s,.o,.b,.i,⟨⟩⟩ ⟨nw,⟨⟩⟩)):p:=h
theorem aKy {p:Prop} (h:p:=by exact ct ⟨si h,rfl,rfl⟩ (tk [0,1] ⟨.p,⟨⟩⟩ ⟨(ob rfl ⟨.s,.i,.o,.i,⟨⟩⟩),od,⟨⟩⟩)):p:=h
theorem aKz {p:Prop} (h:p:=by exact ct ⟨_,si h,rfl,rfl⟩ (tk [0] ⟨.b,.b,.p,.l,.i,.i,⟨⟩⟩ ⟨(gg rfl),⟨⟩⟩)):p:=h
theorem aKA {p:Prop} (h:p:=by exact hc.ok.inj i j _ _ _ _ _ _ _ _ _ _ _ _ _ hi hj nB mF):p:=h
theorem aKB {p:Prop} (h:p:=by exact ⟨_,_,rfl,rfl,by simp [wt,Gk]⟩):p:=h
theorem aKC {p:Prop} (h:p:=by exact .inr (.inl h)):p:=h
theorem aKD {p:Prop} (h:p:=by exact lg (UL _ _ _ h rfl) (tk [] ⟨.l,.b,.b,.i,.i,⟨⟩⟩ ⟨⟩)):p:=h
theorem aKE {p:Prop} (h:p:=by exact .f (.f (.f (eB h)))):p:=h
theorem aKF {p:Prop} (h:p:=by exact ⟨No _,λ_=>⟨rfl,rfl,rfl,rfl⟩⟩):p:=h
theorem aKG {p:Prop} (h:p:=by exact ⟨_,_,_,_,_,_,_,_,_,_,q1,q2,q3,q4⟩):p:=h
theorem aKH {p:Prop} (h:p:=by exact .f (.f (.f (.f (.f (.f (.f (.f (eB h))))))))):p:=h
theorem aKI {p:Prop} (h:p:=by exact lg (Sr _ _ h rfl) (tk [] ⟨.s,.i,⟨⟩⟩ ⟨⟩)):p:=h
theorem aKJ {p:Prop} (h:p:=by exact .inr ⟨_,_,_,q⟩):p:=h
theorem aKK {p:Prop} (h:p:=by omega):p:=h
theorem aKL {p:Prop} (h:p:=by decide):p:=h
theorem aKM {p:Prop} (h:p:=by rw [show aS ts (.g i) 0 1 []=false from by show (kd ts i==1&&true)=false;rw [(beq_eq_false_iff_ne.2 k1)];rfl]):p:=h
theorem aKN {p:Prop} (h:p:=by simp):p:=h
theorem aKO {p:Prop} (h:p:=by rw [show aS ts (.g i) 0 6 [123]=false from (aM H (by decide) (by decide)).trans (aw hw (by decide))]):p:=h
theorem aKP {p:Prop} (h:p:=by rw [show tw ts (JS.g i).pos [123]=false from (aw hw (by decide))]):p:=h
theorem aKQ {p:Prop} (h:p:=by rw [show tw ts (JS.g i).pos [105,102]=false from (aw hw (by decide))]):p:=h
theorem aKR {p:Prop} (h:p:=by kernel_rfl):p:=h
theorem aKS {p:Prop} (h:p:=by simp [Op.operands]):p:=h
theorem aKT {p:Prop} (h:p:=by simp;omega):p:=h
theorem aKU {p:Prop} (h:p:=by simp only [an,At];omega):p:=h
theorem aKV {p:Prop} (h:p:=by simp only [an];omega):p:=h
theorem aKW {p:Prop} (h:p:=by rw [show aS ts (.g i) 0 6 [123]=false from (aM H (by decide) (by decide)).trans Hr]):p:=h
theorem aKX {p:Prop} (h:p:=by simp [Region.wanted,hg,hy]):p:=h
theorem aKY {p:Prop} (h:p:=by simp only [aHK,an,At];omega):p:=h
theorem aKZ {p:Prop} (h:p:=by simpa using hj):p:=h
theorem aLa {p:Prop} (h:p:=by first | rfl | exact (DR.nil (D:=ae.D)).len | exact (DR.nil (D:=ae.D)).len.symm):p:=h
theorem aLb {p:Prop} (h:p:=by rw [show tw ts (JS.g i).pos [105,102]=false from f0]):p:=h
theorem aLc {p:Prop} (h:p:=by rw [show tw ts (JS.g i).pos [123]=false from Hr]):p:=h
theorem aLd {p:Prop} (h:p:=by rw [decide_eq_true_eq];omega):p:=h
theorem aLe {p:Prop} (h:p:=by have:=(show ([115,116,97,116,105,99]:aB).length<=4000 by decide);have:=mh H (wS ts (.g (i+1)) [58,58]) 3;simp only [aHK,an,At];omega):p:=h
theorem aLf {p:Prop} (h:p:=by simp only [Nat.reduceAdd,Nat.reducePow];omega):p:=h
theorem aLg {p:Prop} (h:p:=by show ¬false=true;decide):p:=h
theorem aLh {p:Prop} (h:p:=by cases h):p:=h
theorem aLi {p:Prop} (h:p:=by simpa using h):p:=h
theorem aLj {p:Prop} (h:p:=by have:=(show ([115,116,97,116,105,99]:aB).length<=4000 by decide);simp only [an,At];omega):p:=h
theorem aLk {p:Prop} (h:p:=by assumption):p:=h
theorem aLl {p:Prop} (h:p:=by simp [tT]):p:=h
theorem aLm {p:Prop} (h:p:=by have:=hx;have:=mh H (wS ts (.g (i+1)) [58,58]) 3;simp only [aHK,an,At];omega):p:=h
theorem aLn {p:Prop} (h:p:=by rw [<-hf i hi];exact hj):p:=h
theorem aLo {p:Prop} (h:p:=by simpa using q1):p:=h
theorem aLp {p:Prop} (h:p:=by simpa using hy):p:=h
theorem aLq {p:Prop} (h:p:=by simpa using h2):p:=h
theorem aLr {p:Prop} (h:p:=by simpa using h1):p:=h
theorem aLs {p:Prop} (h:p:=by simpa using gK):p:=h
theorem aLt {p:Prop} (h:p:=by simp [Region.wanted,hg,tu hs hj he]):p:=h
theorem aLu {p:Prop} (h:p:=by rw [he];exact hu):p:=h
theorem aLv {p:Prop} (h:p:=by rw [beq_eq_false_iff_ne.2 k2];rfl):p:=h
theorem aLw {p:Prop} (h:p:=by rw [h1]):p:=h
theorem aLx {p:Prop} (h:p:=by simpa using hh):p:=h
theorem aLy {p:Prop} (h:p:=by simp at hx ⊢;exact .inr hx):p:=h
theorem aLz {p:Prop} (h:p:=by subst hy;simp [Op.operands]):p:=h
theorem aLA {p:Prop} (h:p:=by simp only [aIp,are];exact .inl (aHW.2 ⟨q,hq,rfl⟩)):p:=h
theorem aLB {p:Prop} (h:p:=by obtain ⟨h1,h2⟩:=An.1 AR;rw [<-h2];exact aIh h1):p:=h
theorem aLC {p:Prop} (h:p:=by simp [Op.operands];exact ⟨p.1,by simpa using hp⟩):p:=h
end Go.Am
set_option linter.unusedVariables false
set_option linter.unusedSimpArgs false
namespace Go.Am
open Go
def Hx:List Int:=[1,10,100,1000,10000,100000,1000000,10000000,100000000,1000000000,10000000000,100000000000,1000000000000,10000000000000,100000000000000,1000000000000000,10000000000000000,100000000000000000,1000000000000000000,10000000000000000000]
def FP:List (Nat×Array Value):=[(1,(Hx.map λz=>Value.int .u64 z).toArray)]
def xF:List Nat:=[2,3]
def FR:List Nat:=[0]
def aar:Nat:=4294967295
end Go.Am
namespace Go.Am
open Go Go.RowKit
inductive PV where
 | int (k:IntKind) (n:Int)
 | bool (b:Bool)
 | str (s:List UInt8)
 | cd
 | iC
 | ig (sz n:Nat) (f:Nat->List PV)
 | gB (cells:List PV)
 | own (id gen off len:Nat)
 | aC (id gen i off:Nat)
 | oL (id:Nat)
 | qE (f:Nat) (cH:List (Nat×Nat))
 | fn (f:Nat)
 | agg (cs:List PV)
 | fv (vs:List PV)
 | jf
 | dY (sz n:Nat) (e:TypeId) (f:Nat->List PV) (F:Nat->Prop)
 deriving Inhabited
abbrev Env:=Nat->PV
inductive ak where
 | row (gen sz n:Nat) (e:TypeId) (f:Nat->List PV)
 | dead
 deriving Inhabited
inductive TI where
 | int (k:IntKind)
 | bool
 | str
 | slice (e sz bytes:Nat) (zero:List PV)
 | struct (sz:Nat) (fields:List (Nat×Nat×Bool)) (zero:List PV)
 | ptr (e:Nat)
 | map (k e:Nat) (zero:PV)
 | other
 deriving Inhabited
structure o9 where
 get:Nat->TI
def qs (env:Env) (t:Nat) (v:PV):Env:=λj=>bif Nat.beq j t then v else env j
def ee (env:Env) (d:Option Nat) (v:PV):Env:=match d with | some t=>qs env t v | none=>env
def zC (env:Env):List (Nat×PV)->Env
 | []=>env
 | (t,v)::r=>qs (zC env r) t v
inductive gJ (b:Bool) (T F:Prop):Prop
 | mk (ht:b=true->T) (hf:b=false->F):gJ b T F
theorem kQ {b:Bool} {T F:Prop} (h:gJ b T F):(b=true->T)/\(b=false->F):=by cases h with | mk a b=>exact ⟨a,b⟩
def ed (b:Bool) (K:Prop):Prop:=match b with | true=>K | false=>False
theorem bI {b:Bool} {K:Prop} (h:ed b K):b=true/\K:=by cases b;exact h.elim;exact ⟨rfl,h⟩
def qY:IntKind->IntKind->Bool
 | .i8,.i8=>true
 | .i16,.i16=>true
 | .i32,.i32=>true
 | .i64,.i64=>true
 | .u8,.u8=>true
 | .u16,.u16=>true
 | .u32,.u32=>true
 | .u64,.u64=>true
 | _,_=>false
theorem fD {k k':IntKind} (h:qY k k'=true):k=k':=by cases k<;>cases k'<;>first | rfl | cases h
def ak6:Value->Option PV
 | .int k n=>some (.int k n)
 | .bool b=>some (.bool b)
 | .string s=>some (.str s.data.toList)
 | .slice none 0 0=>some .cd
 | .pointer none=>some .iC
 | _=>none
def Ri:List Value->Option (List PV)
 | []=>some []
 | v::r=>match ak6 v,Ri r with
  | some p,some l=>some (p::l)
  | _,_=>none
def aBg:Option (List PV)->PV
 | some l=>.agg l
 | none=>.jf
def ofValue:Value->PV
 | .int k n=>.int k n
 | .bool b=>.bool b
 | .string s=>.str s.data.toList
 | .slice none 0 0=>.cd
 | .pointer none=>.iC
 | .agg vs=>aBg (Ri vs.toList)
 | _=>.jf
inductive Sl:PV->PV->Prop
 | same (a:PV):Sl a a
 | nil (sz:Nat) (f:Nat->List PV):Sl .cd (.ig sz 0 f)
 | Rt (sz:Nat) (e:TypeId) (f:Nat->List PV):Sl .cd (.dY sz 0 e f (λ_=>False))
def nY:List PV->List PV->Prop
 | [],[]=>True
 | a::l,b::r=>Sl a b/\nY l r
 | _,_=>False
def ev (env:Env):Operand->PV
 | .tmp t=>env t
 | .const v=>ofValue v
 | .func f=>.fn f
 | .global _=>.jf
abbrev Mu:=Nat->Option (Nat×Nat)
inductive aY (S:Nat->Prop) (w:World):PV->Value->Prop
 | int (k:IntKind) (n:Int):aY S w (.int k n) (.int k n)
 | bool (b:Bool):aY S w (.bool b) (.bool b)
 | str (s:List UInt8):aY S w (.str s) (.string ⟨⟨s⟩⟩)
 | cd:aY S w .cd (.slice none 0 0)
 | iC:aY S w .iC (.pointer none)
 | fn (f:Nat):aY S w (.fn f) (.func (.func f) #[] #[])
 | uk (sz:Nat) (f:Nat->List PV) (a:Option Addr) (c:Nat):aY S w (.ig sz 0 f) (.slice a 0 c)
 | ig (sz n:Nat) (f:Nat->List PV) (b off c:Nat) (vf:Nat->Nat->Value) (hS:S b) (hlen:∀i,i<n->(f i).length=sz) (hc:n<=c)
   (bs:∀(i j:Nat) (pv:PV),i<n->(f i)[j]? =some pv->w.cell? ⟨b,off+i*sz+j,none⟩=some (vf i j))
   (pa:∀(i j:Nat) (pv:PV),i<n->(f i)[j]? =some pv->aY S w pv (vf i j)):aY S w (.ig sz n f) (.slice (some ⟨b,off,none⟩) n c)
 | gB (cs:List PV) (b off:Nat) (vf:Nat->Value) (hS:S b)
   (bs:∀(j:Nat) (pv:PV),cs[j]? =some pv->w.cell? ⟨b,off+j,none⟩=some (vf j))
   (pa:∀(j:Nat) (pv:PV),cs[j]? =some pv->aY S w pv (vf j)):aY S w (.gB cs) (.pointer (some ⟨b,off,none⟩))
inductive mg (S:Nat->Prop) (w:World):PV->Value->Prop
 | nil (sz:Nat) (e:TypeId) (f:Nat->List PV) (F:Nat->Prop) (hF:∀b,¬F b):mg S w (.dY sz 0 e f F) (.slice none 0 0)
 | KE (sz n:Nat) (e:TypeId) (f:Nat->List PV) (F:Nat->Prop) (b off c:Nat) (a:Addr) (cur:Array Value) (vf:Nat->Nat->Value) (hF:F b) (hb:w.heap[b]? =some (.cells cur e (0,0))) (hlen:∀i,i<n->(f i).length=sz) (hc:n<=c)
   (ha:0<c->a=⟨b,off,none⟩) (fY:off+c*sz<=cur.size)
   (bs:∀(i j:Nat) (pv:PV),i<n->(f i)[j]? =some pv->cur[off+i*sz+j]? =some (vf i j))
   (pa:∀(i j:Nat) (pv:PV),i<n->(f i)[j]? =some pv->aY S w pv (vf i j)\/∃cr n' e' f' F',pv=.dY cr n' e' f' F')
   (u7:∀(i j cr n':Nat) (e':TypeId) (f':Nat->List PV) (F':Nat->Prop),i<n->(f i)[j]? =some (.dY cr n' e' f' F')->mg S w (.dY cr n' e' f' F') (vf i j))
   (Ep:∀(i j cr n':Nat) (e':TypeId) (f':Nat->List PV) (F':Nat->Prop),i<n->(f i)[j]? =some (.dY cr n' e' f' F')->∀b',F' b'->F b'/\b'≠b)
   (KF:∀(i j cr n':Nat) (e':TypeId) (f':Nat->List PV) (F':Nat->Prop) (i2 j2 lG n2:Nat) (e2:TypeId) (f2:Nat->List PV) (F2:Nat->Prop),i<n->(f i)[j]? =some (.dY cr n' e' f' F')->i2<n->(f i2)[j2]? =some (.dY lG n2 e2 f2 F2)->
    ∀b',F' b'->F2 b'->i=i2/\j=j2):mg S w (.dY sz n e f F) (.slice (some a) n c)
def kq (w:World) (b k:Nat):Prop:=∃cur e z,w.heap[b]? =some (.cells cur e z)/\k<=cur.size
def bC (μ:Mu) (h:List ak) (w:World) (id gen off len:Nat) (v:Value):Prop:=
 (∃a l c,v=.slice a l c)/\match h[id]? with
 | some (ak.row g sz n _ _)=>gen<=g/\(gen=g->off+len<=n/\match μ id with
  | none=>v=.slice none 0 0
  | some (b,base)=>∃a cap,v=.slice (some a) len cap/\len<=cap/\(0<cap->a=⟨b,base+off*sz,none⟩)/\kq w b (base+(off+cap)*sz))
 | some ak.dead=>True
 | none=>False
def cG (μ:Mu) (h:List ak) (w:World) (id gen i off:Nat) (v:Value):Prop:=
 (∃a,v=.pointer a)/\match h[id]? with
 | some (ak.row g sz n e _)=>gen<=g/\(gen=g->i<n/\∃b base,μ id=some (b,base)/\(kq w b 0/\(Nat.beq e aar=true->base=0))/\v=.pointer (some ⟨b,base+i*sz+off,none⟩))
 | some ak.dead=>True
 | none=>False
def qc (w:World) (b:Nat):Prop:=∃es clock,w.heap[b]? =some (.map es clock)
def gI (μ:Mu) (h:List ak) (w:World) (id:Nat) (v:Value):Prop:=
 (∃a,v=.map a)/\match h[id]? with
 | some (ak.row _ _ _ _ _)=>∃b base,μ id=some (b,base)/\qc w b/\v=.map (some b)
 | some ak.dead=>True
 | none=>False
def uq (O:Nat->Nat->Value->Prop) (f:Nat) (cH:List (Nat×Nat)) (v:Value):Prop:=
 ∃vs:Array Value,v=.func (.func f) #[] vs/\vs.size=cH.length/\∀(j:Nat) (p:Nat×Nat),cH[j]? =some p->∃u:Value,vs[j]? =some u/\O p.1 p.2 u
theorem uq.mono {O O':Nat->Nat->Value->Prop} {f:Nat} {cH:List (Nat×Nat)} {v:Value} (h:uq O f cH v) (hO:∀id g u,O id g u->O' id g u):uq O' f cH v:=by
 obtain ⟨vs,h1,h2,h3⟩:=h
 exact ⟨vs,h1,h2,λj p hj=>let ⟨u,q1,q2⟩:=h3 j p hj;⟨u,q1,hO _ _ _ q2⟩⟩
def te (σ:Nat->Nat) (cH:List (Nat×Nat)):List (Nat×Nat):=cH.map λp=>(σ p.1,p.2)
theorem uq.map {O:Nat->Nat->Value->Prop} {σ:Nat->Nat} {f:Nat} {cH:List (Nat×Nat)} {v:Value} (h:uq (λid g u=>O (σ id) g u) f cH v):uq O f (te σ cH) v:=by
 obtain ⟨vs,h1,h2,h3⟩:=h
 refine ⟨vs,h1,by unfold te;rw [aJm];exact h2,λj p hj=>?_⟩
 unfold te at hj
 rw [aIb] at hj
 cases hx:cH[j]? with
 | none=>rw [hx] at hj;cases hj
 | some q=>
  rw [hx] at hj
  injection hj with hj
  subst hj
  exact h3 j q hx
theorem uq.aAx {O:Nat->Nat->Value->Prop} {σ:Nat->Nat} {f:Nat} {cH:List (Nat×Nat)} {v:Value} (h:uq O f (te σ cH) v):uq (λid g u=>O (σ id) g u) f cH v:=by
 obtain ⟨vs,h1,h2,h3⟩:=h
 refine ⟨vs,h1,by unfold te at h2;rw [aJm] at h2;exact h2,λj p hj=>?_⟩
 obtain ⟨u,q1,q2⟩:=h3 j (σ p.1,p.2) (by unfold te;rw [aIb,hj];rfl)
 exact ⟨u,q1,q2⟩
def pc (μ:Mu) (h:List ak) (w:World) (f:Nat) (cH:List (Nat×Nat)) (v:Value):Prop:=uq (λid g u=>cG μ h w id g 0 0 u) f cH v
def u5:PV->Bool
 | .int _ _=>true
 | .bool _=>true
 | .str _=>true
 | .jf=>true
 | _=>false
def ko:PV->Bool
 | .agg cs=>cs.all u5
 | v=>u5 v
def tL:PV->Value->Prop
 | .int k n,v=>v=.int k n
 | .bool b,v=>v=.bool b
 | .str s,v=>v=.string ⟨⟨s⟩⟩
 | _,v=>v.oneCell'=true
def qZ:PV->Value->Prop
 | .agg cs,v=>∃vs:Array Value,v=.agg vs/\vs.size=cs.length/\∀(j:Nat) (pv:PV),cs[j]? =some pv->∃u:Value,vs[j]? =some u/\tL pv u
 | .jf,_=>True
 | pv,v=>tL pv v
def xg (C:PV->Value->Prop) (base sz n:Nat) (e:TypeId) (f:Nat->List PV):Obj->Prop
 | .cells cur e' z=>e'=e/\z=(0,0)/\base+n*sz<=cur.size/\∀(i j:Nat) (pv:PV),i<n->(f i)[j]? =some pv->∃v:Value,cur[base+i*sz+j]? =some v/\C pv v
 | .map es _=>es.size=n/\∀i,i<n->∃(kp vp:PV) (en:MapEntry),f i=[kp,vp]/\ko kp=true/\ko vp=true/\es[i]? =some en/\qZ kp en.key/\qZ vp en.val
 | _=>False
theorem xg.mono {C C':PV->Value->Prop} {base sz n:Nat} {e:TypeId} {f:Nat->List PV} {o:Obj} (h:xg C base sz n e f o) (hc:∀(i j:Nat) (pv:PV) (v:Value),i<n->(f i)[j]? =some pv->C pv v->C' pv v):xg C' base sz n e f o:=by
 cases o with
 | cells cur e' z=>
  obtain ⟨h1,h2,h3,h4⟩:=h
  exact ⟨h1,h2,h3,λi j pv hi hj=>let ⟨v,q1,q2⟩:=h4 i j pv hi hj;⟨v,q1,hc i j pv v hi hj q2⟩⟩
 | map es c=>exact h
 | _=>exact h.elim
def cz (μ:Mu) (h:List ak) (S:Nat->Prop) (w:World):PV->Value->Prop
 | .own id gen off len,v=>bC μ h w id gen off len v
 | .aC id gen i off,v=>cG μ h w id gen i off v
 | .oL id,v=>gI μ h w id v
 | .qE f cH,v=>pc μ h w f cH v
 | .jf,v=>v.oneCell'=true
 | .dY _ _ _ _ _,v=>v.oneCell'=true
 | .agg _,_=>False
 | .fv _,_=>False
 | pv,v=>aY S w pv v
def pd (μ:Mu) (h:List ak) (S:Nat->Prop) (w:World):PV->Value->Prop
 | .dY sz n e f F,v=>mg S w (.dY sz n e f F) v
 | pv,v=>cz μ h S w pv v
def jF (μ:Mu) (h:List ak) (S:Nat->Prop) (w:World):PV->Value->Prop
 | .agg cs,v=>∃vs:Array Value,v=.agg vs/\vs.size=cs.length/\∀(j:Nat) (pv:PV),cs[j]? =some pv->∃u:Value,vs[j]? =some u/\cz μ h S w pv u
 | .jf,_=>True
 | pv,v=>cz μ h S w pv v
def bS (μ:Mu) (h:List ak) (S:Nat->Prop) (w:World):PV->Value->Prop
 | .fv ps,v=>∃vs:Array Value,v=.tuple vs/\vs.size=ps.length/\∀(j:Nat) (pv:PV),ps[j]? =some pv->∃u:Value,vs[j]? =some u/\jF μ h S w pv u
 | pv,v=>jF μ h S w pv v
def cZ (μ:Mu) (h:List ak) (S:Nat->Prop) (w:World):Prop:=
 ∀(id g sz n:Nat) (e:TypeId) (f:Nat->List PV),h[id]? =some (ak.row g sz n e f)->(∀i,i<n->(f i).length=sz)/\match μ id with
  | none=>n=0
  | some (b,base)=>∃o:Obj,w.heap[b]? =some o/\xg (pd μ h S w) base sz n e f o
theorem cZ.cells {μ:Mu} {h:List ak} {S:Nat->Prop} {w:World} {b base k sz n:Nat} {e:TypeId} {f:Nat->List PV} (hc:kq w b k) (ho:∃o:Obj,w.heap[b]? =some o/\xg (pd μ h S w) base sz n e f o):
  ∃cur:Array Value,w.heap[b]? =some (.cells cur e (0,0))/\base+n*sz<=cur.size/\
    ∀(i j:Nat) (pv:PV),i<n->(f i)[j]? =some pv->∃v:Value,cur[base+i*sz+j]? =some v/\pd μ h S w pv v:=by
 obtain ⟨cur,e',z,h1,_⟩:=hc
 obtain ⟨o,h2,h3⟩:=ho
 obtain rfl:=aIv (h1.symm.trans h2)
 obtain ⟨rfl,rfl,q1,q2⟩:=h3
 exact ⟨cur,h1,q1,q2⟩
theorem cZ.CE {C:PV->Value->Prop} {w:World} {b base sz n:Nat} {e:TypeId} {f:Nat->List PV} (ho:∃cur:Array Value,w.heap[b]? =some (.cells cur e (0,0))/\base+n*sz<=cur.size/\
    ∀(i j:Nat) (pv:PV),i<n->(f i)[j]? =some pv->∃v:Value,cur[base+i*sz+j]? =some v/\C pv v):∃o:Obj,w.heap[b]? =some o/\xg C base sz n e f o:=by
 obtain ⟨cur,h1,h2,h3⟩:=ho
 exact ⟨_,h1,rfl,rfl,h2,h3⟩
def CG (μ:Mu) (h:List ak) (b:Nat):Prop:=∃(id g sz n:Nat) (e:TypeId) (f:Nat->List PV) (base:Nat),h[id]? =some (ak.row g sz n e f)/\μ id=some (b,base)
def dU (h:List ak) (id i j b:Nat):Prop:=∃(g sz n:Nat) (e:TypeId) (f:Nat->List PV) (cr n':Nat) (e':TypeId) (f':Nat->List PV) (F:Nat->Prop),h[id]? =some (ak.row g sz n e f)/\i<n/\(f i)[j]? =some (.dY cr n' e' f' F)/\F b
def di (μ:Mu) (h:List ak) (b:Nat):Prop:=CG μ h b\/∃id i j,dU h id i j b
def Oc (S:Nat->Prop) (w:World):Prop:=(∀p,p∈FP->S p.1/\∃t z,w.heap[p.1]? =some (.cells p.2 t z))/\(∀g,g∈xF->S g/\∃tp p t z,w.heap[g]? =some (.cells #[.iface tp p] t z))/\
 ∀g,g∈FR->S g/\∃m t z,w.heap[g]? =some (.cells #[.int .i64 m] t z)
theorem Oc.fx {S S':Nat->Prop} {w w':World} (h:Oc S w) (hb:∀b,S b->w'.heap[b]? =w.heap[b]?) (hs:∀b,S b->S' b):Oc S' w':=
 ⟨λp hp=>⟨hs _ (h.1 p hp).1,by rw [hb _ (h.1 p hp).1];exact (h.1 p hp).2⟩,λg hg=>⟨hs _ (h.2.1 g hg).1,by rw [hb _ (h.2.1 g hg).1];exact (h.2.1 g hg).2⟩,
  λg hg=>⟨hs _ (h.2.2 g hg).1,by rw [hb _ (h.2.2 g hg).1];exact (h.2.2 g hg).2⟩⟩
structure ta (μ:Mu) (h:List ak) (S:Nat->Prop) (w:World):Prop where
 apart:∀b,di μ h b->¬S b
 lt:∀b,di μ h b->b<w.heap.size
 slt:∀b,S b->b<w.heap.size
 inj:∀(i j g sz n:Nat) (e:TypeId) (f:Nat->List PV) (g' cr n':Nat) (e':TypeId) (f':Nat->List PV) (b o o':Nat),h[i]? =some (ak.row g sz n e f)->h[j]? =some (ak.row g' cr n' e' f')->μ i=some (b,o)->μ j=some (b,o')->i=j
 known:Oc S w
 hv:∀b,CG μ h b->∀id i j,¬dU h id i j b
 hh:∀b id i j id' i' j',dU h id i j b->dU h id' i' j' b->id=id'/\i=i'/\j=j'
structure Fr (μ:Mu) (h:List ak) (S:Nat->Prop) (w:World) (μ':Mu) (h':List ak) (S':Nat->Prop) (w':World):Prop where
 len:h.length<=h'.length
 blocks:∀b,b<w.heap.size->¬di μ h b->w'.heap[b]? =w.heap[b]?
 sub:∀b,S b->S' b
 new:∀b,S' b->S b\/di μ h b\/w.heap.size<=b
 own:∀b,di μ' h' b->di μ h b\/w.heap.size<=b
 size:w.heap.size<=w'.heap.size
 os:w'.os=w.os
 tape:w'.tape=w.tape
 output:w'.output=w.output
 CH:∀(id g sz n:Nat) (e:TypeId) (f:Nat->List PV),h[id]? =some (ak.row g sz n e f)->match h'[id]? with
  | some (ak.row g' cr n' e' _)=>g<=g'/\(g'=g->μ' id=μ id/\cr=sz/\n'=n/\e'=e)
  | some ak.dead=>True
  | none=>False
 dead:∀id:Nat,h[id]? =some ak.dead->h'[id]? =some ak.dead
 cH:∀b k,di μ h b->kq w b k->kq w' b k
 maps:∀(id g sz n:Nat) (e:TypeId) (f:Nat->List PV) (b base:Nat),h[id]? =some (ak.row g sz n e f)->μ id=some (b,base)->qc w b->
  qc w' b/\(h'[id]? =some ak.dead\/((∃g' cr n' e' f',h'[id]? =some (ak.row g' cr n' e' f'))/\μ' id=some (b,base)))
 wv:∀b id i j,dU h id i j b->qc w b->qc w' b
def alZ (P:Program) (f:FuncId):Prop:=∃fn c,P.funcs[f]? =some fn/\fn.body=some c/\(fn.name== "runtime.NumGoroutine")=false
def ACall (P:Program) (f:FuncId) (args:List PV) (h:List ak) (R:PV->List ak->Prop):Prop:=
 alZ P f/\∀(w:World) (vs:Array Value) (μ:Mu) (S:Nat->Prop),cZ μ h S w->ta μ h S w->vs.size=args.length->
  (∀(j:Nat) (pv:PV),args[j]? =some pv->∃v:Value,vs[j]? =some v/\jF μ h S w pv v)->
  Calls P f vs w (λe w'=>∃(v:Value) (res:PV) (h':List ak) (μ':Mu) (S':Nat->Prop),e=.returned v/\R res h'/\bS μ' h' S' w' res v/\cZ μ' h' S' w'/\ta μ' h' S' w'/\Fr μ h S w μ' h' S' w')
def cu:PV->Bool
 | .int _ _=>true
 | .bool _=>true
 | .str _=>true
 | .cd=>true
 | .iC=>true
 | .ig _ _ _=>true
 | .gB _=>true
 | .fn _=>true
 | _=>false
def dW:PV->Bool
 | .dY _ _ _ _ _=>true
 | _=>false
inductive CP:PV->PV->Prop
 | mk (sz n:Nat) (e:TypeId) (f f':Nat->List PV) (F:Nat->Prop) (hl:∀i,i<n->(f' i).length=(f i).length) (hf:∀(i j:Nat) (pv gw:PV),i<n->(f i)[j]? =some pv->(f' i)[j]? =some gw->dW pv=false->gw=pv) (ho:∀(i j:Nat) (pv gw:PV),i<n->(f i)[j]? =some pv->(f' i)[j]? =some gw->dW pv=true->CP pv gw)
   (hp:∀(i j:Nat) (gw:PV),i<n->(f' i)[j]? =some gw->cu gw=true):CP (.dY sz n e f F) (.ig sz n f')
inductive Fz (h η:List ak) (k:List Nat):PV->PV->Prop
 | int (k':IntKind) (n:Int):Fz h η k (.int k' n) (.int k' n)
 | bool (b:Bool):Fz h η k (.bool b) (.bool b)
 | str (s:List UInt8):Fz h η k (.str s) (.str s)
 | cd:Fz h η k .cd .cd
 | iC:Fz h η k .iC .iC
 | age (sz:Nat) (f:Nat->List PV):Fz h η k .cd (.ig sz 0 f)
 | aAI (id id' g' cr:Nat) (e':TypeId) (f':Nat->List PV) (hk:k[id']? =some id) (ho:h[id]? =none) (hη:η[id']? =some (ak.row g' cr 0 e' f')):Fz h η k .cd (.own id' g' 0 0)
 | fn (f:Nat):Fz h η k (.fn f) (.fn f)
 | ig (sz n:Nat) (f f':Nat->List PV) (hf:∀i,i<n->f' i=f i):Fz h η k (.ig sz n f) (.ig sz n f')
 | gB (cs:List PV):Fz h η k (.gB cs) (.gB cs)
 | jf (pv:PV):Fz h η k pv .jf
 | dY (sz n:Nat) (e:TypeId) (f:Nat->List PV) (F:Nat->Prop):Fz h η k (.dY sz n e f F) (.dY sz n e f F)
 | Rt (sz:Nat) (e:TypeId) (f:Nat->List PV):Fz h η k .cd (.dY sz 0 e f (λ_=>False))
 | own (id id' g g' sz cr n n' off len:Nat) (e e':TypeId) (f f':Nat->List PV) (hk:k[id']? =some id) (ho:h[id]? =some (ak.row g sz n e f)) (hη:η[id']? =some (ak.row g' cr n' e' f')) (hn:off+len<=n'):Fz h η k (.own id g off len) (.own id' g' off len)
 | aC (id id' g g' sz cr n n' i off:Nat) (e e':TypeId) (f f':Nat->List PV) (hk:k[id']? =some id) (ho:h[id]? =some (ak.row g sz n e f)) (hη:η[id']? =some (ak.row g' cr n' e' f')) (hn:i<n'):Fz h η k (.aC id g i off) (.aC id' g' i off)
 | oL (id id' g g' sz cr n n':Nat) (e e':TypeId) (f f':Nat->List PV) (hk:k[id']? =some id) (ho:h[id]? =some (ak.row g sz n e f)) (hη:η[id']? =some (ak.row g' cr n' e' f')):Fz h η k (.oL id) (.oL id')
 | qE (f:Nat) (cH KG:List (Nat×Nat)) (hl:KG.length=cH.length) (hc:∀(j:Nat) (p p':Nat×Nat),cH[j]? =some p->KG[j]? =some p'->k[p'.1]? =some p.1/\(∃sz n e f,h[p.1]? =some (ak.row p.2 sz n e f))/\∃sz n e f,η[p'.1]? =some (ak.row p'.2 sz n e f)/\0<n):Fz h η k (.qE f cH) (.qE f KG)
 | frz (id g sz n off len:Nat) (e:TypeId) (f f':Nat->List PV) (hk:id∉k) (ho:h[id]? =some (ak.row g sz n e f)) (hl:∀i,i<len->(f' i).length=(f (off+i)).length)
   (hp:∀(i j:Nat) (gw:PV),i<len->(f' i)[j]? =some gw->cu gw=true)
   (hf:∀(i j:Nat) (pv gw:PV),i<len->(f (off+i))[j]? =some pv->(f' i)[j]? =some gw->¬CP pv gw->Fz h η k pv gw):Fz h η k (.own id g off len) (.ig sz len f')
 | agg (cs Ba:List PV) (hl:Ba.length=cs.length) (hc:∀(j:Nat) (pv gw:PV),cs[j]? =some pv->Ba[j]? =some gw->Fz h η k pv gw):Fz h η k (.agg cs) (.agg Ba)
 | fv (cs Ba:List PV) (hl:Ba.length=cs.length) (hc:∀(j:Nat) (pv gw:PV),cs[j]? =some pv->Ba[j]? =some gw->Fz h η k pv gw):Fz h η k (.fv cs) (.fv Ba)
def Aa (h η:List ak) (k:List Nat):List PV->List PV->Prop
 | [],[]=>True
 | a::l,b::r=>Fz h η k a b/\Aa h η k l r
 | _,_=>False
def RR:List Nat->Nat->Bool
 | [],_=>false
 | a::r,x=>match Nat.beq a x with
  | true=>true
  | false=>RR r x
def pg:List Nat->Bool
 | []=>true
 | a::r=>match RR r a with
  | true=>false
  | false=>pg r
def oR:List ak->List Nat->List Nat
 | .row _ _ _ _ _::r,i::is=>i::oR r is
 | .dead::r,_::is=>oR r is
 | _,_=>[]
def yN (h η:List ak) (k:List Nat) (m:Nat) (o:ak) (id' id:Nat):Prop:=
 match o,h[id]? with
 | .row g' cr n' e' f',some (ak.row g sz n e f)=>(id'<m->id'=id/\g'=g)/\cr=sz/\(n'=n\/m<=id'/\sz≠2/\n'<=n)/\e'=e/\
   ∀i,i<n'->Aa h η k (f i) (f' i)
 | .dead,_=>True
 | .row _ _ n' _ _,none=>m<=id'/\n'=0
 | _,_=>False
def gF (l:List PV) (off:Nat):List PV->List PV
 | []=>l
 | c::r=>gF (l.set off c) (off+1) r
def cellsOf:PV->List PV
 | .agg cs=>cs
 | v=>[v]
def dz (h:List ak) (id:Nat):ak:=h.getD id .dead
def force (v:PV) (K:PV->Prop):Prop:=
 match v with
 | .int k n=>K (.int k n)
 | .bool b=>K (.bool b)
 | .str s=>K (.str s)
 | .cd=>K .cd
 | .iC=>K .iC
 | .ig sz n f=>K (.ig sz n f)
 | .gB cs=>K (.gB cs)
 | .own id gen off len=>K (.own id gen off len)
 | .aC id gen i off=>K (.aC id gen i off)
 | .oL id=>K (.oL id)
 | .qE f cH=>K (.qE f cH)
 | .fn f=>K (.fn f)
 | .agg cs=>K (.agg cs)
 | .fv vs=>K (.fv vs)
 | .jf=>K .jf
 | .dY sz n e f F=>K (.dY sz n e f F)
theorem cK {v:PV} {K:PV->Prop} (h:force v K):K v:=by cases v<;>exact h
def FB (K:List PV->Prop):Nat->List PV->List PV->Prop
 | 0,_,acc=>K acc.reverse
 | _+1,[],_=>False
 | n+1,c::r,acc=>force c λv=>FB K n r (v::acc)
theorem qa {K:List PV->Prop}:∀(n:Nat) (l acc:List PV),FB K n l acc->n<=l.length/\K (acc.reverse++l.take n)
 | 0,l,acc,h=>⟨aIS _,by simp only [List.take_zero,aII];exact h⟩
 | _+1,[],_,h=>h.elim
 | n+1,c::r,acc,h=>by
  obtain ⟨h1,h2⟩:=qa n r (c::acc) (cK h)
  exact ⟨by simp;omega,by simpa using h2⟩
def zi (T:o9) (t:Nat) (cells:List PV) (K:PV->Prop):Prop:=
 match T.get t with
 | .struct sz _ _=>FB (λl=>K (.agg l)) sz cells []
 | .other=>False
 | _=>match cells with
  | c::_=>force c K
  | []=>False
def yh (T:o9) (t:Nat) (a:PV) (h:List ak) (K:PV->Prop):Prop:=
 match a with
 | .gB cells=>zi T t cells K
 | .aC id gen i off=>match dz h id with
  | .row g _ _ _ f=>g=gen/\∃c,f i=c/\zi T t (c.drop off) K
  | .dead=>False
 | _=>False
def dV (f:Nat->List PV) (i:Nat) (l:List PV):Nat->List PV:=λk=>bif Nat.beq k i then l else f k
def zW:List PV->Bool
 | []=>true
 | .int _ _::r=>zW r
 | .bool _::r=>zW r
 | .str _::r=>zW r
 | _=>false
def JJ (g:Bool) (q:Bool):Option Bool->Option Bool
 | some c=>match g with
  | true=>some (q&&c)
  | false=>none
 | none=>none
def Fb:List PV->List PV->List PV->Option Bool
 | [],[],[]=>some true
 | .int k _::z,.int k1 a::r,.int k2 b::r'=>JJ (qY k k1&&qY k k2) (a==b) (Fb z r r')
 | .bool _::z,.bool a::r,.bool b::r'=>JJ true (a==b) (Fb z r r')
 | .str _::z,.str a::r,.str b::r'=>JJ true (a==b) (Fb z r r')
 | _,_,_=>none
def nE (ti:TI) (a b:PV):Option Bool:=
 match ti,a,b with
 | .int k,.int k1 x,.int k2 y=>JJ (qY k k1&&qY k k2) (x==y) (some true)
 | .str,.str x,.str y=>some (x==y)
 | .struct _ _ z,.agg xs,.agg ys=>match zW z with
  | true=>Fb z xs ys
  | false=>none
 | _,_,_=>none
def JQ (ti:TI) (f:Nat->List PV) (n:Nat) (kv:PV):Prop:=∀j,j<n->∃kp vp,f j=[kp,vp]/\nE ti kv kp=some false
def MAt (ti:TI) (f:Nat->List PV) (n:Nat) (kv:PV) (i:Nat) (r:PV):Prop:=i<n/\JQ ti f i kv/\∃kp,f i=[kp,r]/\nE ti kv kp=some true
def ago (ti:TI) (f:Nat->List PV) (n:Nat) (kv zv r:PV) (b:Bool):Prop:=(b=true/\∃i,MAt ti f n kv i r)\/(b=false/\r=zv/\JQ ti f n kv)
def aGa (ti:TI) (f:Nat->List PV) (n:Nat) (kv vv:PV) (n':Nat) (f':Nat->List PV):Prop:=
 (∃i r,MAt ti f n kv i r/\n'=n/\f' i=[kv,vv]/\∀j,j<n->j≠i->f' j=f j)\/(JQ ti f n kv/\n'=n+1/\f' n=[kv,vv]/\∀j,j<n->f' j=f j)
def Rk (ti:TI) (bo:BinOp) (x y:PV) (K:PV->Prop):Prop:=
 match x,y with
 | .int k a,.int k' b=>
  match bo with
  | .shl=>0<=b/\K (.int k (k.wrap (a*2 ^ min b.toNat k.bits)))
  | .shr=>0<=b/\K (.int k (a.fdiv (2 ^ min b.toNat k.bits)))
  | _=>ed (qY k k')<|match bo with
  | .and=>K (.int k (bits .and k a b))
  | .or=>K (.int k (bits .or k a b))
  | .xor=>K (.int k (bits .xor k a b))
  | .andNot=>K (.int k (bits .andNot k a b))
  | .add=>K (.int k (k.wrap (a+b)))
  | .sub=>K (.int k (k.wrap (a - b)))
  | .mul=>K (.int k (k.wrap (a*b)))
  | .quo=>b≠0/\K (.int k (k.wrap (a.tdiv b)))
  | .rem=>b≠0/\K (.int k (a.tmod b))
  | .eql=>K (.bool (a==b))
  | .neq=>K (.bool (a != b))
  | .lss=>K (.bool (decide (a<b)))
  | .leq=>K (.bool (decide (a<=b)))
  | .gtr=>K (.bool (decide (a>b)))
  | .geq=>K (.bool (decide (a>=b)))
  | _=>False
 | .bool a,.bool b=>match ti,bo with
  | .bool,.eql=>K (.bool (a==b))
  | .bool,.neq=>K (.bool (!(a==b)))
  | _,_=>False
 | .str a,.str b=>match bo with
  | .add=>a.length+b.length<=4611686018427387904/\∃s,a++b=s/\K (.str s)
  | .eql=>K (.bool (a==b))
  | .neq=>K (.bool (!(a==b)))
  | .lss=>K (.bool (Op.bytesLess a b))
  | .leq=>K (.bool (Op.bytesLess a b||a==b))
  | .gtr=>K (.bool !(Op.bytesLess a b||a==b))
  | .geq=>K (.bool !(Op.bytesLess a b))
  | _=>False
 | .agg xs,.agg ys=>match ti with
  | .struct _ _ z=>ed (zW z) (match Fb z xs ys with
   | some b=>match bo with
    | .eql=>∃c,b=c/\K (.bool c)
    | .neq=>∃c,b=c/\K (.bool !c)
    | _=>False
   | none=>False)
  | _=>False
 | _,_=>False
def Cy (x:PV) (lo hi:Option PV) (K:PV->Prop):Prop:=
 match x with
 | .ig sz n f=>match lo,hi with
  | none,none=>K (.ig sz n f)
  | some (.int _ l),none=>(0<=l/\l<=n)/\K (.ig sz (n - l.toNat) (λi=>f (l.toNat+i)))
  | none,some (.int _ m)=>(0<=m/\m<=n)/\K (.ig sz m.toNat f)
  | some (.int _ l),some (.int _ m)=>(0<=l/\l<=m/\m<=n)/\K (.ig sz (m.toNat - l.toNat) (λi=>f (l.toNat+i)))
  | _,_=>False
 | .own id gen off len=>match lo,hi with
  | none,none=>K (.own id gen off len)
  | some (.int _ l),none=>(0<=l/\l<=len)/\K (.own id gen (off+l.toNat) (len - l.toNat))
  | none,some (.int _ m)=>(0<=m/\m<=len)/\K (.own id gen off m.toNat)
  | some (.int _ l),some (.int _ m)=>(0<=l/\l<=m/\m<=len)/\K (.own id gen (off+l.toNat) (m.toNat - l.toNat))
  | _,_=>False
 | .str s=>match lo,hi with
  | none,none=>K (.str s)
  | some (.int _ l),none=>(0<=l/\l<=s.length)/\K (.str (s.drop l.toNat))
  | none,some (.int _ m)=>(0<=m/\m<=s.length)/\K (.str (s.take m.toNat))
  | some (.int _ l),some (.int _ m)=>(0<=l/\l<=m/\m<=s.length)/\K (.str ((s.take m.toNat).drop l.toNat))
  | _,_=>False
 | _=>False
def JL (K:PV->Prop) (v:PV):Prop:=
 match v with
 | .ig sz n f=>∃n' f',n'=n/\(∀i,i<n'->f' i=f i)/\K (.ig sz n' f')
 | .str s=>∃s',s=s'/\K (.str s')
 | .own id g off n=>∃adD n',adD=off/\n'=n/\K (.own id g adD n')
 | v=>K v
def adq (n:Nat) (hi mx:Option PV):Prop:=
 match mx with
 | none=>True
 | some (.int _ q)=>match hi with
  | some (.int _ m)=>m<=q/\q<=n
  | _=>False
 | _=>False
def isByte:List PV->Bool
 | [.int .u8 _]=>true
 | _=>false
def byteOf:List PV->UInt8
 | [.int _ v]=>UInt8.ofNat v.toNat
 | _=>0
def xe (v:PV) (h:List ak) (K:List UInt8->Prop):Prop:=
 match v with
 | .cd=>K []
 | .ig sz n f=>ed (Nat.beq sz 1) (∃s:List UInt8,s.length=n/\(∀i,i<n->f i=[.int .u8 (s.getD i 0).toNat])/\K s)
 | .own id gen off n=>match dz h id with
  | .row g sz _ _ f=>g=gen/\ed (Nat.beq sz 1) (∃s:List UInt8,s.length=n/\(∀i,i<n->f (off+i)=[.int .u8 (s.getD i 0).toNat])/\K s)
  | .dead=>False
 | _=>False
def mr:PV->Bool
 | .agg _=>false
 | .fv _=>false
 | .jf=>false
 | .dY _ _ _ _ _=>false
 | _=>true
def storable:PV->Bool
 | .agg cs=>cs.all mr
 | v=>mr v
def qb (env:Env) (sz:Nat) (fl:List (Nat×Nat×Bool)) (K:List PV->Prop):List (Nat×Operand)->List PV->Prop
 | [],acc=>K acc
 | (k,x)::r,acc=>match fl[k]? with
  | some (o,size,_)=>force (ev env x) λv=>ed (storable v&&Nat.beq (cellsOf v).length size&&Nat.ble (o+size) sz) (qb env sz fl K r (gF acc o (cellsOf v)))
  | none=>False
def u6 (env:Env) (K:List (Nat×Nat)->Prop):List Operand->List (Nat×Nat)->Prop
 | [],acc=>K acc.reverse
 | x::r,acc=>match ev env x with
  | .aC id gen 0 0=>u6 env K r ((id,gen)::acc)
  | _=>False
def de (T:o9) (op:Op) (env:Env) (h:List ak) (K:PV->Prop):Prop:=
 match op with
 | .move x=>force (ev env x) K
 | .assign x=>force (ev env x) K
 | .pick c a b=>match ev env c with
  | .bool t=>gJ t (force (ev env a) K) (force (ev env b) K)
  | _=>False
 | .binOp bo t x y _=>Rk (T.get t) bo (ev env x) (ev env y) K
 | .unOp u _ x=>match u,ev env x with
  | .not,.bool b=>K (.bool !b)
  | .neg,.int k n=>K (.int k (k.wrap (0 - n)))
  | _,_=>False
 | .load t a=>yh T t (ev env a) h K
 | .convert s d x=>match T.get s,T.get d,ev env x with
  | .int _,.int k,.int _ n=>K (.int k (k.wrap n))
  | .slice e _ _ _,.str,v=>match T.get e with
   | .int .u8=>xe v h (λs=>K (.str s))
   | _=>False
  | _,_,_=>False
 | .nilCheck x=>match ev env x with
  | .gB cs=>K (.gB cs)
  | .aC id gen i off=>match dz h id with
   | .row g _ _ _ _=>g=gen/\K (.aC id gen i off)
   | .dead=>False
  | _=>False
 | .fieldAddr s x k=>match T.get s with
  | .struct _ fl _=>match fl[k]? with
   | some (o,_,_)=>match ev env x with
    | .gB cs=>K (.gB (cs.drop o))
    | .aC id gen i off=>match dz h id with
     | .row g _ _ _ _=>g=gen/\K (.aC id gen i (off+o))
     | .dead=>False
    | _=>False
   | none=>False
  | _=>False
 | .field s x k=>match T.get s with
  | .struct _ fl _=>match fl[k]? with
   | some (o,size,ag)=>match ev env x with
    | .agg cs=>match ag with
     | true=>FB (λl=>K (.agg l)) size (cs.drop o) []
     | false=>match cs.drop o with
      | c::_=>force c K
      | []=>False
    | _=>False
   | none=>False
  | _=>False
 | .build t parts=>match T.get t with
  | .struct sz fl z=>qb env sz fl (λcs=>K (.agg cs)) parts.toList z
  | _=>False
 | .indexAddr t x i=>match T.get t,ev env x,ev env i with
  | .slice _ sz _ _,.ig cr n f,.int _ i=>ed (Nat.beq sz cr) ((0<=i/\i<n)/\∃c,f i.toNat=c/\K (.gB c))
  | .slice _ sz _ _,.own id gen off len,.int _ i=>match dz h id with
   | .row g cr _ e' _=>g=gen/\ed (Nat.beq sz cr&&!Nat.beq e' aar) ((0<=i/\i<len)/\∃j,off+i.toNat=j/\K (.aC id gen j 0))
   | .dead=>False
  | _,_,_=>False
 | .index t x i=>match T.get t,ev env x,ev env i with
  | .str,.str s,.int _ i=>(0<=i/\i<s.length)/\∃c,s.getD i.toNat 0=c/\K (.int .u8 (c:UInt8).toNat)
  | _,_,_=>False
 | .lookup t x i ok=>match T.get t,ev env x with
  | .map kt _ zv,.oL id=>match dz h id with
   | .row _ _ n _ f=>force (ev env i) λkv=>ed (nE (T.get kt) kv kv).isSome (∃r b,ago (T.get kt) f n kv zv r b/\match ok with
    | true=>K (.fv [r,.bool b])
    | false=>force r K)
   | .dead=>False
  | _,_=>False
 | .makeFunc fn first captured=>match fn with
  | .func f=>ed first.isEmpty (u6 env (λcH=>K (.qE f cH)) captured.toList [])
  | _=>False
 | .extract x i=>match ev env x with
  | .fv vs=>match vs[i]? with
   | some v=>force v K
   | none=>False
  | _=>False
 | .slice t x lo hi mx=>match T.get t,ev env x with
  | .slice _ sz _ _,.ig cr n f=>ed (Nat.beq sz cr) (adq n (hi.map (ev env)) (mx.map (ev env))/\Cy (.ig cr n f) (lo.map (ev env)) (hi.map (ev env)) (JL K))
  | .slice _ sz _ _,.own id gen off len=>match dz h id with
   | .row g cr _ _ _=>g=gen/\ed (Nat.beq sz cr) (adq len (hi.map (ev env)) (mx.map (ev env))/\Cy (.own id gen off len) (lo.map (ev env)) (hi.map (ev env)) (JL K))
   | .dead=>False
  | .str,.str s=>ed mx.isNone (Cy (.str s) (lo.map (ev env)) (hi.map (ev env)) (JL K))
  | _,_=>False
 | .call ⟨.builtin .len,args,ts⟩=>match args.toList,ts.toList with
  | [x],[t]=>match T.get t,ev env x with
   | .slice _ _ _ _,.ig _ n _=>K (.int .i64 n)
   | .slice _ _ _ _,.cd=>K (.int .i64 0)
   | .slice _ _ _ _,.own id gen _ n=>match dz h id with
    | .row g _ _ _ _=>g=gen/\K (.int .i64 n)
    | .dead=>False
   | .str,.str s=>K (.int .i64 s.length)
   | .map _ _ _,.oL id=>match dz h id with
    | .row _ _ n _ _=>K (.int .i64 n)
    | .dead=>False
   | _,_=>False
  | _,_=>False
 | _=>False
def lD:TI->Nat
 | .struct sz _ _=>sz
 | .other=>0
 | _=>1
def Cq:TI->Option (List PV)
 | .int k=>some [.int k 0]
 | .bool=>some [.bool false]
 | .str=>some [.str []]
 | .slice _ _ _ _=>some [.cd]
 | .struct _ _ z=>some z
 | _=>none
def z7 (len:Nat):Nat->List (Nat×Operand)->Bool
 | k,[]=>Nat.beq k len
 | k,(i,_)::r=>Nat.beq i k&&z7 len (k+1) r
def rr (env:Env) (sz:Nat) (K:List (List PV)->Prop):List (Nat×Operand)->List (List PV)->Prop
 | [],acc=>K acc.reverse
 | (_,x)::r,acc=>force (ev env x) λv=>ed (storable v&&Nat.beq (cellsOf v).length sz) (rr env sz K r (cellsOf v::acc))
theorem z8 {env:Env} {sz:Nat} {K:List (List PV)->Prop}:∀(l:List (Nat×Operand)) (acc:List (List PV)),rr env sz K l acc->
  (∀p∈l,storable (ev env p.2)=true/\Nat.beq (cellsOf (ev env p.2)).length sz=true)/\K (acc.reverse++l.map λp=>cellsOf (ev env p.2))
 | [],acc,h=>⟨λp hp=>by simp at hp,by simp only [aIr,aII];exact h⟩
 | (i,x)::r,acc,h=>by
  obtain ⟨h1,h2⟩:=bI (cK h)
  simp only [As] at h1
  obtain ⟨h3,h4⟩:=z8 r _ h2
  refine ⟨λp hp=>?_,by simpa using h4⟩
  simp only [aHM] at hp
  rcases hp with rfl | hp
  ·exact h1
  ·exact h3 p hp
def noO:List PV->Bool
 | []=>true
 | .dY _ _ _ _ _::_=>false
 | _::r=>noO r
def Kv (x:PV) (h:List ak) (sz:Nat) (K:Nat->(Nat->List PV)->Prop):Prop:=
 match x with
 | .cd=>K 0 (λ_=>[])
 | .ig cr m g=>ed (Nat.beq sz cr) (K m g)
 | .own id gen off m=>match dz h id with
  | .row g cr _ _ f=>g=gen/\(∀i,i<m->noO (f (off+i))=true)/\ed (Nat.beq sz cr) (K m (λi=>f (off+i)))
  | .dead=>False
 | .str s=>ed (Nat.beq sz 1)<|K s.length (λi=>[.int .u8 (s.getD i 0).toNat])
 | _=>False
def vJ (e sz bytes:Nat) (s x:PV) (h:List ak) (K:PV->List ak->Prop):Prop:=
 match s with
 | .cd=>Kv x h sz λm g=>m*bytes<=140737488355328/\∃n' f',n'=m/\(∀i,i<n'->nY (g i) (f' i))/\K (.own h.length 0 0 n') (h++[.row 0 sz n' e f'])
 | .own id gen off len=>match dz h id with
  | .row g cr _ e' f=>g=gen/\ed (Nat.beq sz cr&&Nat.beq e e') (Kv x h sz λm q=>(len+m)*bytes<=140737488355328/\∃n' f',n'=len+m/\
    (∀i,i<n'->nY (bif Nat.blt i len then f (off+i) else q (i - len)) (f' i))/\
    K (.own id (gen+1) 0 n') (h.set id (.row (gen+1) sz n' e f')))
  | .dead=>False
 | _=>False
def Mo (f:Nat->List PV) (n:Nat) (q:Nat->List PV):Nat->List PV:=λi=>bif Nat.blt i n then f i else q (i - n)
def KA (e sz bytes:Nat) (s x:PV) (h:List ak) (K:PV->List ak->Prop):Prop:=
 match s,x with
 | .cd,.own kZ Z7 0 m=>match dz h kZ with
  | .row g' lG _ _ q=>g'=Z7/\ed (Nat.beq sz lG) (m*bytes<=140737488355328/\K (.own h.length 1 0 m) (((h++[ak.row 0 sz 0 e (λ_=>[])]).set h.length (ak.row 1 sz m e q)).set kZ ak.dead))
  | .dead=>False
 | .own id gen 0 len,.own kZ Z7 0 m=>match dz h id with
  | .row g cr _ e' f=>match dz h kZ with
   | .row g' lG _ _ q=>g=gen/\g'=Z7/\ed (Nat.beq sz cr&&(Nat.beq e e'&&(Nat.beq sz lG&&!Nat.beq kZ id))) ((len+m)*bytes<=140737488355328/\K (.own id (gen+1) 0 (len+m)) ((h.set id (ak.row (gen+1) sz (len+m) e (Mo f len q))).set kZ ak.dead))
   | .dead=>False
  | .dead=>False
 | _,_=>False
inductive NJ (e sz bytes:Nat) (s x:PV) (h:List ak) (K:PV->List ak->Prop):Prop
 | fx (hp:vJ e sz bytes s x h K)
 | move (hp:KA e sz bytes s x h K)
def cpF (f:Nat->List PV) (off m:Nat) (q:Nat->List PV):Nat->List PV:=λi=>bif Nat.blt i off then f i else bif Nat.blt i (off+m) then q (i - off) else f i
def C7 (e sz:Nat) (s x:PV) (h:List ak) (K:PV->List ak->Prop):Prop:=
 match s with
 | .own id gen off len=>match dz h id with
  | .row g cr n e' f=>g=gen/\ed (Nat.beq sz cr&&Nat.beq e e') (Kv x h sz λm q=>m<=len/\∃f',(∀i,i<n->nY (cpF f off m q i) (f' i))/\K (.int .i64 m) (h.set id (.row g sz n e f')))
  | .dead=>False
 | _=>False
def nu:PV->Bool
 | .fv _=>false
 | _=>true
inductive pA (P:Program) (f:FuncId) (args:List PV) (h:List ak) (K:PV->List ak->Prop):Prop
 | mk (R:PV->List ak->Prop) (hA:ACall P f args h R) (hk:∀res h',R res h'->K res h')
def pop (P:Program) (T:o9) (op:Op) (env:Env) (h:List ak) (K:PV->List ak->Prop):Prop:=
 match op with
 | .store t a x=>match ev env a with
  | .aC id gen i off=>match dz h id with
   | .row g sz n e f=>g=gen/\force (ev env x) λv=>ed (storable v&&Nat.ble 1 (lD (T.get t))&&Nat.beq (lD (T.get t)) (cellsOf v).length&&Nat.ble (off+(cellsOf v).length) sz)
     (∃c f',f i=c/\(∀j,j<n->nY (dV f i (gF c off (cellsOf v)) j) (f' j))/\K .jf (h.set id (.row g sz n e f')))
   | .dead=>False
  | _=>False
 | .box t x=>force (ev env x) λv=>ed (storable v&&Nat.beq (cellsOf v).length (lD (T.get t))) (K (.aC h.length 0 0 0) (h++[.row 0 (lD (T.get t)) 1 t (λ_=>cellsOf v)]))
 | .alloc t=>match Cq (T.get t) with
  | some z=>K (.aC h.length 0 0 0) (h++[.row 0 (lD (T.get t)) 1 t (λ_=>z)])
  | none=>False
 | .makeSlice t l c=>match T.get t,ev env l,ev env c with
  | .slice e sz bytes zero,.int _ n,.int _ m=>(0<=n/\n<=m/\m<=4611686018427387904/\m.toNat*bytes<=140737488355328)/\∃n' f',n'=n.toNat/\(∀i,i<n'->nY zero (f' i))/\K (.own h.length 0 0 n') (h++[.row 0 sz n' e f'])
  | _,_,_=>False
 | .buildSlice t len parts=>match T.get t with
  | .slice e sz _ _=>ed (z7 len 0 parts.toList&&Nat.ble (len*sz) 65536) (rr env sz (λcs=>∃f',(∀i,i<len->nY (cs.getD i []) (f' i))/\K (.own h.length 0 0 len) (h++[.row 0 sz len e f'])) parts.toList [])
  | _=>False
 | .convert s d x=>match T.get s,T.get d,ev env x with
  | .str,.slice e _ _ _,.str b=>match T.get e with
   | .int .u8=>∃f',(∀i,i<b.length->f' i=[.int .u8 (b.getD i 0).toNat])/\K (.ig 1 b.length f') h
   | _=>False
  | _,_,_=>de T (.convert s d x) env h (λv=>K v h)
 | .binOp bo t x y ty=>match bo,T.get t,ev env x,ev env y with
  | .eql,.slice _ _ _ _,.ig _ n _,.cd=>(n=0->K (.bool true) h)/\K (.bool false) h
  | _,_,_,_=>de T (.binOp bo t x y ty) env h (λv=>K v h)
 | .makeMap t none=>match T.get t with
  | .map _ _ _=>∃f',K (.oL h.length) (h++[.row 0 2 0 t f'])
  | _=>False
 | .mapUpdate t m k x=>match T.get t,ev env m with
  | .map kt _ _,.oL id=>match dz h id with
   | .row g sz n e f=>force (ev env k) λkv=>force (ev env x) λvv=>ed ((nE (T.get kt) kv kv).isSome&&ko vv&&storable vv&&Nat.beq sz 2)
     (∃n' f',aGa (T.get kt) f n kv vv n' f'/\K .jf (h.set id (.row (g+1) 2 n' e f')))
   | .dead=>False
  | _,_=>False
 | .call ⟨.builtin .append,args,ts⟩=>match args.toList,ts.toList with
  | [s,x],[t,tx]=>match T.get t,T.get tx with
   | .slice e sz bytes _,.slice _ _ _ _=>NJ e sz bytes (ev env s) (ev env x) h K
   | .slice e sz bytes _,.str=>NJ e sz bytes (ev env s) (ev env x) h K
   | _,_=>False
  | _,_=>False
 | .call ⟨.builtin .copy,args,ts⟩=>match args.toList,ts.toList with
  | [s,x],[t,tx]=>match T.get t,T.get tx with
   | .slice e sz _ _,.slice _ _ _ _=>C7 e sz (ev env s) (ev env x) h K
   | .slice e sz _ _,.str=>C7 e sz (ev env s) (ev env x) h K
   | _,_=>False
  | _,_=>False
 | .call ⟨.value fo,args,_⟩=>match ev env fo with
  | .fn f=>ed (args.toList.all (λx=>nu (ev env x))) (pA P f (args.toList.map (ev env)) h K)
  | .qE f cH=>ed (args.toList.all (λx=>nu (ev env x))) (pA P f (args.toList.map (ev env)++cH.map λp=>.aC p.1 p.2 0 0) h K)
  | _=>False
 | op=>de T op env h (λv=>K v h)
def rn (P:Program) (T:o9) (all:List Oper) (K:Env->List ak->Prop) (l:List Oper):Env->List ak->Prop:=
 List.rec (motive:=λ_=>Env->List ak->Prop) K (λo _ ih env h=>match o.guard with
  | none=>pop P T o.op env h (λv h'=>ih (ee env o.dst v) h')
  | some (j,want)=>match (all[j]?).bind (·.dst) with
   | some t=>match env t with
    | .bool b=>gJ b
      (match want with
       | true=>pop P T o.op (qs env t (.bool true)) h (λv h'=>ih (ee (qs env t (.bool true)) o.dst v) h')
       | false=>ih (ee (qs env t (.bool true)) o.dst (.fv [])) h)
      (match want with
       | true=>ih (ee (qs env t (.bool false)) o.dst (.fv [])) h
       | false=>pop P T o.op (qs env t (.bool false)) h (λv h'=>ih (ee (qs env t (.bool false)) o.dst v) h'))
    | .fv []=>ih (ee env o.dst (.fv [])) h
    | _=>False
   | none=>False) l
abbrev XQ:=Exit->Env->List ak->Prop
def XQ.then (next:Env->List ak->Prop) (Q:XQ):XQ
 | .normal,env,h=>next env h
 | e,env,h=>Q e env h
def XQ.inBlock (id:Nat) (Q:XQ):XQ
 | .exit id',env,h=>match Nat.beq id' id with
  | true=>Q .normal env h
  | false=>Q (.exit id') env h
 | e,env,h=>Q e env h
def PH (h η:List ak) (k:List Nat) (env:Env):List (Nat×PV)->Prop
 | []=>True
 | (t,v)::r=>Fz h η k (env t) v/\PH h η k env r
def qe (h η:List ak) (k:List Nat) (m:Nat):Nat->List ak->List Nat->Prop
 | _,[],[]=>True
 | i,o::r,id::r'=>yN h η k m o i id/\qe h η k m (i+1) r r'
 | _,_,_=>False
def vi (m:Nat) (env:Env) (h:List ak) (σ:List (Nat×PV)) (η:List ak):Prop:=
 ∃k:List Nat,pg (oR η k)=true/\m<=k.length/\PH h η k env σ/\qe h η k m 0 η k
def ot:Env:=λ_=>.jf
def J5 (h h1:List ak):Prop:=∃(id g sz n:Nat) (e:TypeId) (f:Nat->List PV) (i j cr n':Nat) (e':TypeId) (f':Nat->List PV) (F:Nat->Prop) (f1:Nat->List PV),h[id]? =some (ak.row g sz n e f)/\i<n/\
 (f i)[j]? =some (.dY cr n' e' f' F)/\f1 i=(f i).set j (.own h.length 0 0 n')/\(∀k,k<n->k≠i->f1 k=f k)/\h1=h.set id (.row g sz n e f1)++[.row 0 cr n' e' f']
def AL (h:List ak) (id i j sub:Nat) (F:Nat->Prop) (h1:List ak):Prop:=∃(g sz n:Nat) (e:TypeId) (f:Nat->List PV) (g2 lG n2:Nat) (e2:TypeId) (f2 f1:Nat->List PV),h[id]? =some (ak.row g sz n e f)/\h[sub]? =some (ak.row g2 lG n2 e2 f2)/\
 id≠sub/\i<n/\(f i)[j]? =some (.own sub g2 0 n2)/\(∀k,k<n2->∀c,c∈f2 k->cu c=true\/dW c=true)/\f1 i=(f i).set j (.dY lG n2 e2 f2 F)/\(∀k,k<n->k≠i->f1 k=f k)/\
 h1=(h.set id (.row g sz n e f1)).set sub .dead
inductive qK (m:Nat) (body:(Env->List ak->Prop)->Env->List ak->Prop):Env->List ak->Prop
 | take {env:Env} {h:List ak} (σ:List (Nat×PV)) (η:List ak) (ht:vi m env h σ η) (hk:qK m body (zC ot σ) η):qK m body env h
 | step {env:Env} {h:List ak} (N:Env->List ak->Prop) (hN:∀e h',N e h'->qK m body e h') (hb:body N env h):qK m body env h
 | ex {env:Env} {h:List ak} (h1:List ak) (hx:J5 h h1) (hk:qK m body env h1):qK m body env h
 | ab {env:Env} {h:List ak} (id i j sub:Nat) (h1:(Nat->Prop)->List ak) (ha:∀F,AL h id i j sub F (h1 F)) (hk:∀F,qK m body env (h1 F)):qK m body env h
def aQ (m:Nat) (body:(Env->List ak->Prop)->Env->List ak->Prop) (σ:List (Nat×PV)) (η:List ak):Prop:=qK m body (zC ot σ) η
inductive loopGo (m:Nat) (body:(Env->List ak->Prop)->Env->List ak->Prop) (env:Env):List ak->Prop
 | mk {h:List ak} (σ:List (Nat×PV)) (η:List ak) (ht:vi m env h σ η) (hk:aQ m body σ η):loopGo m body env h
 | ex {h:List ak} (h1:List ak) (hx:J5 h h1) (hk:loopGo m body env h1):loopGo m body env h
 | ab {h:List ak} (id i j sub:Nat) (h1:(Nat->Prop)->List ak) (ha:∀F,AL h id i j sub F (h1 F)) (hk:∀F,loopGo m body env (h1 F)):loopGo m body env h
theorem loopGo.to {m:Nat} {body:(Env->List ak->Prop)->Env->List ak->Prop} {env:Env} {h:List ak} (hg:loopGo m body env h):qK m body env h:=by
 induction hg with
 | mk σ η ht hk=>exact .take σ η ht hk
 | ex h1 hx hk ih=>exact .ex h1 hx ih
 | ab id i j sub h1 ha hk ih=>exact .ab id i j sub h1 ha ih
theorem aQ.enter {m:Nat} {body:(Env->List ak->Prop)->Env->List ak->Prop} {env:Env} {h:List ak} (σ:List (Nat×PV)) (η:List ak) (ht:vi m env h σ η) (hk:aQ m body σ η):qK m body env h:=.take σ η ht hk
theorem aQ.round {m:Nat} {body:(Env->List ak->Prop)->Env->List ak->Prop} {σ:List (Nat×PV)} {η:List ak} (hb:body (loopGo m body) (zC ot σ) η):aQ m body σ η:=
 .step (loopGo m body) (λ_ _ hg=>hg.to) hb
inductive ym (m:Nat) (J:List (Nat×PV)->List ak->Prop) (env:Env):List ak->Prop
 | mk {h:List ak} (σ:List (Nat×PV)) (η:List ak) (ht:vi m env h σ η) (hj:J σ η):ym m J env h
 | ex {h:List ak} (h1:List ak) (hx:J5 h h1) (hk:ym m J env h1):ym m J env h
 | ab {h:List ak} (id i j sub:Nat) (h1:(Nat->Prop)->List ak) (ha:∀F,AL h id i j sub F (h1 F)) (hk:∀F,ym m J env (h1 F)):ym m J env h
inductive vj (m:Nat) (A B:XQ->Env->List ak->Prop) (Q:XQ) (env:Env):List ak->Prop
 | direct {h:List ak} (hd:A (XQ.then (B Q) Q) env h):vj m A B Q env h
 | cut {h:List ak} (J:List (Nat×PV)->List ak->Prop) (ha:A (XQ.then (ym m J) Q) env h) (hb:∀σ η,J σ η->B Q (zC ot σ) η):vj m A B Q env h
 | ex {h:List ak} (h1:List ak) (hx:J5 h h1) (hk:vj m A B Q env h1):vj m A B Q env h
 | ab {h:List ak} (id i j sub:Nat) (h1:(Nat->Prop)->List ak) (ha:∀F,AL h id i j sub F (h1 F)) (hk:∀F,vj m A B Q env (h1 F)):vj m A B Q env h
def Fy:Op->Bool
 | .call ⟨.value _,_,_⟩=>false
 | .call ⟨.builtin .append,_,_⟩=>false
 | .call ⟨.builtin .copy,_,_⟩=>false
 | .store _ _ _=>false
 | .box _ _=>false
 | .alloc _=>false
 | .makeSlice _ _ _=>false
 | .buildSlice _ _ _=>false
 | .makeMap _ _=>false
 | .mapUpdate _ _ _ _=>false
 | _=>true
def xE:PV->Bool
 | .int _ _=>true
 | .bool _=>true
 | .str _=>true
 | .cd=>true
 | _=>false
def aah (P:Program) (fo:PV) (args:List PV) (h:List ak) (K:PV->Prop):Prop:=
 match fo with
 | .fn f=>ed (args.all nu) (∃(my:List PV) (v:PV),Aa h [] [] args my/\my.all nu=true/\ACall P f my [] (λres _=>res=v)/\ed (xE v) (K v))
 | _=>False
def qop (P:Program) (T:o9) (op:Op) (env:Env) (h:List ak) (K:PV->Prop):Prop:=
 match op with
 | .call ⟨.value fo,args,_⟩=>aah P (ev env fo) (args.toList.map (ev env)) h K
 | op=>de T op env h K
def xt (P:Program) (T:o9) (all:List Oper) (h:List ak) (K:Env->Prop) (l:List Oper):Env->Prop:=
 List.rec (motive:=λ_=>Env->Prop) K (λo _ ih env=>match o.guard with
  | none=>qop P T o.op env h (λv=>ih (ee env o.dst v))
  | some (j,want)=>match (all[j]?).bind (·.dst) with
   | some t=>match env t with
    | .bool b=>gJ b
      (match want with
       | true=>qop P T o.op (qs env t (.bool true)) h (λv=>ih (ee (qs env t (.bool true)) o.dst v))
       | false=>ih (ee (qs env t (.bool true)) o.dst (.fv [])))
      (match want with
       | true=>ih (ee (qs env t (.bool false)) o.dst (.fv []))
       | false=>qop P T o.op (qs env t (.bool false)) h (λv=>ih (ee (qs env t (.bool false)) o.dst v)))
    | .fv []=>ih (ee env o.dst (.fv []))
    | _=>False
   | none=>False) l
def j8:List Nat->Nat->Bool
 | [],_=>false
 | a::r,x=>match Nat.beq a x with
  | true=>true
  | false=>j8 r x
def aec (done:List Nat):Nat->List Oper->List Nat
 | _,[]=>[]
 | j,o::r=>match j8 done j||!(o.after.toList.all λe=>!(Region.binds .any e)||j8 done e.on) with
  | true=>aec done (j+1) r
  | false=>j::aec done (j+1) r
def alI:List Nat->(Nat->Prop)->Prop
 | [],_=>True
 | [i],F=>F i
 | i::r,F=>F i/\alI r F
def alJ (P:Program) (T:o9) (all:List Oper) (K:Env->List ak->Prop):Nat->List Nat->Env->List ak->Prop
 | 0,_,env,h=>K env h
 | f+1,done,env,h=>alI (aec done 0 all) (λi=>match all[i]? with
  | some o=>rn P T all (λenv' h'=>alJ P T all K f (i::done) env' h') [o] env h
  | none=>False)
def aai (ops:Array Oper):Nat->Array Bool->List Nat->Bool
 | 0,listed,_=>(Region.ready .any ops listed).isEmpty
 | f+1,listed,done=>!(Region.ready .any ops listed).isEmpty&&(Region.ready .any ops listed).all (λi=>j8 (aec done 0 ops.toList) i&&aai ops f (listed.setIfInBounds i true) (i::done))
def tT:PV->List Nat
 | .own id _ _ _=>[id]
 | .aC id _ _ _=>[id]
 | .oL id=>[id]
 | .qE _ cH=>cH.map (·.1)
 | _=>[]
def ku (env:Env) (op:Op):List Nat:=match op with | .move _=>[] | _=>op.operands.toList.flatMap λx=>tT (ev env x)
def aal (o:Oper):List Nat:=o.after.toList.filterMap λe=>match Region.binds .any e with | true=>some e.on | false=>none
def bZ (all:List Oper) (i:Nat):List Nat:=match all[i]? with | some o=>aal o | none=>[]
def dD:List (Nat×List Nat)->Nat->List Nat
 | [],_=>[]
 | (j,A)::r,i=>match Nat.beq j i with | true=>A | false=>dD r i
def ddL:List Nat->List Nat->List Nat
 | [],acc=>acc
 | a::r,acc=>match j8 acc a with | true=>ddL r acc | false=>ddL r (a::acc)
def sh (all:List Oper):List (Nat×Bool)->List (Nat×List Nat)->List (Nat×List Nat)
 | [],t=>t
 | (i,_)::r,t=>sh all r ((i,ddL (bZ all i++(bZ all i).flatMap (dD t)) [])::t)
def qN (ops:Array Oper) (i j:Nat):Bool:=match ops[i]?,ops[j]? with | some x,some y=>Oper.apart ops x y | _,_=>false
def fp (ops:Array Oper) (t:List (Nat×List Nat)) (p i:Nat×Bool):Bool:=
 !(Nat.beq p.1 i.1)&&!(j8 (bZ ops.toList p.1) i.1)&&(j8 (bZ ops.toList i.1) p.1||(qN ops p.1 i.1&&(p.2||j8 (dD t i.1) p.1)))
def bN (ops:Array Oper) (t:List (Nat×List Nat)):List (Nat×Bool)->Bool
 | []=>true
 | p::r=>r.all (fp ops t p)&&bN ops t r
def Qb (ops:Array Oper) (ord:List (Nat×Bool)):Bool:=
 Nat.beq ord.length ops.size&&(List.range ops.size).all (λj=>j8 (ord.map (·.1)) j)&&ord.all (λp=>Nat.blt p.1 ops.size&&(bZ ops.toList p.1).all (λd=>Nat.blt d ops.size&&!(Nat.beq d p.1)))&&bN ops (sh ops.toList ord []) ord
def Hh (h h':List ak) (K:Prop):List Nat->Prop
 | []=>K
 | id::r=>dz h id=dz h' id/\Hh h h' K r
def ou (anc:List Nat) (h h':List ak) (K:Prop):List (Nat×List Nat)->Prop
 | []=>K
 | (j,ids)::r=>match j8 anc j with
  | true=>ou anc h h' K r
  | false=>Hh h h' (ou anc h h' K r) ids
def Er (P:Program) (T:o9) (st:Bool) (op:Op) (env:Env) (h:List ak) (G:PV->List ak->Prop):Prop:=
 match st with
 | true=>de T op env h (λv=>G v h)
 | false=>pop P T op env h G
def qP (P:Program) (T:o9) (all:List Oper) (st:Bool) (o:Oper) (F:Env->PV->List ak->Prop) (env:Env) (h:List ak):Prop:=
 match o.guard with
 | none=>Er P T st o.op env h (F env)
 | some (j,want)=>match (all[j]?).bind (·.dst) with
  | some t=>match env t with
   | .bool b=>gJ b
     (match want with
      | true=>Er P T st o.op (qs env t (.bool true)) h (F (qs env t (.bool true)))
      | false=>F (qs env t (.bool true)) (.fv []) h)
     (match want with
      | true=>F (qs env t (.bool false)) (.fv []) h
      | false=>Er P T st o.op (qs env t (.bool false)) h (F (qs env t (.bool false))))
   | .fv []=>F env (.fv []) h
   | _=>False
  | none=>False
def fw (P:Program) (T:o9) (all:List Oper) (t:List (Nat×List Nat)) (K:Env->List ak->Prop) (l:List (Nat×Bool)):List (Nat×List Nat)->Env->List ak->Prop:=
 List.rec (motive:=λ_=>List (Nat×List Nat)->Env->List ak->Prop) (λ_ env h=>K env h) (λp _ ih bP env h=>match all[p.1]? with
  | some o=>match p.2 with
   | true=>qP P T all true o (λenv' v h'=>ih ((p.1,ku env' o.op)::bP) (ee env' o.dst v) h') env h
   | false=>qP P T all false o (λenv' v h'=>ou (dD t p.1) h h' (ih bP (ee env' o.dst v) h') bP) env h
  | none=>False) l
def KL (ops:Array Oper) (ord:List (Nat×Bool)) (x:Nat) (ra:List (Nat×Bool)) (y:Nat) (rb:List (Nat×Bool)):Bool:=
 Nat.beq (ord.length+(ra.length+1)) ops.size&&Nat.beq rb.length ra.length&&(List.range ops.size).all (λj=>j8 ((ord++(x,false)::ra).map (·.1)) j)&&(ord++(x,false)::ra).all (λp=>Nat.blt p.1 ops.size&&(bZ ops.toList p.1).all (λd=>Nat.blt d ops.size&&!(Nat.beq d p.1)))&&
  bN ops (sh ops.toList (ord++(x,false)::ra) []) (ord++ra)&&bN ops (sh ops.toList (ord++(x,false)::ra) []) (ord++rb)&&
  ord.all (λp=>fp ops (sh ops.toList (ord++(x,false)::ra) []) p (x,false)&&fp ops (sh ops.toList (ord++(x,false)::ra) []) p (y,false)&&(bZ ops.toList p.1).all (λd=>!(j8 (((x,false)::ra).map (·.1)) d)))&&
  (((x,false)::ra).map (·.1)).all (λj=>j8 (((y,false)::rb).map (·.1)) j)&&(((y,false)::rb).map (·.1)).all (λj=>j8 (((x,false)::ra).map (·.1)) j)&&
  (bZ ops.toList x).all (λd=>!(j8 (((x,false)::ra).map (·.1)) d))&&!(j8 (ra.map (·.1)) x)&&!(j8 (rb.map (·.1)) y)&&
  ra.all (λp=>Nat.beq p.1 y||j8 (dD (sh ops.toList (ord++(x,false)::ra) []) p.1) x||j8 (dD (sh ops.toList (ord++(x,false)::ra) []) p.1) y)
def fw2 (P:Program) (T:o9) (all:List Oper) (t:List (Nat×List Nat)) (A B:List (Nat×Bool)) (K:Env->List ak->Prop) (l:List (Nat×Bool)):List (Nat×List Nat)->Env->List ak->Prop:=
 List.rec (motive:=λ_=>List (Nat×List Nat)->Env->List ak->Prop) (λbP env h=>fw P T all t K A bP env h/\fw P T all t K B bP env h) (λp _ ih bP env h=>match all[p.1]? with
  | some o=>match p.2 with
   | true=>qP P T all true o (λenv' v h'=>ih ((p.1,ku env' o.op)::bP) (ee env' o.dst v) h') env h
   | false=>qP P T all false o (λenv' v h'=>ou (dD t p.1) h h' (ih bP (ee env' o.dst v) h') bP) env h
  | none=>False) l
def fwE (P:Program) (T:o9) (all:List Oper) (t:List (Nat×List Nat)) (E:List (Nat×List Nat)->Env->List ak->Prop) (l:List (Nat×Bool)):List (Nat×List Nat)->Env->List ak->Prop:=
 List.rec (motive:=λ_=>List (Nat×List Nat)->Env->List ak->Prop) (λbP env h=>E bP env h) (λp _ ih bP env h=>match all[p.1]? with
  | some o=>match p.2 with
   | true=>qP P T all true o (λenv' v h'=>ih ((p.1,ku env' o.op)::bP) (ee env' o.dst v) h') env h
   | false=>qP P T all false o (λenv' v h'=>ou (dD t p.1) h h' (ih bP (ee env' o.dst v) h') bP) env h
  | none=>False) l
def NV (ops:Array Oper) (t:List (Nat×List Nat)) (ord:List (Nat×Bool)) (x y:Nat) (RX RY:List Nat):Bool:=
 Nat.beq RX.length RY.length&&ord.all (λp=>fp ops t p (x,false)&&fp ops t p (y,false)&&(bZ ops.toList p.1).all (λd=>!(j8 (x::RX) d))&&!(j8 (x::RX) p.1))&&
  (x::RX).all (λj=>j8 (y::RY) j)&&(y::RY).all (λj=>j8 (x::RX) j)&&(bZ ops.toList x).all (λd=>!(j8 (x::RX) d))&&!(j8 RX x)&&!(j8 RY y)&&
  RX.all (λj=>Nat.beq j y||j8 (dD t j) x||j8 (dD t j) y)
def Dj (ops:Array Oper) (ord:List (Nat×Bool)) (x:Nat) (o1:List (Nat×Bool)) (x1:Nat) (yP:List (Nat×Bool)) (y1:Nat) (KK:List (Nat×Bool)) (y:Nat) (rb:List (Nat×Bool)):Bool:=
 (λall=>(λt=>Nat.beq all.length ops.size&&(List.range ops.size).all (λj=>j8 (all.map (·.1)) j)&&all.all (λp=>Nat.blt p.1 ops.size&&(bZ ops.toList p.1).all (λd=>Nat.blt d ops.size&&!(Nat.beq d p.1)))&&
  bN ops t ((ord++o1)++yP)&&bN ops t ((ord++o1)++KK)&&bN ops t (ord++rb)&&
  NV ops t ord x y (o1.map (·.1)++x1::yP.map (·.1)) (rb.map (·.1))&&NV ops t (ord++o1) x1 y1 (yP.map (·.1)) (KK.map (·.1))) (sh ops.toList all [])) (ord++(x,false)::(o1++(x1,false)::yP))
def fw3 (P:Program) (T:o9) (all:List Oper) (t:List (Nat×List Nat)) (x:Nat) (o1:List (Nat×Bool)) (x1:Nat) (yP:List (Nat×Bool)) (y1:Nat) (KK:List (Nat×Bool)) (y:Nat) (rb:List (Nat×Bool)) (K:Env->List ak->Prop) (l:List (Nat×Bool)):List (Nat×List Nat)->Env->List ak->Prop:=
 fwE P T all t (λbP env h=>fwE P T all t (λbP env h=>fw P T all t K ((x1,false)::yP) bP env h/\fw P T all t K ((y1,false)::KK) bP env h) ((x,false)::o1) bP env h/\fw P T all t K ((y,false)::rb) bP env h) l
abbrev qO:=List (List (Nat×Bool)×Nat×Nat×List (Nat×Bool))
def Et:qO->List (Nat×Bool)->List (Nat×Bool)
 | [],fin=>fin
 | c::r,fin=>c.1++(c.2.1,false)::Et r fin
def fwC (P:Program) (T:o9) (all:List Oper) (t:List (Nat×List Nat)) (K:Env->List ak->Prop) (fin:List (Nat×Bool)) (cs:qO):List (Nat×List Nat)->Env->List ak->Prop:=
 List.rec (motive:=λ_=>List (Nat×List Nat)->Env->List ak->Prop) (λbP env h=>fw P T all t K fin bP env h)
  (λc _ ih bP env h=>fwE P T all t (λbP env h=>fwE P T all t ih [(c.2.1,false)] bP env h/\fw P T all t K ((c.2.2.1,false)::c.2.2.2) bP env h) c.1 bP env h) cs
def RU (ops:Array Oper) (t:List (Nat×List Nat)) (fin:List (Nat×Bool)):qO->List (Nat×Bool)->Bool
 | [],pre=>bN ops t (pre++fin)
 | c::r,pre=>NV ops t (pre++c.1) c.2.1 c.2.2.1 ((Et r fin).map (·.1)) (c.2.2.2.map (·.1))&&bN ops t ((pre++c.1)++c.2.2.2)&&RU ops t fin r (pre++c.1)
def Dl (ops:Array Oper) (cs:qO) (fin:List (Nat×Bool)):Bool:=
 (λall=>(λt=>Nat.beq all.length ops.size&&(List.range ops.size).all (λj=>j8 (all.map (·.1)) j)&&all.all (λp=>Nat.blt p.1 ops.size&&(bZ ops.toList p.1).all (λd=>Nat.blt d ops.size&&!(Nat.beq d p.1)))&&
  RU ops t fin cs []) (sh ops.toList all [])) (Et cs fin)
inductive vz (P:Program) (T:o9) (m:Nat) (ops:Array Oper) (K:Env->List ak->Prop) (env:Env) (h:List ak):Prop
 | quiet (hq:xt P T ops.toList h (λenv'=>K env' h) ops.toList env):vz P T m ops K env h
 | orders (σ:List (Nat×PV)) (η:List ak) (hc:aai ops ops.size (Array.replicate ops.size false) []=true) (hd:alJ P T ops.toList (λenv' h'=>vi m env' h' σ η) ops.toList.length [] env h)
   (hk:K (zC ot σ) η):vz P T m ops K env h
 | Md (ord:List (Nat×Bool)) (x:Nat) (ra:List (Nat×Bool)) (y:Nat) (rb:List (Nat×Bool)) (hc:KL ops ord x ra y rb=true) (hf:fw2 P T ops.toList (sh ops.toList (ord++(x,false)::ra) []) ((x,false)::ra) ((y,false)::rb) K ord [] env h):vz P T m ops K env h
 | XA (ord:List (Nat×Bool)) (x:Nat) (o1:List (Nat×Bool)) (x1:Nat) (yP:List (Nat×Bool)) (y1:Nat) (KK:List (Nat×Bool)) (y:Nat) (rb:List (Nat×Bool)) (hc:Dj ops ord x o1 x1 yP y1 KK y rb=true)
   (hf:fw3 P T ops.toList (sh ops.toList (ord++(x,false)::(o1++(x1,false)::yP)) []) x o1 x1 yP y1 KK y rb K ord [] env h):vz P T m ops K env h
 | YR (cs:qO) (fin:List (Nat×Bool)) (hc:Dl ops cs fin=true) (hf:fwC P T ops.toList (sh ops.toList (Et cs fin) []) K fin cs [] env h):vz P T m ops K env h
 | float (ord:List (Nat×Bool)) (hc:Qb ops ord=true) (hf:fw P T ops.toList (sh ops.toList ord []) K ord [] env h):vz P T m ops K env h
def Qa (Q:XQ) (env:Env) (h:List ak):Prop:=Q .normal env h
def aBh (Q:XQ) (h:List ak) (env:Env):Prop:=Q .normal env h
def vc (P:Program) (T:o9) (m:Nat) (c:Code):XQ->Env->List ak->Prop:=
 Code.rec (motive:=λ_=>XQ->Env->List ak->Prop)
  (λQ env h=>Q .normal env h)
  (λ_ ops d Q env h=>match d with
   | false=>rn P T ops.toList (Q .normal) ops.toList env h
   | true=>match ops.toList.all (λo=>Fy o.op) with
    | true=>xt P T ops.toList h (aBh Q h) ops.toList env
    | false=>vz P T m ops (Qa Q) env h)
  (λ_ _ iha ihb Q env h=>vj m iha ihb Q env h)
  (λc _ _ iha ihb Q env h=>match ev env c with
   | .bool t=>gJ t (iha Q env h) (ihb Q env h)
   | _=>False)
  (λid _ ih Q env h=>ih (XQ.inBlock id Q) env h)
  (λ_ ih Q env h=>qK m (λnext=>ih (XQ.then next Q)) env h)
  (λ_ _ _ _ _ _ _ _ _=>False)
  (λid Q env h=>Q (.exit id) env h)
  (λ_ _ _ _ _=>False)
  (λ_ Q env h=>Q .normal env h)
  (λ_ _ _ _=>False)
  (λQ env h=>Q .ret env h)
  (λ_ _ _ _=>False) c
def codeOk (nt:Nat):Code->Bool
 | .region _ ops d=>ops.toList.all (λo=>match o.dst with | some t=>Nat.blt t nt | none=>true)&&(!d||Region.lexB .any ops)
 | .seq a b=>codeOk nt a&&codeOk nt b
 | .cond _ a b=>codeOk nt a&&codeOk nt b
 | .block _ c=>codeOk nt c
 | .loop c=>codeOk nt c
 | _=>true
def vQ (T:o9) (env:Env) (h:List ak):List ResultVar->(List PV->Prop)->Prop
 | [],K=>K []
 | .tmp t::r,K=>vQ T env h r (λvs=>K (env t::vs))
 | .cell t ty::r,K=>yh T ty (env t) h (λv=>vQ T env h r (λvs=>K (v::vs)))
def oneOf:List PV->PV
 | [v]=>v
 | vs=>.fv vs
inductive Ends (m:Nat) (R:PV->List ak->Prop):List ak->List PV->Prop
 | mk {h:List ak} {vs:List PV} (hn:vs.all nu=true) (k:List Nat) (res:PV) (η:List ak) (hk:pg (oR η k)=true) (hm:m<=k.length) (hz:Fz h η k (oneOf vs) res) (hh:qe h η k m 0 η k) (hR:R res η):Ends m R h vs
 | ex {h:List ak} {vs:List PV} (h1:List ak) (hx:J5 h h1) (hk:Ends m R h1 vs):Ends m R h vs
 | ab {h:List ak} {vs:List PV} (id i j sub:Nat) (h1:(Nat->Prop)->List ak) (ha:∀F,AL h id i j sub F (h1 F)) (hk:∀F,Ends m R (h1 F) vs):Ends m R h vs
def aAO (T:o9) (rs:List ResultVar) (m:Nat) (R:PV->List ak->Prop):XQ
 | .ret,env,h=>vQ T env h rs (Ends m R h)
 | .normal,env,h=>vQ T env h rs (Ends m R h)
 | _,_,_=>False
def vq (args:List PV):Env:=λt=>args.getD t .jf
def NY (env env':Env) (op:Op):Prop:=∀x,x∈op.operands.toList->ev env x=ev env' x
def alK (h h':List ak) (env:Env) (op:Op):Prop:=∀x,x∈op.operands.toList->∀id,id∈tT (ev env x)->dz h id=dz h' id
theorem jK {v:PV} {K:PV->Prop} (h:K v):force v K:=by cases v<;>exact h
theorem Dn {env env':Env} {sz:Nat} {fl:List (Nat×Nat×Bool)} {K:List PV->Prop}:∀(l:List (Nat×Operand)) (acc:List PV),(∀p,p∈l->ev env p.2=ev env' p.2)->qb env sz fl K l acc=qb env' sz fl K l acc
 | [],acc,_=>rfl
 | (k,x)::r,acc,hs=>by
  have e:=hs (k,x) aKN
  simp only at e
  unfold qb
  rw [e]
  split
  ·congr 1
   funext v
   rw [Dn r _ (λp hp=>hs p (aHT _ hp))]
  ·rfl
theorem Dp {env env':Env} {sz:Nat} {K:List (List PV)->Prop}:∀(l:List (Nat×Operand)) (acc:List (List PV)),(∀p,p∈l->ev env p.2=ev env' p.2)->rr env sz K l acc=rr env' sz K l acc
 | [],acc,_=>rfl
 | (k,x)::r,acc,hs=>by
  have e:=hs (k,x) aKN
  simp only at e
  unfold rr
  rw [e]
  congr 1
  funext v
  rw [Dp r _ (λp hp=>hs p (aHT _ hp))]
theorem NZ {env env':Env} {o:Option Operand} (hs:∀x,o=some x->ev env x=ev env' x):o.map (ev env)=o.map (ev env'):=by
 cases o with
 | none=>rfl
 | some x=>simp [hs x rfl]
theorem FC {env env':Env} {K:List (Nat×Nat)->Prop}:∀(l:List Operand) (acc:List (Nat×Nat)),(∀x,x∈l->ev env x=ev env' x)->u6 env K l acc=u6 env' K l acc
 | [],_,_=>rfl
 | x::r,acc,hs=>by
  unfold u6
  rw [hs x aKN]
  split
  ·exact FC r _ (λy hy=>hs y (aHT _ hy))
  ·rfl
theorem yB {T:o9} {env env':Env} {h:List ak} {K:PV->Prop} (op:Op) (hs:NY env env' op):de T op env h K=de T op env' h K:=by
 cases op with
 | move x=>simp only [de,hs x aKS]
 | assign x=>simp only [de,hs x aKS]
 | pick c a b=>simp only [de,hs c aKS,hs a aKS,hs b aKS]
 | binOp bo t x y t'=>simp only [de,hs x aKS,hs y aKS]
 | unOp u t x=>simp only [de,hs x aKS]
 | load t a=>simp only [de,hs a aKS]
 | convert s d x=>simp only [de,hs x aKS]
 | nilCheck x=>simp only [de,hs x aKS]
 | fieldAddr s x k=>simp only [de,hs x aKS]
 | field s x k=>simp only [de,hs x aKS]
 | build t parts=>
  have e:∀sz fl (K:List PV->Prop) z,qb env sz fl K parts.toList z=qb env' sz fl K parts.toList z:=λsz fl K z=>Dn _ _ (λp hp=>hs p.2 aLC)
  simp only [de,e]
 | indexAddr t x i=>simp only [de,hs x aKS,hs i aKS]
 | index t x i=>simp only [de,hs x aKS,hs i aKS]
 | extract x i=>simp only [de,hs x aKS]
 | lookup t x i ok=>simp only [de,hs x aKS,hs i aKS]
 | makeFunc fn first captured=>
  have e:∀(K:List (Nat×Nat)->Prop) acc,u6 env K captured.toList acc=u6 env' K captured.toList acc:=λK acc=>FC _ _ (λx hx=>hs x (by simp [Op.operands];right;simpa using hx))
  simp only [de,e]
 | slice t x lo hi mx=>
  have e1:lo.map (ev env)=lo.map (ev env'):=NZ (λy hy=>hs y aLz)
  have e2:hi.map (ev env)=hi.map (ev env'):=NZ (λy hy=>hs y aLz)
  have e3:mx.map (ev env)=mx.map (ev env'):=NZ (λy hy=>hs y aLz)
  simp only [de,hs x aKS,e1,e2,e3]
 | call c=>
  obtain ⟨callee,args,ts⟩:=c
  cases callee with
  | builtin b=>
   cases b with
   | len=>
    simp only [de]
    split
    ·rename_i x t hx ht
     have e:=hs x (by simp [Op.operands,Call.operands];have:x∈args.toList:=(by rw [hx];simp);simpa using this)
     rw [e]
    ·rfl
   | _=>rfl
  | _=>rfl
 | _=>rfl
theorem RW {T:o9} {env:Env} {h h':List ak} {K:PV->Prop} (op:Op) (hs:alK h h' env op):de T op env h K=de T op env h' K:=by
 cases op with
 | load t a=>
  have q:=hs a aKS
  simp only [de]
  revert q
  generalize ev env a=v
  intro q
  cases v with
  | aC id g i o=>simp only [yh,q id aLl]
  | _=>rfl
 | convert s d x=>
  have q:=hs x aKS
  simp only [de]
  revert q
  generalize ev env x=v
  intro q
  have e:∀K,xe v h K=xe v h' K:=λK=>by
   cases v with
   | own id g i o=>simp only [xe,q id aLl]
   | _=>rfl
  generalize T.get s=ti
  generalize T.get d=td
  cases ti with
  | slice a b c z=>cases td with
   | str=>simp only [e]
   | _=>rfl
  | int k=>cases td<;>cases v<;>rfl
  | _=>rfl
 | nilCheck x=>
  have q:=hs x aKS
  simp only [de]
  revert q
  generalize ev env x=v
  intro q
  cases v with
  | aC id g i o=>simp only [q id aLl]
  | _=>rfl
 | fieldAddr s x k=>
  have q:=hs x aKS
  simp only [de]
  revert q
  generalize ev env x=v
  intro q
  cases v with
  | aC id g i o=>simp only [q id aLl]
  | _=>rfl
 | indexAddr t x i=>
  have q:=hs x aKS
  simp only [de]
  revert q
  generalize ev env x=v
  generalize ev env i=u
  generalize T.get t=ti
  intro q
  cases ti with
  | slice e sz b z=>cases v with
   | own id g o l=>cases u with
    | int k n=>simp only [q id aLl]
    | _=>rfl
   | ig a b c=>cases u<;>rfl
   | _=>rfl
  | _=>rfl
 | lookup t x i ok=>
  have q:=hs x aKS
  simp only [de]
  revert q
  generalize ev env x=v
  generalize T.get t=ti
  intro q
  cases ti with
  | map k e z=>cases v with
   | oL id=>simp only [q id aLl]
   | _=>rfl
  | _=>cases v<;>rfl
 | slice t x lo hi mx=>
  have q:=hs x aKS
  simp only [de]
  revert q
  generalize ev env x=v
  generalize T.get t=ti
  intro q
  cases ti with
  | slice e sz b z=>cases v with
   | own id g o l=>simp only [q id aLl]
   | _=>rfl
  | str=>cases v<;>rfl
  | _=>rfl
 | call c=>
  obtain ⟨callee,args,ts⟩:=c
  cases callee with
  | builtin b=>
   cases b with
   | len=>
    simp only [de]
    split
    ·rename_i x t hx ht
     have q:=hs x (by simp [Op.operands,Call.operands];have:x∈args.toList:=(by rw [hx];simp);simpa using this)
     revert q
     generalize ev env x=v
     generalize T.get t=ti
     intro q
     cases ti with
     | slice e sz b z=>cases v with
      | own id g o l=>simp only [q id aLl]
      | _=>rfl
     | map k e z=>cases v with
      | oL id=>simp only [q id aLl]
      | _=>rfl
     | str=>cases v<;>rfl
     | _=>rfl
    ·rfl
   | _=>rfl
  | _=>rfl
 | _=>rfl
def One (F:(PV->Prop)->Prop):Prop:=∀K,F K->∃v,K v/\∀K',K' v->F K'
theorem sq (v:PV):One (force v):=λK h=>⟨v,cK h,λK' hk=>jK hk⟩
theorem bA (v:PV):One (λK=>K v):=λK h=>⟨v,h,λ_ hk=>hk⟩
theorem dQ {A:Prop} {F:(PV->Prop)->Prop} (h:One F):One (λK=>A/\F K):=λK hk=>
 let ⟨v,h1,h2⟩:=h K hk.2
 ⟨v,h1,λK' vZ=>⟨hk.1,h2 K' vZ⟩⟩
theorem ie {b:Bool} {F:(PV->Prop)->Prop} (h:One F):One (λK=>ed b (F K)):=λK hk=>by
 cases b with
 | true=>exact h K hk
 | false=>exact hk.elim
theorem vB {α:Type} {A:α->Prop} {F:α->(PV->Prop)->Prop} (h:∀c,One (F c)):One (λK=>∃c,A c/\F c K):=λK ⟨c,ha,hk⟩=>
 let ⟨v,h1,h2⟩:=h c K hk
 ⟨v,h1,λK' vZ=>⟨c,ha,h2 K' vZ⟩⟩
theorem Dq {F:(PV->Prop)->Prop} (h:One F):One (λK=>F (JL K)):=λK hk=>by
 obtain ⟨v,h1,h2⟩:=h _ hk
 cases v with
 | ig sz n f=>
  obtain ⟨n',f',e1,e2,hK⟩:=h1
  exact ⟨.ig sz n' f',hK,λK' vZ=>h2 _ ⟨n',f',e1,e2,vZ⟩⟩
 | own id g off n=>
  obtain ⟨o',n',e1,e2,hK⟩:=h1
  exact ⟨.own id g o' n',hK,λK' vZ=>h2 _ ⟨o',n',e1,e2,vZ⟩⟩
 | str s=>
  obtain ⟨s',e1,hK⟩:=h1
  exact ⟨.str s',hK,λK' vZ=>h2 _ ⟨s',e1,vZ⟩⟩
 | _=>exact ⟨_,h1,λK' vZ=>h2 _ vZ⟩
theorem zG {K:List PV->Prop}:∀(n:Nat) (l acc:List PV),n<=l.length->K (acc.reverse++l.take n)->FB K n l acc
 | 0,l,acc,_,h=>by unfold FB;simpa using h
 | n+1,[],acc,hl,_=>by simp at hl
 | n+1,c::r,acc,hl,h=>jK (zG n r (c::acc) (by simp at hl;omega) aLi)
theorem Dr (T:o9) (t:Nat) (cells:List PV):One (zi T t cells):=λK hk=>by
 unfold zi at hk ⊢
 generalize T.get t=q1 at hk ⊢
 cases q1 with
 | struct sz fl z=>
  obtain ⟨h1,h2⟩:=qa _ _ _ hk
  exact ⟨_,h2,λK' vZ=>zG _ _ _ h1 vZ⟩
 | other=>exact hk.elim
 | _=>
  cases cells with
  | nil=>exact hk.elim
  | cons c r=>exact sq c K hk
theorem RZ (T:o9) (t:Nat) (a:PV) (h:List ak):One (yh T t a h):=λK hk=>by
 cases a with
 | gB cells=>exact Dr T t cells K hk
 | aC id gen i off=>
  simp only [yh] at hk ⊢
  generalize dz h id=q2 at hk ⊢
  cases q2 with
  | row g sz n e f=>exact dQ (vB (λc=>Dr T t _)) K hk
  | dead=>exact hk.elim
 | _=>exact hk.elim
theorem aas (ti:TI) (bo:BinOp) (x y:PV):One (Rk ti bo x y):=λK hk=>by
 cases x with
 | int k a=>cases y with
  | int k' b=>
   cases bo with
   | shl=>exact dQ (bA _) K hk
   | shr=>exact dQ (bA _) K hk
   | quo=>exact ie (dQ (bA _)) K hk
   | rem=>exact ie (dQ (bA _)) K hk
   | _=>exact ie (bA _) K hk
  | _=>exact hk.elim
 | bool a=>cases y with
  | bool b=>cases ti with
   | bool=>cases bo with
    | eql=>exact bA _ K hk
    | neq=>exact bA _ K hk
    | _=>exact hk.elim
   | _=>exact hk.elim
  | _=>exact hk.elim
 | str a=>cases y with
  | str b=>cases bo with
   | add=>exact dQ (vB λc=>bA _) K hk
   | eql=>exact bA _ K hk
   | neq=>exact bA _ K hk
   | lss=>exact bA _ K hk
   | leq=>exact bA _ K hk
   | gtr=>exact bA _ K hk
   | geq=>exact bA _ K hk
   | _=>exact hk.elim
  | _=>exact hk.elim
 | agg xs=>cases y with
  | agg ys=>cases ti with
   | struct sz fl z=>
    simp only [Rk] at hk ⊢
    generalize zW z=fz at hk ⊢
    cases fz with
    | false=>exact hk.elim
    | true=>
     simp only [ed] at hk ⊢
     generalize Fb z xs ys=q at hk ⊢
     cases q with
     | none=>exact hk.elim
     | some b=>cases bo<;>first | exact hk.elim | exact vB (λc=>bA _) K hk
   | _=>exact hk.elim
  | _=>exact hk.elim
 | _=>exact hk.elim
theorem xx (x:PV) (lo hi:Option PV):One (Cy x lo hi):=λK hk=>by
 cases x with
 | ig sz n f=>
  cases lo with
  | none=>cases hi with
   | none=>exact bA _ K hk
   | some u=>cases u<;>first | exact hk.elim | exact dQ (bA _) K hk
  | some l=>cases l with
   | int k l=>cases hi with
    | none=>exact dQ (bA _) K hk
    | some u=>cases u<;>first | exact hk.elim | exact dQ (bA _) K hk
   | _=>cases hi<;>exact hk.elim
 | own id gen off len=>
  cases lo with
  | none=>cases hi with
   | none=>exact bA _ K hk
   | some u=>cases u<;>first | exact hk.elim | exact dQ (bA _) K hk
  | some l=>cases l with
   | int k l=>cases hi with
    | none=>exact dQ (bA _) K hk
    | some u=>cases u<;>first | exact hk.elim | exact dQ (bA _) K hk
   | _=>cases hi<;>exact hk.elim
 | str s=>
  cases lo with
  | none=>cases hi with
   | none=>exact bA _ K hk
   | some u=>cases u<;>first | exact hk.elim | exact dQ (bA _) K hk
  | some l=>cases l with
   | int k l=>cases hi with
    | none=>exact dQ (bA _) K hk
    | some u=>cases u<;>first | exact hk.elim | exact dQ (bA _) K hk
   | _=>cases hi<;>exact hk.elim
 | _=>exact hk.elim
theorem N0 (v:PV) (h:List ak):One (λK=>xe v h (λs=>K (.str s))):=λK hk=>by
 cases v with
 | cd=>exact bA _ K hk
 | ig sz n f=>exact ie (vB λs=>dQ (bA _)) K hk
 | own id gen off n=>
  simp only [xe] at hk ⊢
  generalize dz h id=q3 at hk ⊢
  cases q3 with
  | row g sz n e f=>exact dQ (ie (vB λs=>dQ (bA _))) K hk
  | dead=>exact hk.elim
 | _=>exact hk.elim
theorem Ds (env:Env) (sz:Nat) (fl:List (Nat×Nat×Bool)):∀(l:List (Nat×Operand)) (acc:List PV),One (λK=>qb env sz fl (λcs=>K (.agg cs)) l acc)
 | [],acc=>bA _
 | (k,x)::r,acc=>λK hk=>by
  unfold qb at hk ⊢
  generalize fl[k]? =q4 at hk ⊢
  cases q4 with
  | none=>exact hk.elim
  | some p=>
   obtain ⟨o,size,b⟩:=p
   have h1:=cK hk
   obtain ⟨v,h2,h3⟩:=ie (Ds env sz fl r _) K h1
   exact ⟨v,h2,λK' vZ=>jK (h3 K' vZ)⟩
theorem FD {env:Env} (f:Nat):∀(l:List Operand) (acc:List (Nat×Nat)),One (λK=>u6 env (λcH=>K (.qE f cH)) l acc)
 | [],_=>bA _
 | x::r,acc=>λK hk=>by
  unfold u6 at hk ⊢
  generalize ev env x=v at hk ⊢
  split at hk
  ·exact FD f r _ K hk
  ·exact hk.elim
theorem aat (ti:TI) (n:Nat) (f:Nat->List PV) (kv zv:PV) (ok:Bool):One (λK=>ed (nE ti kv kv).isSome (∃r b,ago ti f n kv zv r b/\match ok with
  | true=>K (.fv [r,.bool b])
  | false=>force r K)):=ie (λK hk=>by
 obtain ⟨r,b,hm,hK⟩:=hk
 cases ok with
 | true=>exact ⟨_,hK,λK' vZ=>⟨r,b,hm,vZ⟩⟩
 | false=>exact ⟨_,cK hK,λK' vZ=>⟨r,b,hm,jK vZ⟩⟩)
theorem KO (T:o9) (op:Op) (env:Env) (h:List ak):One (de T op env h):=λK hk=>by
 cases op with
 | move x=>exact sq _ K hk
 | assign x=>exact sq _ K hk
 | pick c a b=>
  simp only [de] at hk ⊢
  generalize ev env c=v at hk ⊢
  cases v with
  | bool t=>
   obtain ⟨h1,h2⟩:=kQ hk
   cases t with
   | true=>exact ⟨_,cK (h1 rfl),λK' vZ=>.mk (λ_=>jK vZ) (λh=>by cases h)⟩
   | false=>exact ⟨_,cK (h2 rfl),λK' vZ=>.mk (λh=>by cases h) (λ_=>jK vZ)⟩
  | _=>exact hk.elim
 | binOp bo t x y t'=>exact aas _ _ _ _ K hk
 | unOp u t x=>
  simp only [de] at hk ⊢
  generalize ev env x=v at hk ⊢
  cases u<;>cases v<;>first | exact hk.elim | exact bA _ K hk
 | load t a=>exact RZ _ _ _ _ K hk
 | convert s d x=>
  simp only [de] at hk ⊢
  generalize ev env x=v at hk ⊢
  generalize T.get s=ti at hk ⊢
  generalize T.get d=td at hk ⊢
  cases ti with
  | int k=>cases td with
   | int k'=>cases v<;>first | exact hk.elim | exact bA _ K hk
   | _=>cases v<;>exact hk.elim
  | slice e sz b z=>cases td with
   | str=>
    simp only at hk ⊢
    generalize T.get e=q5 at hk ⊢
    cases q5 with
    | int k=>cases k<;>first | exact hk.elim | exact N0 _ _ K hk
    | _=>exact hk.elim
   | _=>cases v<;>exact hk.elim
  | _=>cases td<;>cases v<;>exact hk.elim
 | nilCheck x=>
  simp only [de] at hk ⊢
  generalize ev env x=v at hk ⊢
  cases v with
  | gB cs=>exact bA _ K hk
  | aC id gen i off=>
   simp only at hk ⊢
   generalize dz h id=q6 at hk ⊢
   cases q6 with
   | row g sz n e f=>exact dQ (bA _) K hk
   | dead=>exact hk.elim
  | _=>exact hk.elim
 | fieldAddr s x k=>
  simp only [de] at hk ⊢
  generalize ev env x=v at hk ⊢
  generalize T.get s=q7 at hk ⊢
  cases q7 with
  | struct sz fl z=>
   simp only at hk ⊢
   generalize fl[k]? =q8 at hk ⊢
   cases q8 with
   | none=>exact hk.elim
   | some p=>
    obtain ⟨o,a,b⟩:=p
    cases v with
    | gB cs=>exact bA _ K hk
    | aC id gen i off=>
     simp only at hk ⊢
     generalize dz h id=q9 at hk ⊢
     cases q9 with
     | row g sz n e f=>exact dQ (bA _) K hk
     | dead=>exact hk.elim
    | _=>exact hk.elim
  | _=>exact hk.elim
 | field s x k=>
  simp only [de] at hk ⊢
  generalize ev env x=v at hk ⊢
  generalize T.get s=q7 at hk ⊢
  cases q7 with
  | struct sz fl z=>
   simp only at hk ⊢
   generalize fl[k]? =q8 at hk ⊢
   cases q8 with
   | none=>exact hk.elim
   | some p=>
    obtain ⟨o,a,b⟩:=p
    cases v with
    | agg cs=>
     cases b with
     | true=>
      obtain ⟨h1,h2⟩:=qa _ _ _ hk
      exact ⟨_,h2,λK' vZ=>zG _ _ _ h1 vZ⟩
     | false=>
      simp only at hk ⊢
      generalize cs.drop o=q9 at hk ⊢
      cases q9 with
      | nil=>exact hk.elim
      | cons c r=>exact sq c K hk
    | _=>exact hk.elim
  | _=>exact hk.elim
 | build t parts=>
  simp only [de] at hk ⊢
  generalize T.get t=q10 at hk ⊢
  cases q10 with
  | struct sz fl z=>exact Ds _ _ _ _ _ K hk
  | _=>exact hk.elim
 | indexAddr t x i=>
  simp only [de] at hk ⊢
  generalize ev env x=v at hk ⊢
  generalize ev env i=u at hk ⊢
  generalize T.get t=q11 at hk ⊢
  cases q11 with
  | slice e sz b z=>cases v with
   | ig cr n f=>cases u<;>first | exact hk.elim | exact ie (dQ (vB λc=>bA _)) K hk
   | own id gen off len=>cases u with
    | int k n=>
     simp only at hk ⊢
     generalize dz h id=q12 at hk ⊢
     cases q12 with
     | row g sz n e f=>exact dQ (ie (dQ (vB λj=>bA _))) K hk
     | dead=>exact hk.elim
    | _=>exact hk.elim
   | _=>cases u<;>exact hk.elim
  | _=>cases v<;>cases u<;>exact hk.elim
 | index t x i=>
  simp only [de] at hk ⊢
  generalize ev env x=v at hk ⊢
  generalize ev env i=u at hk ⊢
  generalize T.get t=q13 at hk ⊢
  cases q13 with
  | str=>cases v with
   | str s=>cases u<;>first | exact hk.elim | exact dQ (vB λc=>bA _) K hk
   | _=>cases u<;>exact hk.elim
  | _=>cases v<;>cases u<;>exact hk.elim
 | extract x i=>
  simp only [de] at hk ⊢
  generalize ev env x=v at hk ⊢
  cases v with
  | fv vs=>
   simp only at hk ⊢
   generalize vs[i]? =q14 at hk ⊢
   cases q14 with
   | none=>exact hk.elim
   | some u=>exact sq _ K hk
  | _=>exact hk.elim
 | makeFunc fn first captured=>
  cases fn with
  | func f=>exact ie (FD f _ _) K hk
  | _=>exact hk.elim
 | lookup t x i ok=>
  simp only [de] at hk ⊢
  generalize ev env x=v at hk ⊢
  generalize T.get t=q19 at hk ⊢
  cases q19 with
  | map kt et zv=>cases v with
   | oL id=>
    simp only at hk ⊢
    generalize dz h id=q20 at hk ⊢
    cases q20 with
    | row g sz n e f=>
     obtain ⟨u,h2,h3⟩:=aat (T.get kt) n f (ev env i) zv ok K (cK hk)
     exact ⟨u,h2,λK' vZ=>jK (h3 K' vZ)⟩
    | dead=>exact hk.elim
   | _=>exact hk.elim
  | _=>cases v<;>exact hk.elim
 | slice t x lo hi mx=>
  simp only [de] at hk ⊢
  generalize ev env x=v at hk ⊢
  generalize T.get t=q15 at hk ⊢
  cases q15 with
  | slice e sz b z=>cases v with
   | ig cr n f=>exact ie (dQ (Dq (xx _ _ _))) K hk
   | own id gen off len=>
    simp only at hk ⊢
    generalize dz h id=q16 at hk ⊢
    cases q16 with
    | row g sz n e f=>exact dQ (ie (dQ (Dq (xx _ _ _)))) K hk
    | dead=>exact hk.elim
   | _=>exact hk.elim
  | str=>cases v with
   | str s=>exact ie (Dq (xx _ _ _)) K hk
   | _=>exact hk.elim
  | _=>cases v<;>exact hk.elim
 | call c=>
  obtain ⟨callee,args,ts⟩:=c
  cases callee with
  | builtin b=>
   cases b with
   | len=>
    simp only [de] at hk ⊢
    split at hk
    ·rename_i x t hx ht
     generalize ev env x=v at hk ⊢
     generalize T.get t=q17 at hk ⊢
     cases q17 with
     | slice e sz b z=>cases v with
      | ig a n f=>exact bA _ K hk
      | cd=>exact bA _ K hk
      | own id gen off n=>
       simp only at hk ⊢
       generalize dz h id=q18 at hk ⊢
       cases q18 with
       | row g sz n e f=>exact dQ (bA _) K hk
       | dead=>exact hk.elim
      | _=>exact hk.elim
     | str=>cases v<;>first | exact hk.elim | exact bA _ K hk
     | map kt et zv=>cases v with
      | oL id=>
       simp only at hk ⊢
       generalize dz h id=q18 at hk ⊢
       cases q18 with
       | row g sz n e f=>exact bA _ K hk
       | dead=>exact hk.elim
      | _=>exact hk.elim
     | _=>cases v<;>exact hk.elim
    ·exact hk.elim
   | _=>exact hk.elim
  | _=>exact hk.elim
 | _=>exact hk.elim
theorem ql {v:PV} {K K':PV->Prop} (hk:∀v,K v->K' v) (h:force v K):force v K':=jK (hk _ (cK h))
theorem eu {b:Bool} {K K':Prop} (hk:K->K') (h:ed b K):ed b K':=by cases b;exact h;exact hk h
theorem Ag {env:Env} {sz:Nat} {K K':List (List PV)->Prop} (hk:∀l,K l->K' l):∀(l:List (Nat×Operand)) (acc:List (List PV)),rr env sz K l acc->rr env sz K' l acc
 | [],acc,h=>hk _ h
 | (k,x)::r,acc,h=>ql (λv h=>eu (Ag hk r _) h) h
theorem zH {x:PV} {h:List ak} {sz:Nat} {K K':Nat->(Nat->List PV)->Prop} (hk:∀n g,K n g->K' n g) (hp:Kv x h sz K):Kv x h sz K':=by
 cases x with
 | cd=>exact hk _ _ hp
 | ig cr m g=>exact eu (hk _ _) hp
 | own id gen off m=>
  simp only [Kv] at hp ⊢
  generalize dz h id=q at hp ⊢
  cases q with
  | row g cr n e f=>exact ⟨hp.1,hp.2.1,eu (hk _ _) hp.2.2⟩
  | dead=>exact hp
 | str s=>exact eu (hk _ _) hp
 | _=>exact hp
theorem Hi {e sz bytes:Nat} {s x:PV} {h:List ak} {K K':PV->List ak->Prop} (hk:∀v h',K v h'->K' v h') (hp:vJ e sz bytes s x h K):vJ e sz bytes s x h K':=by
 cases s with
 | cd=>
  simp only [vJ] at hp ⊢
  exact zH (λm g ⟨h,n',f',e1,e2,h2⟩=>⟨h,n',f',e1,e2,hk _ _ h2⟩) hp
 | own id gen off len=>
  simp only [vJ] at hp ⊢
  generalize dz h id=q at hp ⊢
  cases q with
  | row g cr n e' f=>exact ⟨hp.1,eu (zH (λm g ⟨h,n',f',e1,e2,h2⟩=>⟨h,n',f',e1,e2,hk _ _ h2⟩)) hp.2⟩
  | dead=>exact hp
 | _=>exact hp
theorem N1 {e sz bytes:Nat} {s x:PV} {h:List ak} {K K':PV->List ak->Prop} (hk:∀v h',K v h'->K' v h') (hp:KA e sz bytes s x h K):KA e sz bytes s x h K':=by
 unfold KA at hp ⊢
 split at hp
 ·split at hp
  ·exact ⟨hp.1,eu (λq=>⟨q.1,hk _ _ q.2⟩) hp.2⟩
  ·exact hp
 ·split at hp
  ·split at hp
   ·exact ⟨hp.1,hp.2.1,eu (λq=>⟨q.1,hk _ _ q.2⟩) hp.2.2⟩
   ·exact hp
  ·exact hp
 ·exact aKm
theorem NJ.mono {e sz bytes:Nat} {s x:PV} {h:List ak} {K K':PV->List ak->Prop} (hk:∀v h',K v h'->K' v h') (hp:NJ e sz bytes s x h K):NJ e sz bytes s x h K':=by
 cases hp with
 | fx hp=>exact .fx (Hi hk hp)
 | move hp=>exact .move (N1 hk hp)
theorem N2 {e sz:Nat} {s x:PV} {h:List ak} {K K':PV->List ak->Prop} (hk:∀v h',K v h'->K' v h') (hp:C7 e sz s x h K):C7 e sz s x h K':=by
 cases s with
 | own id gen off len=>
  simp only [C7] at hp ⊢
  generalize dz h id=q at hp ⊢
  cases q with
  | row g cr n e' f=>exact ⟨hp.1,eu (zH (λm g ⟨h,f',e2,h2⟩=>⟨h,f',e2,hk _ _ h2⟩)) hp.2⟩
  | dead=>exact hp
 | _=>exact hp
theorem sr {T:o9} {op:Op} {env:Env} {h:List ak} {K K':PV->Prop} (hk:∀v,K v->K' v) (hp:de T op env h K):de T op env h K':=
 let ⟨v,h1,h2⟩:=KO T op env h K hp
 h2 K' (hk v h1)
theorem aau {P:Program} {T:o9} {env:Env} {h:List ak} {K K':PV->List ak->Prop} (hk:∀v h',K v h'->K' v h') (op:Op) (hp:pop P T op env h K):pop P T op env h K':=by
 cases op with
 | store t a x=>
  simp only [pop] at hp ⊢
  generalize ev env a=v at hp ⊢
  cases v with
  | aC id gen i off=>
   simp only at hp ⊢
   generalize dz h id=q at hp ⊢
   cases q with
   | row g sz n e f=>exact ⟨hp.1,ql (λv h=>eu (λ⟨c,f',e1,e2,h2⟩=>⟨c,f',e1,e2,hk _ _ h2⟩) h) hp.2⟩
   | dead=>exact hp
  | _=>exact hp
 | box t x=>
  simp only [pop] at hp ⊢
  exact ql (λv h=>eu (hk _ _) h) hp
 | alloc t=>
  simp only [pop] at hp ⊢
  generalize Cq (T.get t)=q at hp ⊢
  cases q<;>first | exact hp | exact hk _ _ hp
 | makeSlice t l c=>
  simp only [pop] at hp ⊢
  generalize T.get t=q at hp ⊢
  generalize ev env l=u at hp ⊢
  generalize ev env c=v at hp ⊢
  cases q with
  | slice e sz b z=>cases u with
   | int k n=>cases v with
    | int k' m=>(obtain ⟨h,n',f',e1,e2,h2⟩:=hp;exact ⟨h,n',f',e1,e2,hk _ _ h2⟩)
    | _=>exact hp
   | _=>cases v<;>exact hp
  | _=>cases u<;>cases v<;>exact hp
 | buildSlice t len parts=>
  simp only [pop] at hp ⊢
  generalize T.get t=q at hp ⊢
  cases q with
  | slice e sz b z=>exact eu (Ag (λ_ ⟨f',e1,h2⟩=>⟨f',e1,hk _ _ h2⟩) _ _) hp
  | _=>exact hp
 | convert s d x=>
  simp only [pop] at hp ⊢
  split at hp
  ·split at hp
   ·exact let ⟨f',e1,h2⟩:=hp;⟨f',e1,hk _ _ h2⟩
   ·exact hp
  ·exact sr (λv=>hk v h) hp
 | binOp bo t x y ty=>
  simp only [pop] at hp ⊢
  split at hp
  ·exact ⟨λh0=>hk _ _ (hp.1 h0),hk _ _ hp.2⟩
  ·exact sr (λv=>hk v h) hp
 | makeMap t r=>
  cases r with
  | none=>
   simp only [pop] at hp ⊢
   generalize T.get t=q at hp ⊢
   cases q with
   | map k e z=>exact let ⟨f',h2⟩:=hp;⟨f',hk _ _ h2⟩
   | _=>exact hp
  | some r=>exact hp
 | mapUpdate t m k x=>
  simp only [pop] at hp ⊢
  generalize T.get t=q at hp ⊢
  generalize ev env m=v at hp ⊢
  cases q with
  | map kt et z=>cases v with
   | oL id=>
    simp only at hp ⊢
    generalize dz h id=q2 at hp ⊢
    cases q2 with
    | row g sz n e f=>exact ql (λkv h=>ql (λvv h=>eu (λ⟨n',f',e1,h2⟩=>⟨n',f',e1,hk _ _ h2⟩) h) h) hp
    | dead=>exact hp
   | _=>exact hp
  | _=>cases v<;>exact hp
 | call c=>
  obtain ⟨callee,args,ts⟩:=c
  cases callee with
  | value fo=>
   simp only [pop] at hp ⊢
   generalize ev env fo=v at hp ⊢
   cases v with
   | fn f=>exact eu (λ⟨R,h1,h2⟩=>⟨R,h1,λres h' hr=>hk _ _ (h2 res h' hr)⟩) hp
   | qE f cH=>exact eu (λ⟨R,h1,h2⟩=>⟨R,h1,λres h' hr=>hk _ _ (h2 res h' hr)⟩) hp
   | _=>exact hp
  | builtin b=>
   cases b with
   | append=>
    simp only [pop] at hp ⊢
    split at hp
    ·rename_i s x t tx ha ht
     generalize T.get t=q at hp ⊢
     generalize T.get tx=qx at hp ⊢
     cases q with
     | slice e sz b z=>cases qx<;>first | exact hp | exact NJ.mono hk hp
     | _=>cases qx<;>exact hp
    ·exact hp
   | copy=>
    simp only [pop] at hp ⊢
    split at hp
    ·rename_i s x t tx ha ht
     generalize T.get t=q at hp ⊢
     generalize T.get tx=qx at hp ⊢
     cases q with
     | slice e sz b z=>cases qx<;>first | exact hp | exact N2 hk hp
     | _=>cases qx<;>exact hp
    ·exact hp
   | len=>(simp only [pop] at hp ⊢;exact sr (λv=>hk v h) hp)
   | _=>exact hp
  | _=>exact hp
 | _=>(simp only [pop] at hp ⊢;exact sr (λv=>hk v h) hp)
theorem aav {env env':Env} {args:Array Operand} (hs:∀x,x∈args.toList->ev env x=ev env' x):args.toList.map (ev env)=args.toList.map (ev env'):=
 List.map_congr_left hs
theorem aed {env env':Env} {l:List Operand} (hs:∀x,x∈l->ev env x=ev env' x):l.all (λx=>nu (ev env x))=l.all (λx=>nu (ev env' x)):=by
 induction l with
 | nil=>rfl
 | cons a r ih=>simp only [aHS,hs a aKN,ih (λx hx=>hs x (aHT _ hx))]
theorem aee {P:Program} {T:o9} {env env':Env} {h:List ak} {K:PV->List ak->Prop} (op:Op) (hs:NY env env' op):pop P T op env h K=pop P T op env' h K:=by
 cases op with
 | store t a x=>simp only [pop,hs a aKS,hs x aKS]
 | box t x=>simp only [pop,hs x aKS]
 | alloc t=>rfl
 | makeSlice t l c=>simp only [pop,hs l aKS,hs c aKS]
 | buildSlice t len parts=>
  have e:∀sz (K:List (List PV)->Prop) z,rr env sz K parts.toList z=rr env' sz K parts.toList z:=λsz K z=>Dp _ _ (λp hp=>hs p.2 aLC)
  simp only [pop,e]
 | convert s d x=>simp only [pop,de,hs x aKS]
 | binOp bo t x y ty=>simp only [pop,de,hs x aKS,hs y aKS]
 | makeMap t r=>cases r<;>rfl
 | mapUpdate t m k x=>simp only [pop,hs m aKS,hs k aKS,hs x aKS]
 | call c=>
  obtain ⟨callee,args,ts⟩:=c
  cases callee with
  | value fo=>
   have e0:=hs fo (by simp [Op.operands,Call.operands])
   have e1:∀x,x∈args.toList->ev env x=ev env' x:=λx hx=>hs x (by simp [Op.operands,Call.operands];right;simpa using hx)
   simp only [pop,e0,aav e1,aed e1]
  | builtin b=>
   have e1:∀x,x∈args.toList->ev env x=ev env' x:=λx hx=>hs x (by simp [Op.operands,Call.operands];simpa using hx)
   cases b with
   | append=>
    simp only [pop]
    split
    ·rename_i s x t tx ha ht
     rw [e1 s (by rw [ha];simp),e1 x (by rw [ha];simp)]
    ·rfl
   | copy=>
    simp only [pop]
    split
    ·rename_i s x t tx ha ht
     rw [e1 s (by rw [ha];simp),e1 x (by rw [ha];simp)]
    ·rfl
   | len=>(simp only [pop];exact yB _ hs)
   | _=>rfl
  | _=>rfl
 | _=>(simp only [pop];exact yB _ hs)
section
variable {P:Program} {T:o9}
def fs (P:Program) (T:o9) (all:List Oper) (st:Bool) (o:Oper) (G:PV->List ak->Prop) (env:Env) (h:List ak):Prop:=
 match o.guard with
 | none=>Er P T st o.op env h G
 | some (j,want)=>match (all[j]?).bind (·.dst) with
  | some t=>match env t with
   | .bool b=>match b==want with
    | true=>Er P T st o.op env h G
    | false=>G (.fv []) h
   | .fv []=>G (.fv []) h
   | _=>False
  | none=>False
theorem Bc {env:Env} {t:Nat} {v:PV} (h:env t=v):qs env t v=env:=by
 funext j
 unfold qs
 cases hb:Nat.beq j t with
 | true=>rw [Of hb,<-h];rfl
 | false=>rfl
theorem FE {st:Bool} {op:Op} {env:Env} {h:List ak} {G G':PV->List ak->Prop} (hk:∀v h',G v h'->G' v h') (hp:Er P T st op env h G):Er P T st op env h G':=by
 cases st with
 | true=>exact sr (λv=>hk v h) hp
 | false=>exact aau hk _ hp
theorem dZ {all:List Oper} {st:Bool} {o:Oper} {env:Env} {h:List ak} {G G':PV->List ak->Prop} (hk:∀v h',G v h'->G' v h') (hp:fs P T all st o G env h):fs P T all st o G' env h:=by
 unfold fs at hp ⊢
 generalize o.guard=g at hp ⊢
 cases g with
 | none=>exact FE hk hp
 | some q=>
  obtain ⟨j,want⟩:=q
  simp only at hp ⊢
  generalize (all[j]?).bind (·.dst)=d at hp ⊢
  cases d with
  | none=>exact hp
  | some t=>
   simp only at hp ⊢
   generalize env t=v at hp ⊢
   cases v with
   | bool b=>
    simp only at hp ⊢
    generalize (b==want)=c at hp ⊢
    cases c with
    | true=>exact FE hk hp
    | false=>exact hk _ _ hp
   | fv l=>cases l with
    | nil=>exact hk _ _ hp
    | cons a r=>exact hp
   | _=>exact hp
theorem mC {all:List Oper} {st:Bool} {o:Oper} {F:Env->PV->List ak->Prop} {env:Env} {h:List ak} (hp:qP P T all st o F env h):fs P T all st o (F env) env h:=by
 unfold qP at hp
 unfold fs
 generalize o.guard=g at hp ⊢
 cases g with
 | none=>exact hp
 | some q=>
  obtain ⟨j,want⟩:=q
  simp only at hp ⊢
  generalize (all[j]?).bind (·.dst)=d at hp ⊢
  cases d with
  | none=>exact hp
  | some t=>
   simp only at hp ⊢
   generalize hv:env t=v at hp ⊢
   cases v with
   | bool b=>
    simp only at hp ⊢
    obtain ⟨h1,h2⟩:=kQ hp
    cases b with
    | true=>
     have h1:=h1 rfl
     rw [Bc hv] at h1
     cases want<;>exact h1
    | false=>
     have h2:=h2 rfl
     rw [Bc hv] at h2
     cases want<;>exact h2
   | fv l=>cases l with
    | nil=>exact hp
    | cons a r=>exact hp
   | _=>exact hp
theorem vR {env env':Env} {o:Oper} {ops:Array Oper} (hl:∀t,t∈o.looksAt ops->env t=env' t):NY env env' o.op:=λx hx=>by
 cases x with
 | tmp t=>exact hl t (by unfold Oper.looksAt;rw [are];left;rw [List.mem_filterMap];exact ⟨_,hx,rfl⟩)
 | _=>rfl
theorem tB {env env':Env} {o:Oper} {ops:Array Oper} (hl:∀t,t∈o.looksAt ops->env t=env' t) {j:Nat} {w:Bool} (hg:o.guard=some (j,w)) {t:Nat} (ht:(ops.toList[j]?).bind (·.dst)=some t):env t=env' t:=
 hl t (by
  unfold Oper.looksAt
  rw [are,hg]
  right
  have:ops.toList[j]? =ops[j]? :=by simp
  rw [this] at ht
  show t∈((ops[j]?).bind (·.dst)).toList
  rw [ht]
  simp)
theorem N3 {ops:Array Oper} {st:Bool} {o:Oper} {G:PV->List ak->Prop} {env env':Env} {h:List ak} (hl:∀t,t∈o.looksAt ops->env t=env' t) (hp:fs P T ops.toList st o G env h):fs P T ops.toList st o G env' h:=by
 have hr:Er P T st o.op env h G=Er P T st o.op env' h G:=by
  cases st with
  | true=>exact yB _ (vR hl)
  | false=>exact aee _ (vR hl)
 unfold fs at hp ⊢
 cases hg:o.guard with
 | none=>rw [hg] at hp;simp only at hp ⊢;rw [<-hr];exact hp
 | some q=>
  obtain ⟨j,want⟩:=q
  rw [hg] at hp
  simp only at hp ⊢
  cases hd:(ops.toList[j]?).bind (·.dst) with
  | none=>rw [hd] at hp;exact hp
  | some t=>
   rw [hd] at hp
   simp only at hp ⊢
   rw [<-tB hl hg hd,<-hr]
   exact hp
theorem yC {α β:Type} {f g:α->List β}:∀(l:List α),(∀x,x∈l->f x=g x)->l.flatMap f=l.flatMap g
 | [],_=>rfl
 | a::r,h=>by rw [List.flatMap_cons,List.flatMap_cons,h a aKN,yC r (λx hx=>h x (aHT _ hx))]
theorem Dt (env:Env) (op:Op):(∃x,op=.move x)\/ku env op=op.operands.toList.flatMap (λx=>tT (ev env x)):=by
 cases op<;>first | exact .inl ⟨_,rfl⟩ | exact .inr rfl
theorem N4 {T:o9} {env:Env} {h h':List ak} {K:PV->Prop} {op:Op} (hi:∀id,id∈ku env op->dz h id=dz h' id):de T op env h K=de T op env h' K:=by
 rcases Dt env op with ⟨x,rfl⟩ | e
 ·rfl
 ·exact RW op (λx hx id hid=>hi id (by rw [e,List.mem_flatMap];exact ⟨x,hx,hid⟩))
theorem xy {env env':Env} {op:Op} (hs:∀x,x∈op.operands.toList->ev env x=ev env' x):ku env' op=ku env op:=by
 rcases Dt env op with ⟨x,rfl⟩ | e
 ·rfl
 ·rcases Dt env' op with ⟨x,rfl⟩ | e'
  ·rfl
  ·rw [e,e']
   exact yC _ (λx hx=>by rw [hs x hx])
theorem zI {ops:Array Oper} {o:Oper} {G:PV->List ak->Prop} {env:Env} {h:List ak} (hp:fs P T ops.toList true o G env h):
  ∃v,G v h/\∀(env':Env) (h':List ak) (G':PV->List ak->Prop),(∀t,t∈o.looksAt ops->env t=env' t)->(∀id,id∈ku env o.op->dz h id=dz h' id)->G' v h'->fs P T ops.toList true o G' env' h':=by
 have run:de T o.op env h (λv=>G v h)->∃v,G v h/\∀(env':Env) (h':List ak) (G':PV->List ak->Prop),(∀t,t∈o.looksAt ops->env t=env' t)->(∀id,id∈ku env o.op->dz h id=dz h' id)->G' v h'->de T o.op env' h' (λv=>G' v h'):=λhs=>by
  obtain ⟨v,h1,h2⟩:=KO T o.op env h _ hs
  refine ⟨v,h1,λenv' h' G' hl hi hg=>?_⟩
  rw [<-yB o.op (vR hl),<-N4 (op:=o.op) hi]
  exact h2 _ hg
 unfold fs at hp
 cases hg:o.guard with
 | none=>
  rw [hg] at hp
  obtain ⟨v,h1,h2⟩:=run hp
  refine ⟨v,h1,λenv' h' G' hl hi hk=>?_⟩
  unfold fs
  rw [hg]
  exact h2 env' h' G' hl hi hk
 | some q=>
  obtain ⟨j,want⟩:=q
  rw [hg] at hp
  simp only at hp
  cases hd:(ops.toList[j]?).bind (·.dst) with
  | none=>rw [hd] at hp;exact hp.elim
  | some t=>
   rw [hd] at hp
   simp only at hp
   cases hv:env t with
   | bool b=>
    rw [hv] at hp
    simp only at hp
    cases hc:(b==want) with
    | true=>
     rw [hc] at hp
     obtain ⟨v,h1,h2⟩:=run hp
     refine ⟨v,h1,λenv' h' G' hl hi hk=>?_⟩
     unfold fs
     rw [hg];simp only;rw [hd];simp only;rw [<-tB hl hg hd,hv];simp only;rw [hc]
     exact h2 env' h' G' hl hi hk
    | false=>
     rw [hc] at hp
     refine ⟨_,hp,λenv' h' G' hl hi hk=>?_⟩
     unfold fs
     rw [hg];simp only;rw [hd];simp only;rw [<-tB hl hg hd,hv];simp only;rw [hc]
     exact hk
   | fv l=>
    rw [hv] at hp
    cases l with
    | nil=>
     refine ⟨_,hp,λenv' h' G' hl hi hk=>?_⟩
     unfold fs
     rw [hg];simp only;rw [hd];simp only;rw [<-tB hl hg hd,hv]
     exact hk
    | cons a r=>exact hp.elim
   | _=>rw [hv] at hp;exact hp.elim
def Dh (P:Program) (T:o9) (all:List Oper) (t:List (Nat×List Nat)) (K:Env->List ak->Prop):List (Nat×Bool)->List (Nat×List Nat)->Env->List ak->Prop
 | [],_,env,h=>K env h
 | (i,st)::r,bP,env,h=>∃o,all[i]? =some o/\fs P T all st o (λv h'=>match st with
   | true=>Dh P T all t K r ((i,ku env o.op)::bP) (ee env o.dst v) h'
   | false=>(∀j ids,(j,ids)∈bP->j8 (dD t i) j=false->∀id,id∈ids->dz h id=dz h' id)/\Dh P T all t K r bP (ee env o.dst v) h') env h
theorem yD {h h':List ak} {K:Prop}:∀(ids:List Nat),Hh h h' K ids->(∀id,id∈ids->dz h id=dz h' id)/\K
 | [],hk=>⟨λid hid=>by simp at hid,hk⟩
 | a::r,hk=>by
  obtain ⟨h1,h2⟩:=yD r hk.2
  refine ⟨λid hid=>?_,h2⟩
  simp only [aHM] at hid
  rcases hid with rfl | hid
  ·exact hk.1
  ·exact h1 id hid
theorem nz {anc:List Nat} {h h':List ak} {K:Prop}:∀(bP:List (Nat×List Nat)),ou anc h h' K bP->(∀j ids,(j,ids)∈bP->j8 anc j=false->∀id,id∈ids->dz h id=dz h' id)/\K
 | [],hk=>⟨λj ids hj=>by simp at hj,hk⟩
 | (a,l)::r,hk=>by
  unfold ou at hk
  cases ha:j8 anc a with
  | true=>
   rw [ha] at hk
   obtain ⟨h1,h2⟩:=nz r hk
   refine ⟨λj ids hj hn=>?_,h2⟩
   simp only [aHM] at hj
   rcases hj with hj | hj
   ·injection hj with e1 e2;subst e1;rw [ha] at hn;cases hn
   ·exact h1 j ids hj hn
  | false=>
   rw [ha] at hk
   obtain ⟨q1,q2⟩:=yD l hk
   obtain ⟨h1,h2⟩:=nz r q2
   refine ⟨λj ids hj hn=>?_,h2⟩
   simp only [aHM] at hj
   rcases hj with hj | hj
   ·injection hj with e1 e2;subst e2;exact q1
   ·exact h1 j ids hj hn
theorem kb {all:List Oper} {t:List (Nat×List Nat)} {K:Env->List ak->Prop}:∀(l:List (Nat×Bool)) (bP:List (Nat×List Nat)) (env:Env) (h:List ak),fw P T all t K l bP env h->Dh P T all t K l bP env h
 | [],_,_,_,hp=>hp
 | (i,true)::r,bP,env,h,hp=>by
  have hp:(match all[i]? with
   | some o=>qP P T all true o (λenv' v h'=>fw P T all t K r ((i,ku env' o.op)::bP) (ee env' o.dst v) h') env h
   | none=>False):=hp
  cases ho:all[i]? with
  | none=>rw [ho] at hp;exact hp.elim
  | some o=>
   rw [ho] at hp
   exact ⟨o,ho,dZ (λv h' hk=>kb r _ _ _ hk) (mC hp)⟩
 | (i,false)::r,bP,env,h,hp=>by
  have hp:(match all[i]? with
   | some o=>qP P T all false o (λenv' v h'=>ou (dD t i) h h' (fw P T all t K r bP (ee env' o.dst v) h') bP) env h
   | none=>False):=hp
  cases ho:all[i]? with
  | none=>rw [ho] at hp;exact hp.elim
  | some o=>
   rw [ho] at hp
   refine ⟨o,ho,dZ (λv h' hk=>?_) (mC hp)⟩
   obtain ⟨h1,h2⟩:=nz _ hk
   exact ⟨h1,kb r _ _ _ h2⟩
theorem ss {all:List Oper} {t:List (Nat×List Nat)} {K:Env->List ak->Prop}:∀(l:List (Nat×Bool)) (bP oU:List (Nat×List Nat)) (env:Env) (h:List ak),(∀x,x∈oU->x∈bP)->Dh P T all t K l bP env h->Dh P T all t K l oU env h
 | [],_,_,_,_,_,hp=>hp
 | (i,st)::r,bP,oU,env,h,hs,hp=>by
  obtain ⟨o,ho,hp⟩:=hp
  refine ⟨o,ho,dZ (λv h' hk=>?_) hp⟩
  cases st with
  | true=>exact ss r _ _ _ _ (λx hx=>by simp only [aHM] at hx ⊢;exact hx.imp id (hs x)) hk
  | false=>exact ⟨λj ids hj=>hk.1 j ids (hs _ hj),ss r _ _ _ _ hs hk.2⟩
theorem zJ {env:Env} {d e:Option Nat} {u v:PV} (mJ:∀x,d=some x->e≠some x):ee (ee env d u) e v=ee (ee env e v) d u:=by
 cases d with
 | none=>rfl
 | some x=>
  cases e with
  | none=>rfl
  | some y=>
   have hxy:x≠y:=λhe=>mJ x rfl (by rw [he])
   funext j
   simp only [ee,qs]
   cases h1:Nat.beq j y with
   | true=>
    have:=Of h1
    subst this
    cases h2:Nat.beq j x with
    | true=>exact absurd (Of h2).symm hxy
    | false=>rfl
   | false=>cases h2:Nat.beq j x<;>rfl
theorem pL {env:Env} {d:Option Nat} {v:PV} {l:List Nat} (hn:∀x,d=some x->x∉l):∀t,t∈l->env t=ee env d v t:=λt ht=>by
 cases d with
 | none=>rfl
 | some x=>
  have:t≠x:=λhe=>hn x rfl (he▸ht)
  simp only [ee,qs]
  cases h2:Nat.beq t x with
  | true=>exact absurd (Of h2) this
  | false=>rfl
theorem yx {ops:Array Oper} {t:List (Nat×List Nat)} {K:Env->List ak->Prop} {i:Nat} {st:Bool} {oi:Oper} (xD:ops.toList[i]? =some oi):
  ∀(l1 l2:List (Nat×Bool)) (bP:List (Nat×List Nat)) (env:Env) (h:List ak),(∀p,p∈l1->p.2=true/\j8 (dD t i) p.1=false/\qN ops p.1 i=true)->Dh P T ops.toList t K (l1++(i,st)::l2) bP env h->
   fs P T ops.toList st oi (λv h'=>(st=true->h'=h)/\(st=false->∀j ids,(j,ids)∈bP->j8 (dD t i) j=false->∀id,id∈ids->dz h id=dz h' id)/\Dh P T ops.toList t K (l1++l2) bP (ee env oi.dst v) h') env h
 | [],l2,bP,env,h,_,hp=>by
  obtain ⟨o,ho,hp⟩:=hp
  rw [xD] at ho
  injection ho with ho
  subst ho
  cases st with
  | true=>
   obtain ⟨v,h1,h2⟩:=zI hp
   exact h2 env h _ (λ_ _=>rfl) (λ_ _=>rfl) ⟨λ_=>rfl,λhc=>Bool.noConfusion hc,ss _ _ _ _ _ (λx hx=>aHT _ hx) h1⟩
  | false=>exact dZ (λv h' hk=>⟨λhc=>Bool.noConfusion hc,λ_=>hk.1,hk.2⟩) hp
 | (a,sa)::l1,l2,bP,env,h,mG,hp=>by
  obtain ⟨h1,h2,h3⟩:=mG (a,sa) aKN
  simp only at h1 h2 h3
  subst h1
  obtain ⟨o,ho,hp⟩:=hp
  have hap:Oper.apart ops o oi=true:=by
   unfold qN at h3
   have e1:ops[a]? =some o:=by simpa using ho
   have e2:ops[i]? =some oi:=by simpa using xD
   rw [e1,e2] at h3
   exact h3
  obtain ⟨a1,a2,a3⟩:=Oper.apart_spec hap
  obtain ⟨u,k1,k2⟩:=zI hp
  have ih:=yx xD l1 l2 _ _ h (λp hp=>mG p (aHT _ hp)) k1
  have ih':=N3 (env':=env) (λx hx=>(pL (λd hd=>a1 d hd) x hx).symm) ih
  refine dZ (λv h' hk=>⟨hk.1,λhc j ids hj=>hk.2.1 hc j ids (aHT _ hj),?_⟩) ih'
  have aaw:∀id,id∈ku env o.op->dz h id=dz h' id:=λid hid=>by
   cases st with
   | true=>rw [hk.1 rfl]
   | false=>exact hk.2.1 rfl a _ aKN h2 id hid
  have Ah:∀x,x∈o.looksAt ops->env x=ee env oi.dst v x:=pL (λd hd=>a3 d hd)
  refine ⟨o,ho,k2 _ h' _ Ah aaw ?_⟩
  have aax:ku (ee env oi.dst v) o.op=ku env o.op:=by
   exact xy (vR Ah)
  simp only
  rw [aax,zJ (λx hx=>(λhe=>a2 x he hx):∀x,oi.dst=some x->o.dst≠some x)]
  exact hk.2.2
def zE (P:Program) (T:o9) (all:List Oper) (t:List (Nat×List Nat)) (A0 B0:List (Nat×Bool)) (K:Env->List ak->Prop):List (Nat×Bool)->List (Nat×List Nat)->Env->List ak->Prop
 | [],bP,env,h=>Dh P T all t K A0 bP env h/\Dh P T all t K B0 bP env h
 | (i,st)::r,bP,env,h=>∃o,all[i]? =some o/\fs P T all st o (λv h'=>match st with
   | true=>zE P T all t A0 B0 K r ((i,ku env o.op)::bP) (ee env o.dst v) h'
   | false=>(∀j ids,(j,ids)∈bP->j8 (dD t i) j=false->∀id,id∈ids->dz h id=dz h' id)/\zE P T all t A0 B0 K r bP (ee env o.dst v) h') env h
theorem vA {all:List Oper} {t:List (Nat×List Nat)} {A0 B0:List (Nat×Bool)} {K:Env->List ak->Prop}:∀(l:List (Nat×Bool)) (bP:List (Nat×List Nat)) (env:Env) (h:List ak),fw2 P T all t A0 B0 K l bP env h->zE P T all t A0 B0 K l bP env h
 | [],_,_,_,hp=>⟨kb _ _ _ _ hp.1,kb _ _ _ _ hp.2⟩
 | (i,true)::r,bP,env,h,hp=>by
  have hp:(match all[i]? with
   | some o=>qP P T all true o (λenv' v h'=>fw2 P T all t A0 B0 K r ((i,ku env' o.op)::bP) (ee env' o.dst v) h') env h
   | none=>False):=hp
  cases ho:all[i]? with
  | none=>rw [ho] at hp;exact hp.elim
  | some o=>
   rw [ho] at hp
   exact ⟨o,ho,dZ (λv h' hk=>vA r _ _ _ hk) (mC hp)⟩
 | (i,false)::r,bP,env,h,hp=>by
  have hp:(match all[i]? with
   | some o=>qP P T all false o (λenv' v h'=>ou (dD t i) h h' (fw2 P T all t A0 B0 K r bP (ee env' o.dst v) h') bP) env h
   | none=>False):=hp
  cases ho:all[i]? with
  | none=>rw [ho] at hp;exact hp.elim
  | some o=>
   rw [ho] at hp
   refine ⟨o,ho,dZ (λv h' hk=>?_) (mC hp)⟩
   obtain ⟨h1,h2⟩:=nz _ hk
   exact ⟨h1,vA r _ _ _ h2⟩
theorem zK {all:List Oper} {t:List (Nat×List Nat)} {A0 B0:List (Nat×Bool)} {K:Env->List ak->Prop}:∀(l:List (Nat×Bool)) (bP oU:List (Nat×List Nat)) (env:Env) (h:List ak),(∀x,x∈oU->x∈bP)->zE P T all t A0 B0 K l bP env h->zE P T all t A0 B0 K l oU env h
 | [],bP,oU,_,_,hs,hp=>⟨ss _ bP oU _ _ hs hp.1,ss _ bP oU _ _ hs hp.2⟩
 | (i,st)::r,bP,oU,env,h,hs,hp=>by
  obtain ⟨o,ho,hp⟩:=hp
  refine ⟨o,ho,dZ (λv h' hk=>?_) hp⟩
  cases st with
  | true=>exact zK r _ _ _ _ (λx hx=>by simp only [aHM] at hx ⊢;exact hx.imp id (hs x)) hk
  | false=>exact ⟨λj ids hj=>hk.1 j ids (hs _ hj),zK r _ _ _ _ hs hk.2⟩
theorem Fx {ops:Array Oper} {t:List (Nat×List Nat)} {A0 B0:List (Nat×Bool)} {K:Env->List ak->Prop} {i:Nat} {st:Bool} {oi:Oper} (xD:ops.toList[i]? =some oi):
  ∀(l1 l2:List (Nat×Bool)) (bP:List (Nat×List Nat)) (env:Env) (h:List ak),(∀p,p∈l1->p.2=true/\j8 (dD t i) p.1=false/\qN ops p.1 i=true)->zE P T ops.toList t A0 B0 K (l1++(i,st)::l2) bP env h->
   fs P T ops.toList st oi (λv h'=>(st=true->h'=h)/\(st=false->∀j ids,(j,ids)∈bP->j8 (dD t i) j=false->∀id,id∈ids->dz h id=dz h' id)/\zE P T ops.toList t A0 B0 K (l1++l2) bP (ee env oi.dst v) h') env h
 | [],l2,bP,env,h,_,hp=>by
  obtain ⟨o,ho,hp⟩:=hp
  rw [xD] at ho
  injection ho with ho
  subst ho
  cases st with
  | true=>
   obtain ⟨v,h1,h2⟩:=zI hp
   exact h2 env h _ (λ_ _=>rfl) (λ_ _=>rfl) ⟨λ_=>rfl,λhc=>Bool.noConfusion hc,zK _ _ _ _ _ (λx hx=>aHT _ hx) h1⟩
  | false=>exact dZ (λv h' hk=>⟨λhc=>Bool.noConfusion hc,λ_=>hk.1,hk.2⟩) hp
 | (a,sa)::l1,l2,bP,env,h,mG,hp=>by
  obtain ⟨h1,h2,h3⟩:=mG (a,sa) aKN
  simp only at h1 h2 h3
  subst h1
  obtain ⟨o,ho,hp⟩:=hp
  have hap:Oper.apart ops o oi=true:=by
   unfold qN at h3
   have e1:ops[a]? =some o:=by simpa using ho
   have e2:ops[i]? =some oi:=by simpa using xD
   rw [e1,e2] at h3
   exact h3
  obtain ⟨a1,a2,a3⟩:=Oper.apart_spec hap
  obtain ⟨u,k1,k2⟩:=zI hp
  have ih:=Fx xD l1 l2 _ _ h (λp hp=>mG p (aHT _ hp)) k1
  have ih':=N3 (env':=env) (λx hx=>(pL (λd hd=>a1 d hd) x hx).symm) ih
  refine dZ (λv h' hk=>⟨hk.1,λhc j ids hj=>hk.2.1 hc j ids (aHT _ hj),?_⟩) ih'
  have aaw:∀id,id∈ku env o.op->dz h id=dz h' id:=λid hid=>by
   cases st with
   | true=>rw [hk.1 rfl]
   | false=>exact hk.2.1 rfl a _ aKN h2 id hid
  have Ah:∀x,x∈o.looksAt ops->env x=ee env oi.dst v x:=pL (λd hd=>a3 d hd)
  refine ⟨o,ho,k2 _ h' _ Ah aaw ?_⟩
  have aax:ku (ee env oi.dst v) o.op=ku env o.op:=by
   exact xy (vR Ah)
  simp only
  rw [aax,zJ (λx hx=>(λhe=>a2 x he hx):∀x,oi.dst=some x->o.dst≠some x)]
  exact hk.2.2
theorem NS {all:List Oper} {t:List (Nat×List Nat)} {A0 B0:List (Nat×Bool)} {K:Env->List ak->Prop}:∀(l:List (Nat×Bool)) (bP:List (Nat×List Nat)) (env:Env) (h:List ak),zE P T all t A0 B0 K l bP env h->Dh P T all t K (l++A0) bP env h
 | [],_,_,_,hp=>hp.1
 | (i,st)::r,bP,env,h,hp=>by
  obtain ⟨o,ho,hp⟩:=hp
  refine ⟨o,ho,dZ (λv h' hk=>?_) hp⟩
  cases st with
  | true=>exact NS r _ _ _ hk
  | false=>exact ⟨hk.1,NS r _ _ _ hk.2⟩
theorem NT {all:List Oper} {t:List (Nat×List Nat)} {A0 B0:List (Nat×Bool)} {K:Env->List ak->Prop}:∀(l:List (Nat×Bool)) (bP:List (Nat×List Nat)) (env:Env) (h:List ak),zE P T all t A0 B0 K l bP env h->Dh P T all t K (l++B0) bP env h
 | [],_,_,_,hp=>hp.2
 | (i,st)::r,bP,env,h,hp=>by
  obtain ⟨o,ho,hp⟩:=hp
  refine ⟨o,ho,dZ (λv h' hk=>?_) hp⟩
  cases st with
  | true=>exact NT r _ _ _ hk
  | false=>exact ⟨hk.1,NT r _ _ _ hk.2⟩
def mI (P:Program) (T:o9) (all:List Oper) (t:List (Nat×List Nat)) (E:List (Nat×List Nat)->Env->List ak->Prop):List (Nat×Bool)->List (Nat×List Nat)->Env->List ak->Prop
 | [],bP,env,h=>E bP env h
 | (i,st)::r,bP,env,h=>∃o,all[i]? =some o/\fs P T all st o (λv h'=>match st with
   | true=>mI P T all t E r ((i,ku env o.op)::bP) (ee env o.dst v) h'
   | false=>(∀j ids,(j,ids)∈bP->j8 (dD t i) j=false->∀id,id∈ids->dz h id=dz h' id)/\mI P T all t E r bP (ee env o.dst v) h') env h
def tR (E:List (Nat×List Nat)->Env->List ak->Prop):Prop:=∀(bP oU:List (Nat×List Nat)) (env:Env) (h:List ak),(∀x,x∈oU->x∈bP)->E bP env h->E oU env h
theorem vT {all:List Oper} {t:List (Nat×List Nat)} {E:List (Nat×List Nat)->Env->List ak->Prop} (hE:tR E):∀(l:List (Nat×Bool)) (bP oU:List (Nat×List Nat)) (env:Env) (h:List ak),(∀x,x∈oU->x∈bP)->mI P T all t E l bP env h->mI P T all t E l oU env h
 | [],bP,oU,_,_,hs,hp=>hE bP oU _ _ hs hp
 | (i,st)::r,bP,oU,env,h,hs,hp=>by
  obtain ⟨o,ho,hp⟩:=hp
  refine ⟨o,ho,dZ (λv h' hk=>?_) hp⟩
  cases st with
  | true=>exact vT hE r _ _ _ _ (λx hx=>by simp only [aHM] at hx ⊢;exact hx.imp id (hs x)) hk
  | false=>exact ⟨λj ids hj=>hk.1 j ids (hs _ hj),vT hE r _ _ _ _ hs hk.2⟩
theorem vO {ops:Array Oper} {t:List (Nat×List Nat)} {E:List (Nat×List Nat)->Env->List ak->Prop} (hE:tR E) {i:Nat} {st:Bool} {oi:Oper} (xD:ops.toList[i]? =some oi):
  ∀(l1 l2:List (Nat×Bool)) (bP:List (Nat×List Nat)) (env:Env) (h:List ak),(∀p,p∈l1->p.2=true/\j8 (dD t i) p.1=false/\qN ops p.1 i=true)->mI P T ops.toList t E (l1++(i,st)::l2) bP env h->
   fs P T ops.toList st oi (λv h'=>(st=true->h'=h)/\(st=false->∀j ids,(j,ids)∈bP->j8 (dD t i) j=false->∀id,id∈ids->dz h id=dz h' id)/\mI P T ops.toList t E (l1++l2) bP (ee env oi.dst v) h') env h
 | [],l2,bP,env,h,_,hp=>by
  obtain ⟨o,ho,hp⟩:=hp
  rw [xD] at ho
  injection ho with ho
  subst ho
  cases st with
  | true=>
   obtain ⟨v,h1,h2⟩:=zI hp
   exact h2 env h _ (λ_ _=>rfl) (λ_ _=>rfl) ⟨λ_=>rfl,λhc=>Bool.noConfusion hc,vT hE _ _ _ _ _ (λx hx=>aHT _ hx) h1⟩
  | false=>exact dZ (λv h' hk=>⟨λhc=>Bool.noConfusion hc,λ_=>hk.1,hk.2⟩) hp
 | (a,sa)::l1,l2,bP,env,h,mG,hp=>by
  obtain ⟨h1,h2,h3⟩:=mG (a,sa) aKN
  simp only at h1 h2 h3
  subst h1
  obtain ⟨o,ho,hp⟩:=hp
  have hap:Oper.apart ops o oi=true:=by
   unfold qN at h3
   have e1:ops[a]? =some o:=by simpa using ho
   have e2:ops[i]? =some oi:=by simpa using xD
   rw [e1,e2] at h3
   exact h3
  obtain ⟨a1,a2,a3⟩:=Oper.apart_spec hap
  obtain ⟨u,k1,k2⟩:=zI hp
  have ih:=vO hE xD l1 l2 _ _ h (λp hp=>mG p (aHT _ hp)) k1
  have ih':=N3 (env':=env) (λx hx=>(pL (λd hd=>a1 d hd) x hx).symm) ih
  refine dZ (λv h' hk=>⟨hk.1,λhc j ids hj=>hk.2.1 hc j ids (aHT _ hj),?_⟩) ih'
  have aaw:∀id,id∈ku env o.op->dz h id=dz h' id:=λid hid=>by
   cases st with
   | true=>rw [hk.1 rfl]
   | false=>exact hk.2.1 rfl a _ aKN h2 id hid
  have Ah:∀x,x∈o.looksAt ops->env x=ee env oi.dst v x:=pL (λd hd=>a3 d hd)
  refine ⟨o,ho,k2 _ h' _ Ah aaw ?_⟩
  have aax:ku (ee env oi.dst v) o.op=ku env o.op:=by
   exact xy (vR Ah)
  simp only
  rw [aax,zJ (λx hx=>(λhe=>a2 x he hx):∀x,oi.dst=some x->o.dst≠some x)]
  exact hk.2.2
theorem vy {all:List Oper} {t:List (Nat×List Nat)} {E:List (Nat×List Nat)->Env->List ak->Prop} {l':List (Nat×Bool)}:∀(l:List (Nat×Bool)) (bP:List (Nat×List Nat)) (env:Env) (h:List ak),mI P T all t (λbP env h=>mI P T all t E l' bP env h) l bP env h->mI P T all t E (l++l') bP env h
 | [],_,_,_,hp=>hp
 | (i,st)::r,bP,env,h,hp=>by
  obtain ⟨o,ho,hp⟩:=hp
  refine ⟨o,ho,dZ (λv h' hk=>?_) hp⟩
  cases st with
  | true=>exact vy r _ _ _ hk
  | false=>exact ⟨hk.1,vy r _ _ _ hk.2⟩
theorem yz {all:List Oper} {t:List (Nat×List Nat)} {E E':List (Nat×List Nat)->Env->List ak->Prop} (hi:∀bP env h,E bP env h->E' bP env h):∀(l:List (Nat×Bool)) (bP:List (Nat×List Nat)) (env:Env) (h:List ak),mI P T all t E l bP env h->mI P T all t E' l bP env h
 | [],_,_,_,hp=>hi _ _ _ hp
 | (i,st)::r,bP,env,h,hp=>by
  obtain ⟨o,ho,hp⟩:=hp
  refine ⟨o,ho,dZ (λv h' hk=>?_) hp⟩
  cases st with
  | true=>exact yz hi r _ _ _ hk
  | false=>exact ⟨hk.1,yz hi r _ _ _ hk.2⟩
theorem vx {all:List Oper} {t:List (Nat×List Nat)} {K:Env->List ak->Prop} {l':List (Nat×Bool)}:∀(l:List (Nat×Bool)) (bP:List (Nat×List Nat)) (env:Env) (h:List ak),mI P T all t (λbP env h=>Dh P T all t K l' bP env h) l bP env h->Dh P T all t K (l++l') bP env h
 | [],_,_,_,hp=>hp
 | (i,st)::r,bP,env,h,hp=>by
  obtain ⟨o,ho,hp⟩:=hp
  refine ⟨o,ho,dZ (λv h' hk=>?_) hp⟩
  cases st with
  | true=>exact vx r _ _ _ hk
  | false=>exact ⟨hk.1,vx r _ _ _ hk.2⟩
theorem mB {all:List Oper} {t:List (Nat×List Nat)} {E E':List (Nat×List Nat)->Env->List ak->Prop} (hi:∀bP env h,E bP env h->E' bP env h):∀(l:List (Nat×Bool)) (bP:List (Nat×List Nat)) (env:Env) (h:List ak),fwE P T all t E l bP env h->mI P T all t E' l bP env h
 | [],_,_,_,hp=>hi _ _ _ hp
 | (i,true)::r,bP,env,h,hp=>by
  have hp:(match all[i]? with
   | some o=>qP P T all true o (λenv' v h'=>fwE P T all t E r ((i,ku env' o.op)::bP) (ee env' o.dst v) h') env h
   | none=>False):=hp
  cases ho:all[i]? with
  | none=>rw [ho] at hp;exact hp.elim
  | some o=>
   rw [ho] at hp
   exact ⟨o,ho,dZ (λv h' hk=>mB hi r _ _ _ hk) (mC hp)⟩
 | (i,false)::r,bP,env,h,hp=>by
  have hp:(match all[i]? with
   | some o=>qP P T all false o (λenv' v h'=>ou (dD t i) h h' (fwE P T all t E r bP (ee env' o.dst v) h') bP) env h
   | none=>False):=hp
  cases ho:all[i]? with
  | none=>rw [ho] at hp;exact hp.elim
  | some o=>
   rw [ho] at hp
   refine ⟨o,ho,dZ (λv h' hk=>?_) (mC hp)⟩
   obtain ⟨h1,h2⟩:=nz _ hk
   exact ⟨h1,mB hi r _ _ _ h2⟩
theorem mA {all:List Oper} {t:List (Nat×List Nat)} {K:Env->List ak->Prop} (l:List (Nat×Bool)):tR (λbP env h=>Dh P T all t K l bP env h):=λbP oU env h hs hp=>ss l bP oU env h hs hp
theorem k8 {all:List Oper} {t:List (Nat×List Nat)} {E:List (Nat×List Nat)->Env->List ak->Prop} (hE:tR E) (l:List (Nat×Bool)):tR (λbP env h=>mI P T all t E l bP env h):=λbP oU env h hs hp=>vT hE l bP oU env h hs hp
theorem zF {E E':List (Nat×List Nat)->Env->List ak->Prop} (h1:tR E) (h2:tR E'):tR (λbP env h=>E bP env h/\E' bP env h):=λbP oU env h hs hp=>⟨h1 bP oU env h hs hp.1,h2 bP oU env h hs hp.2⟩
end
theorem aY.mono {S S':Nat->Prop} {w w':World} (hw:∀b,S b->w'.heap[b]? =w.heap[b]?) (hS:∀b,S b->S' b) {pv:PV} {v:Value} (h:aY S w pv v):aY S' w' pv v:=by
 induction h with
 | int k n=>exact .int k n
 | bool b=>exact .bool b
 | str s=>exact .str s
 | cd=>exact .cd
 | iC=>exact .iC
 | fn f=>exact .fn f
 | uk sz f a c=>exact .uk sz f a c
 | ig sz n f b off c vf h1 h2 h3 h4 _ ih=>
  exact .ig sz n f b off c vf (hS b h1) h2 h3 (λi j pv hi hj=>(World.cell?_of_block (w:=w) (hw b h1)).trans (h4 i j pv hi hj)) ih
 | gB cs b off vf h1 h4 _ ih=>
  exact .gB cs b off vf (hS b h1) (λj pv hj=>(World.cell?_of_block (w:=w) (hw b h1)).trans (h4 j pv hj)) ih
theorem kq.of_same {w w':World} {b k:Nat} (h:w'.heap[b]? =w.heap[b]?) (hc:kq w b k):kq w' b k:=by
 obtain ⟨cur,e,z,h1,h2⟩:=hc
 exact ⟨cur,e,z,h.trans h1,h2⟩
theorem kq.least {w:World} {b k:Nat} (h:kq w b k):kq w b 0:=by
 obtain ⟨cur,e,z,h1,h2⟩:=h
 exact ⟨cur,e,z,h1,aIS _⟩
theorem mg.mono {S S':Nat->Prop} {w w':World} (hw:∀b,S b->w'.heap[b]? =w.heap[b]?) (hS:∀b,S b->S' b) {pv:PV} {v:Value} (h:mg S w pv v):
  (∀sz n e f F,pv=.dY sz n e f F->∀b,F b->w'.heap[b]? =w.heap[b]?)->mg S' w' pv v:=by
 induction h with
 | nil sz e f F hF=>exact λ_=>.nil sz e f F hF
 | KE sz n e f F b off c a cur vf hF hb hlen hc ha fY bs pa u7 Ep KF ih=>
  intro hk
  have hk:=hk _ _ _ _ _ rfl
  exact .KE sz n e f F b off c a cur vf hF ((hk b hF).trans hb) hlen hc ha fY bs (λi j pv hi hj=>(pa i j pv hi hj).imp_left (λq=>q.mono hw hS))
   (λi j cr n' e' f' F' hi hj=>ih i j cr n' e' f' F' hi hj (λ_ _ _ _ _ he b' nA=>by
    injection he with _ _ _ _ he
    subst he
    exact hk b' (Ep i j cr n' e' f' _ hi hj b' nA).1)) Ep KF
inductive OG (G:PV->Prop):PV->Prop
 | mk (sz n:Nat) (e:TypeId) (f:Nat->List PV) (F:Nat->Prop) (h1:∀(i j:Nat) (pv:PV),i<n->(f i)[j]? =some pv->dW pv=false->G pv)
   (h2:∀(i j cr n':Nat) (e':TypeId) (f':Nat->List PV) (F':Nat->Prop),i<n->(f i)[j]? =some (.dY cr n' e' f' F')->OG G (.dY cr n' e' f' F')):OG G (.dY sz n e f F)
theorem mg.og {S S':Nat->Prop} {w:World} {G:PV->Prop} (hG:∀pv v,G pv->aY S w pv v->aY S' w pv v) {pv:PV} {v:Value} (h:mg S w pv v):OG G pv->mg S' w pv v:=by
 induction h with
 | nil sz e f F hF=>exact λ_=>.nil sz e f F hF
 | KE sz n e f F b off c a cur vf hF hb hlen hc ha fY bs pa u7 Ep KF ih=>
  intro hg
  cases hg with
  | mk _ _ _ _ _ h1 h2=>
   exact .KE sz n e f F b off c a cur vf hF hb hlen hc ha fY bs (λi j pv hi hj=>by
    cases hx:dW pv with
    | false=>exact (pa i j pv hi hj).imp_left (λq=>hG pv _ (h1 i j pv hi hj hx) q)
    | true=>exact .inr (by cases pv<;>first | exact ⟨_,_,_,_,_,rfl⟩ | cases hx)) (λi j cr n' e' f' F' hi hj=>ih i j cr n' e' f' F' hi hj (h2 i j cr n' e' f' F' hi hj)) Ep KF
theorem mg.all {S:Nat->Prop} {w:World} {pv:PV} {v:Value} (h:mg S w pv v):OG (λ_=>True) pv:=by
 induction h with
 | nil sz e f F hF=>exact .mk sz 0 e f F (λ_ _ _ _ _ _=>trivial) (λi j _ _ _ _ _ hi=>absurd hi (aIs _))
 | KE sz n e f F b off c a cur vf hF hb hlen hc ha fY bs pa u7 Ep KF ih=>exact .mk sz n e f F (λ_ _ _ _ _ _=>trivial) ih
theorem mg.one {S:Nat->Prop} {w:World} {pv:PV} {v:Value} (h:mg S w pv v):v.oneCell'=true:=by cases h<;>rfl
section
variable {μ μ':Mu} {h h':List ak} {S S':Nat->Prop} {w w':World}
theorem cz.lp {pv:PV} {v:Value} (hp:aY S w pv v):cz μ h S w pv v:=by
 cases hp<;>first | exact .int _ _ | exact .bool _ | exact .str _ | exact .cd | exact .iC | exact .fn _ | exact .uk _ _ _ _ | (rename_i h1 h2 h3 h4 h5 _;first | exact .ig _ _ _ _ _ _ _ ‹_› ‹_› ‹_› ‹_› ‹_›) | exact .gB _ _ _ _ ‹_› ‹_› ‹_›
theorem cz.fr (hf:Fr μ h S w μ' h' S' w') (hm:ta μ h S w) {pv:PV} {v:Value} (hc:cz μ h S w pv v):cz μ' h' S' w' pv v:=by
 have hS:∀b,S b->w'.heap[b]? =w.heap[b]? :=λb hb=>hf.blocks b (hm.slt b hb) (λho=>hm.apart b ho hb)
 have ve:∀(id gen i off:Nat) (v:Value),cG μ h w id gen i off v->cG μ' h' w' id gen i off v:=λid gen i off v hc=>by
  unfold cG at hc ⊢
  obtain ⟨Qf,hc⟩:=hc
  refine ⟨Qf,?_⟩
  cases ho:h[id]? with
  | none=>rw [ho] at hc;exact hc.elim
  | some o=>
   cases o with
   | dead=>rw [hf.dead id ho];trivial
   | row g sz n e f=>
    rw [ho] at hc
    have hg:=hf.CH id g sz n e f ho
    cases Sp:h'[id]? with
    | none=>rw [Sp] at hg;exact hg
    | some o'=>
     cases o' with
     | dead=>trivial
     | row g' cr n' e' f'=>
      rw [Sp] at hg
      obtain ⟨hle,gO⟩:=hg
      obtain ⟨alL,hc⟩:=hc
      refine ⟨aIH alL hle,λhe=>?_⟩
      have heq:g'=g:=by omega
      obtain ⟨hμ,rfl,rfl,rfl⟩:=gO heq
      obtain ⟨h1,h2⟩:=hc aKK
      refine ⟨h1,?_⟩
      rw [hμ]
      obtain ⟨b,base,q1,q2,q3⟩:=h2
      exact ⟨b,base,q1,⟨hf.cH b _ (.inl ⟨id,g,_,_,_,_,base,ho,q1⟩) q2.1,q2.2⟩,q3⟩
 cases pv with
 | own id gen off len=>
  have hc:bC μ h w id gen off len v:=hc
  show bC μ' h' w' id gen off len v
  unfold bC at hc ⊢
  obtain ⟨Qf,hc⟩:=hc
  refine ⟨Qf,?_⟩
  cases ho:h[id]? with
  | none=>rw [ho] at hc;exact hc.elim
  | some o=>
   cases o with
   | dead=>rw [hf.dead id ho];trivial
   | row g sz n e f=>
    rw [ho] at hc
    have hg:=hf.CH id g sz n e f ho
    cases Sp:h'[id]? with
    | none=>rw [Sp] at hg;exact hg
    | some o'=>
     cases o' with
     | dead=>trivial
     | row g' cr n' e' f'=>
      rw [Sp] at hg
      obtain ⟨hle,gO⟩:=hg
      obtain ⟨alL,hc⟩:=hc
      refine ⟨aIH alL hle,λhe=>?_⟩
      have heq:g'=g:=by omega
      obtain ⟨hμ,rfl,rfl,rfl⟩:=gO heq
      obtain ⟨h1,h2⟩:=hc aKK
      refine ⟨h1,?_⟩
      rw [hμ]
      cases hC:μ id with
      | none=>rw [hC] at h2;exact h2
      | some p=>
       obtain ⟨b,base⟩:=p
       rw [hC] at h2
       obtain ⟨a,cap,h3,h4,h5,h6⟩:=h2
       exact ⟨a,cap,h3,h4,h5,hf.cH b _ (.inl ⟨id,g,_,_,_,_,base,ho,hC⟩) h6⟩
 | aC id gen i off=>exact ve _ _ _ _ _ hc
 | qE f cH=>exact uq.mono (show pc μ h w f cH v from hc) (λid g u hu=>ve _ _ _ _ _ hu)
 | oL id=>
  have hc:gI μ h w id v:=hc
  show gI μ' h' w' id v
  unfold gI at hc ⊢
  obtain ⟨Qf,hc⟩:=hc
  refine ⟨Qf,?_⟩
  cases ho:h[id]? with
  | none=>rw [ho] at hc;exact hc.elim
  | some o=>
   cases o with
   | dead=>rw [hf.dead id ho];trivial
   | row g sz n e f=>
    rw [ho] at hc
    obtain ⟨b,base,q1,q2,q3⟩:=hc
    obtain ⟨r1,r2⟩:=hf.maps id g sz n e f b base ho q1 q2
    rcases r2 with r2 | ⟨⟨g',cr,n',e',f',r2⟩,r3⟩
    ·rw [r2];trivial
    ·rw [r2];exact ⟨b,base,r3,r1,q3⟩
 | jf=>exact hc
 | dY sz n e f F=>exact hc
 | agg cs=>exact hc.elim
 | fv cs=>exact hc.elim
 | int k n=>exact aY.mono hS hf.sub hc
 | bool b=>exact aY.mono hS hf.sub hc
 | str s=>exact aY.mono hS hf.sub hc
 | cd=>exact aY.mono hS hf.sub hc
 | iC=>exact aY.mono hS hf.sub hc
 | ig sz n f=>exact aY.mono hS hf.sub hc
 | gB cs=>exact aY.mono hS hf.sub hc
 | fn f=>exact aY.mono hS hf.sub hc
theorem jF.fr (hf:Fr μ h S w μ' h' S' w') (hm:ta μ h S w) {pv:PV} {v:Value} (hc:jF μ h S w pv v):jF μ' h' S' w' pv v:=by
 cases pv with
 | agg cs=>
  obtain ⟨vs,h1,h2,h3⟩:=hc
  exact ⟨vs,h1,h2,λj pv hj=>let ⟨u,hu,hr⟩:=h3 j pv hj;⟨u,hu,hr.fr hf hm⟩⟩
 | int k n=>exact cz.fr (pv:=.int k n) hf hm hc
 | bool b=>exact cz.fr (pv:=.bool b) hf hm hc
 | str s=>exact cz.fr (pv:=.str s) hf hm hc
 | cd =>exact cz.fr (pv:=.cd) hf hm hc
 | iC=>exact cz.fr (pv:=.iC) hf hm hc
 | ig sz n f=>exact cz.fr (pv:=.ig sz n f) hf hm hc
 | gB cs=>exact cz.fr (pv:=.gB cs) hf hm hc
 | own id gen off len=>exact cz.fr (pv:=.own id gen off len) hf hm hc
 | aC id gen i off=>exact cz.fr (pv:=.aC id gen i off) hf hm hc
 | oL id=>exact cz.fr (pv:=.oL id) hf hm hc
 | qE f cH=>exact cz.fr (pv:=.qE f cH) hf hm hc
 | fn f=>exact cz.fr (pv:=.fn f) hf hm hc
 | jf=>trivial
 | dY sz n e f F=>exact cz.fr (pv:=.dY sz n e f F) hf hm hc
 | fv cs=>exact (show False from hc).elim
theorem bS.fr (hf:Fr μ h S w μ' h' S' w') (hm:ta μ h S w) {pv:PV} {v:Value} (hc:bS μ h S w pv v):bS μ' h' S' w' pv v:=by
 cases pv with
 | fv cs=>
  obtain ⟨vs,h1,h2,h3⟩:=hc
  exact ⟨vs,h1,h2,λj pv hj=>let ⟨u,hu,hr⟩:=h3 j pv hj;⟨u,hu,hr.fr hf hm⟩⟩
 | int k n=>exact jF.fr (pv:=.int k n) hf hm hc
 | bool b=>exact jF.fr (pv:=.bool b) hf hm hc
 | str s=>exact jF.fr (pv:=.str s) hf hm hc
 | cd =>exact jF.fr (pv:=.cd) hf hm hc
 | iC=>exact jF.fr (pv:=.iC) hf hm hc
 | ig sz n f=>exact jF.fr (pv:=.ig sz n f) hf hm hc
 | gB cs=>exact jF.fr (pv:=.gB cs) hf hm hc
 | own id gen off len=>exact jF.fr (pv:=.own id gen off len) hf hm hc
 | aC id gen i off=>exact jF.fr (pv:=.aC id gen i off) hf hm hc
 | oL id=>exact jF.fr (pv:=.oL id) hf hm hc
 | qE f cH=>exact jF.fr (pv:=.qE f cH) hf hm hc
 | fn f=>exact jF.fr (pv:=.fn f) hf hm hc
 | jf=>trivial
 | dY sz n e f F=>exact jF.fr (pv:=.dY sz n e f F) hf hm hc
 | agg cs=>exact jF.fr (pv:=.agg cs) hf hm hc
theorem aY.one {pv:PV} {v:Value} (hp:aY S w pv v):v.oneCell'=true:=by cases hp<;>rfl
theorem cz.one {pv:PV} {v:Value} (hc:cz μ h S w pv v):v.oneCell'=true:=by
 cases pv with
 | own id gen off len=>
  obtain ⟨⟨a,l,c,rfl⟩,_⟩:=(show bC μ h w id gen off len v from hc)
  rfl
 | aC id gen i off=>
  obtain ⟨⟨a,rfl⟩,_⟩:=(show cG μ h w id gen i off v from hc)
  rfl
 | oL id=>
  obtain ⟨⟨a,rfl⟩,_⟩:=(show gI μ h w id v from hc)
  rfl
 | qE f cH=>
  obtain ⟨vs,rfl,_⟩:=(show pc μ h w f cH v from hc)
  rfl
 | jf=>exact hc
 | dY sz n e f F=>exact hc
 | agg cs=>exact (show False from hc).elim
 | fv cs=>exact (show False from hc).elim
 | int k n=>exact aY.one (show aY S w _ v from hc)
 | bool b=>exact aY.one (show aY S w _ v from hc)
 | str s=>exact aY.one (show aY S w _ v from hc)
 | cd=>exact aY.one (show aY S w _ v from hc)
 | iC=>exact aY.one (show aY S w _ v from hc)
 | ig sz n f=>exact aY.one (show aY S w _ v from hc)
 | gB cs=>exact aY.one (show aY S w _ v from hc)
 | fn f=>exact aY.one (show aY S w _ v from hc)
theorem pd.c {pv:PV} {v:Value} (hc:pd μ h S w pv v):cz μ h S w pv v:=by
 cases pv with
 | dY sz n e f F=>exact mg.one (show mg S w (.dY sz n e f F) v from hc)
 | _=>exact hc
theorem cz.k {pv:PV} {v:Value} (hc:cz μ h S w pv v) (ho:dW pv=false):pd μ h S w pv v:=by
 cases pv with
 | dY sz n e f F=>cases ho
 | _=>exact hc
theorem pd.fr (hf:Fr μ h S w μ' h' S' w') (hm:ta μ h S w) {pv:PV} {v:Value} (hF:∀sz n e f F,pv=.dY sz n e f F->∀b,F b->w'.heap[b]? =w.heap[b]?) (hc:pd μ h S w pv v):pd μ' h' S' w' pv v:=by
 cases pv with
 | dY sz n e f F=>exact mg.mono (λb hb=>hf.blocks b (hm.slt b hb) (λho=>hm.apart b ho hb)) hf.sub (show mg S w (.dY sz n e f F) v from hc) hF
 | _=>exact (cz.fr hf hm (pd.c hc)).k rfl
theorem yl {id i j b:Nat}:¬dU [] id i j b:=λ⟨_,_,_,_,_,_,_,_,_,_,h1,_⟩=>by simp at h1
theorem lx {μ:Mu} {b:Nat}:¬di μ [] b:=λh=>by
 rcases h with ⟨id,g,sz,n,e,f,base,h1,_⟩ | ⟨_,_,_,h1⟩
 ·simp at h1
 ·exact yl h1
theorem Fr.refl:Fr μ h S w μ h S w where
 len:=No _
 blocks _ _ _:=rfl
 sub _ hb:=hb
 new _ hb:=.inl hb
 own _ hb:=.inl hb
 size:=No _
 os:=rfl
 tape:=rfl
 output:=rfl
 CH id g sz n e f hh:=by rw [hh];exact ⟨No _,λ_=>⟨rfl,rfl,rfl,rfl⟩⟩
 dead _ hh:=hh
 cH _ _ _ hc:=hc
 maps id g sz n e f b base ho hm hb:=⟨hb,.inr ⟨⟨g,sz,n,e,f,ho⟩,hm⟩⟩
 wv b id i j hh hb:=hb
theorem Fr.trans {μ'':Mu} {h'':List ak} {S'':Nat->Prop} {Zd:World} (a:Fr μ h S w μ' h' S' w') (b:Fr μ' h' S' w' μ'' h'' S'' Zd):Fr μ h S w μ'' h'' S'' Zd where
 len:=aIH a.len b.len
 blocks k hk hn:=(b.blocks k (aHX hk a.size) (λho=>by
  rcases a.own k ho with h1 | h1
  ·exact hn h1
  ·omega)).trans (a.blocks k hk hn)
 sub k hk:=b.sub k (a.sub k hk)
 new k hk:=by
  rcases b.new k hk with h1 | h1 | h1
  ·exact a.new k h1
  ·rcases a.own k h1 with h2 | h2
   ·exact .inr (.inl h2)
   ·exact .inr (.inr h2)
  ·exact .inr (.inr (aIH a.size h1))
 own k hk:=by
  rcases b.own k hk with h1 | h1
  ·exact a.own k h1
  ·exact .inr (aIH a.size h1)
 size:=aIH a.size b.size
 os:=b.os.trans a.os
 tape:=b.tape.trans a.tape
 output:=b.output.trans a.output
 CH id g sz n e f hh:=by
  have h1:=a.CH id g sz n e f hh
  cases Sp:h'[id]? with
  | none=>rw [Sp] at h1;exact h1.elim
  | some o'=>
   cases o' with
   | dead=>rw [b.dead id Sp];trivial
   | row g' cr n' e' f'=>
    rw [Sp] at h1
    have h2:=b.CH id g' cr n' e' f' Sp
    cases ho'':h''[id]? with
    | none=>rw [ho''] at h2;exact h2
    | some o''=>
     cases o'' with
     | dead=>trivial
     | row g'' sz'' n'' e'' f''=>
      rw [ho''] at h2
      refine ⟨aIH h1.1 h2.1,λhe=>?_⟩
      have e1:g'=g:=by have:=h1.1;have:=h2.1;omega
      have e2:g''=g':=by omega
      obtain ⟨x1,x2,x3,x4⟩:=h1.2 e1
      obtain ⟨y1,y2,y3,y4⟩:=h2.2 e2
      exact ⟨y1.trans x1,y2.trans x2,y3.trans x3,y4.trans x4⟩
 dead id hh:=b.dead id (a.dead id hh)
 cH k c ho hc:=by
  have h1:=a.cH k c ho hc
  by_cases h2:di μ' h' k
  ·exact b.cH k c h2 h1
  ·refine kq.of_same (b.blocks k ?_ h2) h1
   obtain ⟨cur,e,z,h3,_⟩:=h1
   exact (abL.1 h3).1
 maps id g sz n e f k base ho hm hb:=by
  obtain ⟨h1,h2⟩:=a.maps id g sz n e f k base ho hm hb
  rcases h2 with h2 | ⟨⟨g',cr,n',e',f',h2⟩,h3⟩
  ·refine ⟨?_,.inl (b.dead id h2)⟩
   by_cases h4:di μ' h' k
   ·rcases h4 with ⟨j,g',cr,n',e',f',oM,j1,j2⟩ | ⟨j,x,y,h4⟩
    ·exact (b.maps j g' cr n' e' f' k oM j1 j2 h1).1
    ·exact b.wv k j x y h4 h1
   ·obtain ⟨es,c,h5⟩:=h1
    exact ⟨es,c,(b.blocks k (abL.1 h5).1 h4).trans h5⟩
  ·exact b.maps id g' cr n' e' f' k base h2 h3 h1
 wv k id i j hh hb:=by
  have h1:=a.wv k id i j hh hb
  by_cases h4:di μ' h' k
  ·rcases h4 with ⟨j,g',cr,n',e',f',oM,j1,j2⟩ | ⟨j,x,y,h4⟩
   ·exact (b.maps j g' cr n' e' f' k oM j1 j2 h1).1
   ·exact b.wv k j x y h4 h1
  ·obtain ⟨es,c,h5⟩:=h1
   exact ⟨es,c,(b.blocks k (abL.1 h5).1 h4).trans h5⟩
structure cD (w w':World):Prop where
 blocks:∀b,b<w.heap.size->w'.heap[b]? =w.heap[b]?
 size:w.heap.size<=w'.heap.size
 os:w'.os=w.os
 tape:w'.tape=w.tape
 output:w'.output=w.output
theorem cD.refl (w:World):cD w w:=⟨λ_ _=>rfl,No _,rfl,rfl,rfl⟩
theorem cD.trans {a b c:World} (x:cD a b) (y:cD b c):cD a c:=
 ⟨λk hk=>(y.blocks k (aHX hk x.size)).trans (x.blocks k hk),aIH x.size y.size,y.os.trans x.os,y.tape.trans x.tape,y.output.trans x.output⟩
theorem cD.cell {w w':World} (h:cD w w') {a:Addr} {u:Value} (hc:w.cell? a=some u):w'.cell? a=some u:=
 (World.cell?_of_block (w:=w) (h.blocks a.block (World.block_lt_of_cell? _ _ hc))).trans hc
theorem cD.drew (w:World):cD w w.drew:=⟨λ_ _=>rfl,No _,rfl,rfl,rfl⟩
theorem cD.drewN (w:World) (n:Nat):cD w (w.drewN n):=⟨λ_ _=>rfl,No _,rfl,rfl,rfl⟩
theorem kq.lt {b k:Nat} (h:kq w b k):b<w.heap.size:=by
 obtain ⟨cur,e,z,h1,_⟩:=h
 exact (abL.1 h1).1
theorem Fr.rH (ha:cD w w'):Fr μ h S w μ h S w' where
 len:=No _
 blocks b hb _:=ha.blocks b hb
 sub _ hb:=hb
 new _ hb:=.inl hb
 own _ hb:=.inl hb
 size:=ha.size
 os:=ha.os
 tape:=ha.tape
 output:=ha.output
 CH id g sz n e f hh:=by rw [hh];exact ⟨No _,λ_=>⟨rfl,rfl,rfl,rfl⟩⟩
 dead _ hh:=hh
 cH b k _ hc:=kq.of_same (ha.blocks b hc.lt) hc
 maps id g sz n e f b base ho hm hb:=⟨let ⟨es,c,h5⟩:=hb;⟨es,c,(ha.blocks b (abL.1 h5).1).trans h5⟩,.inr ⟨⟨g,sz,n,e,f,ho⟩,hm⟩⟩
 wv b id i j _ hb:=let ⟨es,c,h5⟩:=hb;⟨es,c,(ha.blocks b (abL.1 h5).1).trans h5⟩
theorem ta.zk (hm:ta μ h S w) (hF:Fr μ h S w μ' h' S' w'):Oc S' w':=
 hm.known.fx (λb hb=>hF.blocks b (hm.slt b hb) (λho=>hm.apart b ho hb)) hF.sub
theorem ta.agree (ha:cD w w') (hm:ta μ h S w):ta μ h S w':=
 ⟨hm.apart,λb hb=>aHX (hm.lt b hb) ha.size,λb hb=>aHX (hm.slt b hb) ha.size,hm.inj,hm.known.fx (λb hb=>ha.blocks b (hm.slt b hb)) (λ_ hb=>hb),hm.hv,hm.hh⟩
theorem cZ.agree (ha:cD w w') (hm:ta μ h S w) (hh:cZ μ h S w):cZ μ h S w':=by
 intro id g sz n e f ho
 obtain ⟨h1,h2⟩:=hh id g sz n e f ho
 refine ⟨h1,?_⟩
 cases hC:μ id with
 | none=>rw [hC] at h2;exact h2
 | some p=>
  obtain ⟨b,base⟩:=p
  rw [hC] at h2
  obtain ⟨o,h3,h4⟩:=h2
  have bg:b<w.heap.size:=(abL.1 h3).1
  exact ⟨o,(ha.blocks b bg).trans h3,h4.mono (λi j pv v hi hj hr=>hr.fr (Fr.rH ha) hm (λcr n' e' f' F' he b' nA=>ha.blocks b' (hm.lt b' (.inr ⟨id,i,j,g,sz,n,e,f,cr,n',e',f',F',ho,hi,by rw [hj,he],nA⟩))))⟩
end
end Go.Am
