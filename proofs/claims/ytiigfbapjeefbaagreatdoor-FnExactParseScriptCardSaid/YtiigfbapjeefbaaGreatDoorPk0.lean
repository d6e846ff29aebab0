/- Texts of the proof, joined and shortened. -/
import Derived.WalkKit
import Derived.Deep.Draws
import Derived.Deep.Quiet
namespace Go.Am
open Go Go.RowKit
set_option linter.unusedVariables false
abbrev an:=@List.length_cons
abbrev mg:=@List.length_nil
abbrev An:=@List.getElem?_eq_some_iff
abbrev As:=@Nat.le_refl
abbrev At:=@Bool.and_eq_true
abbrev No:=@Nat.eq_of_beq_eq_true
abbrev Of:=@List.getElem?_eq_getElem
abbrev abF:=@Array.getElem?_eq_some_iff
abbrev abL:=@List.length_append
abbrev amb:=@Bool.false_eq_true
abbrev are:=@Bool.false_ne_true
abbrev aKa:=@List.drop_eq_nil_of_le
abbrev aKb:=@List.getD_eq_getElem?_getD
abbrev aKc:=@Nat.zero_add
abbrev aKd:=@List.all_eq_true
abbrev aKe:=@Nat.lt_succ_self
abbrev aKf:=@List.all_cons
abbrev aKg:=@List.drop_eq_getElem_cons
abbrev aKh:=@List.drop_zero
abbrev aKi:=@Nat.add_mul
abbrev aKj:=@List.mem_append
abbrev aKk:=@List.nil_append
abbrev aKl:=@List.mem_of_getElem?
abbrev aKm:=@Nat.lt_of_lt_of_le
abbrev aKn:=@Nat.mul_le_mul_right
abbrev aKo:=@List.mem_cons
abbrev aKp:=@List.map_cons
abbrev aKq:=@List.getElem?_map
abbrev aKr:=@List.getElem_mem
abbrev aKs:=@List.getElem?_set_ne
abbrev aKt:=@List.getElem?_append_right
abbrev aKu:=@Bool.false_or
abbrev aKv:=@Bool.and_true
abbrev aKw:=@Nat.le_of_ble_eq_true
abbrev aKx:=@Bool.and_false
abbrev aKy:=@List.append_assoc
abbrev aKz:=@List.mem_cons_of_mem
abbrev aKA:=@Array.getElem?_eq_getElem
abbrev aKB:=@List.getElem?_append_left
abbrev aKC:=@Nat.le_of_lt
abbrev aKD:=@Bool.or_false
abbrev aKE:=@List.getElem?_cons_succ
abbrev aKF:=@List.append_nil
abbrev aKG:=@Array.getElem?_toList
abbrev aKH:=@List.getElem?_cons_zero
abbrev aKI:=@List.map_nil
abbrev aKJ:=@List.mem_map
abbrev aKK:=@List.contains_cons
abbrev aKL:=@List.all_nil
abbrev aKM:=@List.getElem?_eq_none
abbrev aKN:=@Bool.not_eq_true'
abbrev aKO:=@List.contains_nil
abbrev aKP:=@List.getElem?_set_self
abbrev aKQ:=@Nat.le_succ
abbrev aKR:=@Nat.not_lt_zero
abbrev aKS:=@List.length_drop
abbrev aKT:=@Nat.add_sub_cancel_left
abbrev aKU:=@Array.getElem?_append_left
abbrev aKV:=@List.getElem?_nil
abbrev aKW:=@Nat.le_trans
abbrev aKX:=@Nat.lt_or_ge
abbrev aKY:=@List.cons_append
abbrev aKZ:=@Nat.add_zero
abbrev aLa:=@Bool.or_true
abbrev aLb:=@Bool.true_or
abbrev aLc:=@Bool.true_and
abbrev aLd:=@Array.eq_empty_of_size_eq_zero
abbrev aLe:=@List.getElem?_drop
abbrev aLf:=@Nat.eq_zero_or_pos
abbrev aLg:=@Int.toNat_natCast
abbrev aLh:=@Option.some.inj
abbrev aLi:=@Bool.or_eq_true
abbrev aLj:=@Array.length_toList
abbrev aLk:=@List.drop_succ_cons
abbrev aLl:=@Nat.zero_le
abbrev aLm:=@Nat.sub_self
abbrev aLn:=@Bool.false_and
abbrev aLo:=@Ne.symm
abbrev aLp:=@Nat.beq_refl
abbrev aLq:=@List.set_cons_zero
abbrev aLr:=@List.getElem_append_right
abbrev aLs:=@List.getElem_append_left
abbrev aLt:=@List.length_eq_zero_iff
abbrev aLu:=@List.set_cons_succ
abbrev aLv:=@Bool.eq_iff_iff
abbrev aLw:=@Array.size_append
abbrev aLx:=@List.mem_iff_getElem
abbrev aLy:=@Bool.or_eq_false_iff
abbrev aLz:=@List.length_take
abbrev aLA:=@List.isPrefixOf_iff_prefix
abbrev aLB:=@List.length_map
abbrev aLC:=@List.getElem?_take
abbrev aLD:=@Array.empty_append
abbrev aLE:=@Bool.eq_false_iff
abbrev aLF:=@List.getElem_cons_zero
abbrev aLG:=@List.drop_nil
abbrev aLH:=@List.getElem?_toArray
abbrev aLI:=@Array.getElem?_setIfInBounds_ne
abbrev aLJ:=@List.length_set
abbrev aLK:=@List.drop_take
abbrev aLL:=@List.mem_range
abbrev aLM:=@List.mem_singleton
abbrev aLN:=@Array.getElem?_map
abbrev aLO:=@Nat.add_assoc
abbrev aLP:=@List.getElem?_set
abbrev aLQ:=@List.reverse_nil
abbrev aLR:=@Option.getD_some
abbrev aLS:=@List.map_toArray
abbrev aLT:=@Option.bind_some
abbrev aLU:=@List.not_mem_nil
abbrev aLV:=@Nat.max_eq_right
theorem aLW {p:Prop} (h:p:=by
  obtain rfl:=si h
  replace h:=fD
  exact eB h):p:=h
theorem aLX {p:Prop} (h:p:=by
  obtain rfl:=si h
  replace h:=eC
  exact eB h):p:=h
theorem aLY {p:Prop} (h:p:=by
  obtain rfl:=si h
  replace h:=gW
  exact eB h):p:=h
theorem aLZ {p:Prop} (h:p:=by
  obtain rfl:=si h
  replace h:=wy
  exact eB h):p:=h
theorem aMa {p:Prop} (h:p:=by
  obtain rfl:=si h
  replace h:=ym
  exact eB h):p:=h
theorem aMb {p:Prop} (h:p:=by
  replace h:=fD
  obtain rfl:=si h
  exact ⟨rfl,_,rfl,(en [] ⟨rfl,rfl⟩ FG ⟨⟩)⟩):p:=h
theorem aMc {p:Prop} (h:p:=by
  obtain rfl:=si h
  replace h:=re
  exact eB h):p:=h
theorem aMd {p:Prop} (h:p:=by
  obtain rfl:=si h
  replace h:=JG
  exact eB h):p:=h
theorem aMe {p:Prop} (h:p:=by
  rintro _ _ ⟨y1,rfl,rfl,rfl⟩
  replace h:=ID
  exact .d (eI h)):p:=h
theorem aMf {p:Prop} (h:p:=by
  obtain rfl:=si h
  replace h:=AO
  exact eB h):p:=h
theorem aMg {p:Prop} (h:p:=by
  replace h:=QJ
  obtain rfl:=si h
  exact ⟨rfl,_,rfl,(en [0,4] ⟨N7,SD.self,rfl,rfl⟩ eo kh)⟩):p:=h
theorem aMh {p:Prop} (h:p:=by
  obtain rfl:=si h
  replace h:=amB
  exact lg (ih9 _ _ _ _ h rfl) (tk [0] Ak lC)):p:=h
theorem aMi {p:Prop} (h:p:=by
  obtain rfl:=si h
  replace h:=FW
  exact eB h):p:=h
theorem aMj {p:Prop} (h:p:=by
  replace h:=SH
  obtain rfl:=si h
  exact en [0,1] ⟨g1001,rfl,rfl⟩ pq qQ):p:=h
theorem aMk {p:Prop} (h:p:=by
  obtain ⟨dst,op,ty,pos,after,guard⟩:=o
  subst hg
  exact hp):p:=h
theorem aMl {p:Prop} (h:p:=by
  obtain rfl:=si h
  replace h:=ID
  exact eI h):p:=h
theorem aMm {p:Prop} (h:p:=by
  rintro _ _ ⟨rfl,rfl,rfl⟩
  replace h:=fD
  exact .d (eB h)):p:=h
theorem aMn {p:Prop} (h:p:=by
  obtain rfl:=si h
  replace h:=afD
  exact eB h):p:=h
theorem aMo {p:Prop} (h:p:=by
  obtain rfl:=si h
  replace h:=TG
  exact eB h):p:=h
theorem aMp {p:Prop} (h:p:=by
  obtain rfl:=si h
  exact ⟨rfl,_,rfl,(en [0,4] ⟨_,(DR.nil (D:=ae.D)),rfl,rfl⟩ xb wU)⟩):p:=h
theorem aMq {p:Prop} (h:p:=by
  obtain rfl:=si h
  exact ⟨rfl,_,rfl,(en [0,4] ⟨_,(DR.nil (D:=ae.D)),rfl,rfl⟩ xb wX)⟩):p:=h
theorem aMr {p:Prop} (h:p:=by
  replace h:=qU
  exact aMa):p:=h
theorem aMs {p:Prop} (h:p:=by
  obtain rfl:=si h
  exact en [0] ⟨rfl,rfl⟩ .s rR):p:=h
theorem aMt {p:Prop} (h:p:=by
  obtain rfl:=si h
  exact ⟨rfl,_,rfl,(en [0,3] ⟨_,(DR.nil (D:=ae.D)),rfl,rfl⟩ xb wX)⟩):p:=h
theorem aMu {p:Prop} (h:p:=by
  obtain rfl:=si h
  exact en [0] ⟨rfl,rfl⟩ .b BJ):p:=h
theorem aMv {p:Prop} (h:p:=by
  intro F0 F1 n8 n9 a0 y5 y6 o h
  exact .mk F0 n8 F1 n9 a0 y5 y6 o h):p:=h
theorem aMw {p:Prop} (h:p:=by
  obtain rfl:=si h
  exact en [0,1] ⟨g1001,rfl,rfl⟩ pq qQ):p:=h
theorem aMx {p:Prop} (h:p:=by
  obtain rfl:=si h
  exact en [0] ⟨rfl,rfl⟩ .b rR):p:=h
theorem aMy {p:Prop} (h:p:=by
  obtain rfl:=si h
  exact en [] ⟨rfl,rfl⟩ Tg ⟨⟩):p:=h
theorem aMz {p:Prop} (h:p:=by
  obtain rfl:=si h
  exact ⟨rfl,_,rfl,(en [0,2] ⟨ajr,adJ.self,rfl,rfl⟩ eo kh)⟩):p:=h
theorem aMA {p:Prop} (h:p:=by
  obtain rfl:=si h
  exact ⟨rfl,_,rfl,(en [0,2] ⟨ajJ,E9.self,rfl,rfl⟩ eo kh)⟩):p:=h
theorem aMB {p:Prop} (h:p:=by
  obtain rfl:=si h
  exact aMb):p:=h
theorem aMC {p:Prop} (h:p:=by
  obtain rfl:=si h
  exact en [] ⟨rfl,rfl⟩ (.nR ⟨.s,.i,⟨⟩⟩) ⟨⟩):p:=h
theorem aMD {p:Prop} (h:p:=by
  obtain rfl:=si h
  exact en [0] ⟨rfl,rfl⟩ .s BJ):p:=h
theorem aME {p:Prop} (h:p:=by exact ct ⟨_,si h,rfl,rfl⟩ (tk [0] oJ gx)):p:=h
theorem aMF {p:Prop} (h:p:=by exact ct ⟨si h,rfl,rfl⟩ (tk [] ⟨⟩ ⟨⟩)):p:=h
theorem aMG {p:Prop} (h:p:=by exact hp.elim):p:=h
theorem aMH {p:Prop} (h:p:=by exact ct ⟨_,si h,rfl,rfl⟩ (tk [0] zl gx)):p:=h
theorem aMI {p:Prop} (h:p:=by exact .d (eB h)):p:=h
theorem aMJ {p:Prop} (h:p:=by exact ct ⟨_,si h,rfl,rfl⟩ (tk [] IC ⟨⟩)):p:=h
theorem aMK {p:Prop} (h:p:=by exact ⟨_,rfl⟩):p:=h
theorem aML {p:Prop} (h:p:=by exact .d (eI h)):p:=h
theorem aMM {p:Prop} (h:p:=by exact ct ⟨_,si h,rfl,rfl⟩ (tk [] Al ⟨⟩)):p:=h
theorem aMN {p:Prop} (h:p:=by exact ct ⟨_,si h,rfl,rfl⟩ (tk [0] R5 gx)):p:=h
theorem aMO {p:Prop} (h:p:=by exact hc.ok.inj i j _ _ _ _ _ _ _ _ _ _ _ _ _ hi hj nV nz):p:=h
theorem aMP {p:Prop} (h:p:=by exact ct ⟨_,si h,rfl,rfl⟩ (tk [0] Vm gx)):p:=h
theorem aMQ {p:Prop} (h:p:=by exact ct ⟨_,si h,rfl,rfl⟩ (tk [0] ⟨.b,.b,.p,.l,.i,.i,⟨⟩⟩ gx)):p:=h
theorem aMR {p:Prop} (h:p:=by exact lg (Nc _ _ _ h rfl) (tk [0] R6 gx)):p:=h
theorem aMS {p:Prop} (h:p:=by exact .f (.f (.f (eB h)))):p:=h
theorem aMT {p:Prop} (h:p:=by exact lg (ih9 _ _ _ _ h rfl) (tk [0] Ak lC)):p:=h
theorem aMU {p:Prop} (h:p:=by exact .t (.t (.t (.t (.t (.t (.t (.t (.d (eB h)))))))))):p:=h
theorem aMV {p:Prop} (h:p:=by exact lg (Nj _ _ h rfl) (tk [0] JQ gx)):p:=h
theorem aMW {p:Prop} (h:p:=by exact .f (.f (.f (.f (.f (.f (.f (.f (eB h))))))))):p:=h
theorem aMX {p:Prop} (h:p:=by exact ct ⟨_,si h,rfl,rfl⟩ (tk [0,1] Lp qQ)):p:=h
theorem aMY {p:Prop} (h:p:=by exact ⟨As _,λ_=>⟨rfl,rfl,rfl,rfl⟩⟩):p:=h
theorem aMZ {p:Prop} (h:p:=by exact ct ⟨si h,rfl,rfl⟩ (tk [0,1] vF qQ)):p:=h
theorem aNa {p:Prop} (h:p:=by exact ⟨_,_,_,rfl,rfl,by simp [wt,J1]⟩):p:=h
theorem aNb {p:Prop} (h:p:=by exact .inr ⟨_,_,_,q⟩):p:=h
theorem aNc {p:Prop} (h:p:=by omega):p:=h
theorem aNd {p:Prop} (h:p:=by decide):p:=h
theorem aNe {p:Prop} (h:p:=by rw [show aS ts (.g i) 0 1 []=false from by show (kd ts i==1&&true)=false;rw [(beq_eq_false_iff_ne.2 k1)];rfl]):p:=h
theorem aNf {p:Prop} (h:p:=by simp):p:=h
theorem aNg {p:Prop} (h:p:=by rw [show aS ts (.g i) 0 6 [123]=false from (aM H (by decide) (by decide)).trans (ay hw (by decide))]):p:=h
theorem aNh {p:Prop} (h:p:=by kernel_rfl):p:=h
theorem aNi {p:Prop} (h:p:=by rw [show tw ts (JS.g i).pos [123]=false from (ay hw (by decide))]):p:=h
theorem aNj {p:Prop} (h:p:=by rw [show tw ts (JS.g i).pos [105,102]=false from (ay hw (by decide))]):p:=h
theorem aNk {p:Prop} (h:p:=by simp [Op.operands]):p:=h
theorem aNl {p:Prop} (h:p:=by simp;omega):p:=h
theorem aNm {p:Prop} (h:p:=by simp only [an,mg];omega):p:=h
theorem aNn {p:Prop} (h:p:=by simp only [an];omega):p:=h
theorem aNo {p:Prop} (h:p:=by rw [show aS ts (.g i) 0 6 [123]=false from (aM H (by decide) (by decide)).trans Jg]):p:=h
theorem aNp {p:Prop} (h:p:=by simp [Region.wanted,hg,hy]):p:=h
theorem aNq {p:Prop} (h:p:=by simp only [abL,an,mg];omega):p:=h
theorem aNr {p:Prop} (h:p:=by first | rfl | exact (DR.nil (D:=ae.D)).len | exact (DR.nil (D:=ae.D)).len.symm):p:=h
theorem aNs {p:Prop} (h:p:=by assumption):p:=h
theorem aNt {p:Prop} (h:p:=by rw [show tw ts (JS.g i).pos [105,102]=false from f0]):p:=h
theorem aNu {p:Prop} (h:p:=by simpa using hj):p:=h
theorem aNv {p:Prop} (h:p:=by rw [show tw ts (JS.g i).pos [123]=false from Jg]):p:=h
theorem aNw {p:Prop} (h:p:=by have:=(show ([115,116,97,116,105,99]:aD).length<=4000 by decide);have:=iK H (wS ts (.g (i+1)) [58,58]) 3;simp only [abL,an,mg];omega):p:=h
theorem aNx {p:Prop} (h:p:=by simp only [Nat.reduceAdd,Nat.reducePow];omega):p:=h
theorem aNy {p:Prop} (h:p:=by cases h):p:=h
theorem aNz {p:Prop} (h:p:=by show ¬false=true;decide):p:=h
theorem aNA {p:Prop} (h:p:=by have:=(show ([115,116,97,116,105,99]:aD).length<=4000 by decide);simp only [an,mg];omega):p:=h
theorem aNB {p:Prop} (h:p:=by rw [decide_eq_true_eq];omega):p:=h
theorem aNC {p:Prop} (h:p:=by have:=hx;have:=iK H (wS ts (.g (i+1)) [58,58]) 3;simp only [abL,an,mg];omega):p:=h
theorem aND {p:Prop} (h:p:=by rw [<-hf i hi];exact hj):p:=h
theorem aNE {p:Prop} (h:p:=by simpa using h2):p:=h
theorem aNF {p:Prop} (h:p:=by simpa using h1):p:=h
theorem aNG {p:Prop} (h:p:=by simp [wu]):p:=h
theorem aNH {p:Prop} (h:p:=by simpa using h):p:=h
theorem aNI {p:Prop} (h:p:=by simp [Region.wanted,hg,ub hs hj he]):p:=h
theorem aNJ {p:Prop} (h:p:=by rw [he];exact hu):p:=h
theorem aNK {p:Prop} (h:p:=by rw [beq_eq_false_iff_ne.2 k2];rfl):p:=h
theorem aNL {p:Prop} (h:p:=by rw [h1]):p:=h
theorem aNM {p:Prop} (h:p:=by simpa using q1):p:=h
theorem aNN {p:Prop} (h:p:=by simpa using hh):p:=h
theorem aNO {p:Prop} (h:p:=by simp at hx ⊢;exact .inr hx):p:=h
theorem aNP {p:Prop} (h:p:=by subst hy;simp [Op.operands]):p:=h
theorem aNQ {p:Prop} (h:p:=by simp [Op.operands];exact ⟨p.1,by simpa using hp⟩):p:=h
end Go.Am
set_option linter.unusedVariables false
set_option linter.unusedSimpArgs false
namespace Go.Am
open Go
def Jj:List Int:=[1,10,100,1000,10000,100000,1000000,10000000,100000000,1000000000,10000000000,100000000000,1000000000000,10000000000000,100000000000000,1000000000000000,10000000000000000,100000000000000000,1000000000000000000,10000000000000000000]
def Hb:List (Nat×Array Value):=[(1,(Jj.map λz=>Value.int .u64 z).toArray)]
def yw:List Nat:=[2,3]
def Hd:List Nat:=[0]
def aca:Nat:=4294967295
end Go.Am
namespace Go.Am
open Go Go.RowKit
inductive PV where
 | int (k:IntKind) (n:Int)
 | bool (b:Bool)
 | str (s:List UInt8)
 | ck
 | iF
 | ij (sz n:Nat) (f:Nat->List PV)
 | gD (cells:List PV)
 | own (id gen off len:Nat)
 | aA (id gen i off:Nat)
 | qv (id:Nat)
 | se (f:Nat) (df:List (Nat×Nat))
 | fn (f:Nat)
 | agg (cs:List PV)
 | fM (vs:List PV)
 | jQ
 | dI (sz n:Nat) (e:TypeId) (f:Nat->List PV) (F:Nat->Prop)
 deriving Inhabited
abbrev Env:=Nat->PV
inductive al where
 | row (gen sz n:Nat) (e:TypeId) (f:Nat->List PV)
 | dead
 deriving Inhabited
inductive TI where
 | int (k:IntKind)
 | bool
 | str
 | slice (e sz bytes:Nat) (zero:List PV)
 | struct (sz:Nat) (fields:List (Nat×Nat×Bool)) (zero:List PV)
 | ptr (e:Nat)
 | map (k e:Nat) (zero:PV)
 | other
 deriving Inhabited
structure qq where
 get:Nat->TI
def qZ (env:Env) (t:Nat) (v:PV):Env:=λj=>bif Nat.beq j t then v else env j
def fx (env:Env) (d:Option Nat) (v:PV):Env:=match d with | some t=>qZ env t v | none=>env
def BQ (env:Env):List (Nat×PV)->Env
 | []=>env
 | (t,v)::r=>qZ (BQ env r) t v
inductive gJ (b:Bool) (T F:Prop):Prop
 | mk (ht:b=true->T) (hf:b=false->F):gJ b T F
theorem kV {b:Bool} {T F:Prop} (h:gJ b T F):(b=true->T)/\(b=false->F):=by cases h with | mk a b=>exact ⟨a,b⟩
def fy (b:Bool) (K:Prop):Prop:=match b with | true=>K | false=>False
theorem bX {b:Bool} {K:Prop} (h:fy b K):b=true/\K:=by cases b;exact h.elim;exact ⟨rfl,h⟩
def vG:IntKind->IntKind->Bool
 | .i8,.i8=>true
 | .i16,.i16=>true
 | .i32,.i32=>true
 | .i64,.i64=>true
 | .u8,.u8=>true
 | .u16,.u16=>true
 | .u32,.u32=>true
 | .u64,.u64=>true
 | _,_=>false
theorem mE {k k':IntKind} (h:vG k k'=true):k=k':=by cases k<;>cases k'<;>first | rfl | cases h
def amu:Value->Option PV
 | .int k n=>some (.int k n)
 | .bool b=>some (.bool b)
 | .string s=>some (.str s.data.toList)
 | .slice none 0 0=>some .ck
 | .pointer none=>some .iF
 | _=>none
def Tj:List Value->Option (List PV)
 | []=>some []
 | v::r=>match amu v,Tj r with
  | some p,some l=>some (p::l)
  | _,_=>none
def aCH:Option (List PV)->PV
 | some l=>.agg l
 | none=>.jQ
def ofValue:Value->PV
 | .int k n=>.int k n
 | .bool b=>.bool b
 | .string s=>.str s.data.toList
 | .slice none 0 0=>.ck
 | .pointer none=>.iF
 | .agg vs=>aCH (Tj vs.toList)
 | _=>.jQ
inductive Ue:PV->PV->Prop
 | same (a:PV):Ue a a
 | nil (sz:Nat) (f:Nat->List PV):Ue .ck (.ij sz 0 f)
 | Bu (sz:Nat) (e:TypeId) (f:Nat->List PV):Ue .ck (.dI sz 0 e f (λ_=>False))
def oz:List PV->List PV->Prop
 | [],[]=>True
 | a::l,b::r=>Ue a b/\oz l r
 | _,_=>False
def ev (env:Env):Operand->PV
 | .tmp t=>env t
 | .const v=>ofValue v
 | .func f=>.fn f
 | .global _=>.jQ
abbrev Mu:=Nat->Option (Nat×Nat)
inductive ba (S:Nat->Prop) (w:World):PV->Value->Prop
 | int (k:IntKind) (n:Int):ba S w (.int k n) (.int k n)
 | bool (b:Bool):ba S w (.bool b) (.bool b)
 | str (s:List UInt8):ba S w (.str s) (.string ⟨⟨s⟩⟩)
 | ck:ba S w .ck (.slice none 0 0)
 | iF:ba S w .iF (.pointer none)
 | fn (f:Nat):ba S w (.fn f) (.func (.func f) #[] #[])
 | uS (sz:Nat) (f:Nat->List PV) (a:Option Addr) (c:Nat):ba S w (.ij sz 0 f) (.slice a 0 c)
 | ij (sz n:Nat) (f:Nat->List PV) (b off c:Nat) (vf:Nat->Nat->Value) (hS:S b) (hlen:∀i,i<n->(f i).length=sz) (hc:n<=c)
   (bB:∀(i j:Nat) (pv:PV),i<n->(f i)[j]? =some pv->w.cell? ⟨b,off+i*sz+j,none⟩=some (vf i j))
   (pt:∀(i j:Nat) (pv:PV),i<n->(f i)[j]? =some pv->ba S w pv (vf i j)):ba S w (.ij sz n f) (.slice (some ⟨b,off,none⟩) n c)
 | gD (cs:List PV) (b off:Nat) (vf:Nat->Value) (hS:S b)
   (bB:∀(j:Nat) (pv:PV),cs[j]? =some pv->w.cell? ⟨b,off+j,none⟩=some (vf j))
   (pt:∀(j:Nat) (pv:PV),cs[j]? =some pv->ba S w pv (vf j)):ba S w (.gD cs) (.pointer (some ⟨b,off,none⟩))
inductive my (S:Nat->Prop) (w:World):PV->Value->Prop
 | nil (sz:Nat) (e:TypeId) (f:Nat->List PV) (F:Nat->Prop) (hF:∀b,¬F b):my S w (.dI sz 0 e f F) (.slice none 0 0)
 | Mi (sz n:Nat) (e:TypeId) (f:Nat->List PV) (F:Nat->Prop) (b off c:Nat) (a:Addr) (cur:Array Value) (vf:Nat->Nat->Value) (hF:F b) (hb:w.heap[b]? =some (.cells cur e (0,0))) (hlen:∀i,i<n->(f i).length=sz) (hc:n<=c)
   (ha:0<c->a=⟨b,off,none⟩) (ic:off+c*sz<=cur.size)
   (bB:∀(i j:Nat) (pv:PV),i<n->(f i)[j]? =some pv->cur[off+i*sz+j]? =some (vf i j))
   (pt:∀(i j:Nat) (pv:PV),i<n->(f i)[j]? =some pv->ba S w pv (vf i j)\/∃cJ n' e' f' F',pv=.dI cJ n' e' f' F')
   (vJ:∀(i j cJ n':Nat) (e':TypeId) (f':Nat->List PV) (F':Nat->Prop),i<n->(f i)[j]? =some (.dI cJ n' e' f' F')->my S w (.dI cJ n' e' f' F') (vf i j))
   (FN:∀(i j cJ n':Nat) (e':TypeId) (f':Nat->List PV) (F':Nat->Prop),i<n->(f i)[j]? =some (.dI cJ n' e' f' F')->∀b',F' b'->F b'/\b'≠b)
   (Mj:∀(i j cJ n':Nat) (e':TypeId) (f':Nat->List PV) (F':Nat->Prop) (i2 j2 lN n2:Nat) (e2:TypeId) (f2:Nat->List PV) (F2:Nat->Prop),i<n->(f i)[j]? =some (.dI cJ n' e' f' F')->i2<n->(f i2)[j2]? =some (.dI lN n2 e2 f2 F2)->
    ∀b',F' b'->F2 b'->i=i2/\j=j2):my S w (.dI sz n e f F) (.slice (some a) n c)
def kX (w:World) (b k:Nat):Prop:=∃cur e z,w.heap[b]? =some (.cells cur e z)/\k<=cur.size
def bG (μ:Mu) (h:List al) (w:World) (id gen off len:Nat) (v:Value):Prop:=
 (∃a l c,v=.slice a l c)/\match h[id]? with
 | some (al.row g sz n _ _)=>gen<=g/\(gen=g->off+len<=n/\match μ id with
  | none=>v=.slice none 0 0
  | some (b,base)=>∃a cap,v=.slice (some a) len cap/\len<=cap/\(0<cap->a=⟨b,base+off*sz,none⟩)/\kX w b (base+(off+cap)*sz))
 | some al.dead=>True
 | none=>False
def cN (μ:Mu) (h:List al) (w:World) (id gen i off:Nat) (v:Value):Prop:=
 (∃a,v=.pointer a)/\match h[id]? with
 | some (al.row g sz n e _)=>gen<=g/\(gen=g->i<n/\∃b base,μ id=some (b,base)/\(kX w b 0/\(Nat.beq e aca=true->base=0))/\v=.pointer (some ⟨b,base+i*sz+off,none⟩))
 | some al.dead=>True
 | none=>False
def rS (w:World) (b:Nat):Prop:=∃es clock,w.heap[b]? =some (.map es clock)
def iv (μ:Mu) (h:List al) (w:World) (id:Nat) (v:Value):Prop:=
 (∃a,v=.map a)/\match h[id]? with
 | some (al.row _ _ _ _ _)=>∃b base,μ id=some (b,base)/\rS w b/\v=.map (some b)
 | some al.dead=>True
 | none=>False
def uU (O:Nat->Nat->Value->Prop) (f:Nat) (df:List (Nat×Nat)) (v:Value):Prop:=
 ∃vs:Array Value,v=.func (.func f) #[] vs/\vs.size=df.length/\∀(j:Nat) (p:Nat×Nat),df[j]? =some p->∃u:Value,vs[j]? =some u/\O p.1 p.2 u
theorem uU.mono {O O':Nat->Nat->Value->Prop} {f:Nat} {df:List (Nat×Nat)} {v:Value} (h:uU O f df v) (hO:∀id g u,O id g u->O' id g u):uU O' f df v:=by
 obtain ⟨vs,h1,h2,h3⟩:=h
 exact ⟨vs,h1,h2,λj p hj=>let ⟨u,q1,q2⟩:=h3 j p hj;⟨u,q1,hO _ _ _ q2⟩⟩
def uf (σ:Nat->Nat) (df:List (Nat×Nat)):List (Nat×Nat):=df.map λp=>(σ p.1,p.2)
theorem uU.map {O:Nat->Nat->Value->Prop} {σ:Nat->Nat} {f:Nat} {df:List (Nat×Nat)} {v:Value} (h:uU (λid g u=>O (σ id) g u) f df v):uU O f (uf σ df) v:=by
 obtain ⟨vs,h1,h2,h3⟩:=h
 refine ⟨vs,h1,by unfold uf;rw [aLB];exact h2,λj p hj=>?_⟩
 unfold uf at hj
 rw [aKq] at hj
 cases hx:df[j]? with
 | none=>rw [hx] at hj;cases hj
 | some q=>
  rw [hx] at hj
  injection hj with hj
  subst hj
  exact h3 j q hx
theorem uU.aCE {O:Nat->Nat->Value->Prop} {σ:Nat->Nat} {f:Nat} {df:List (Nat×Nat)} {v:Value} (h:uU O f (uf σ df) v):uU (λid g u=>O (σ id) g u) f df v:=by
 obtain ⟨vs,h1,h2,h3⟩:=h
 refine ⟨vs,h1,by unfold uf at h2;rw [aLB] at h2;exact h2,λj p hj=>?_⟩
 obtain ⟨u,q1,q2⟩:=h3 j (σ p.1,p.2) (by unfold uf;rw [aKq,hj];rfl)
 exact ⟨u,q1,q2⟩
def qz (μ:Mu) (h:List al) (w:World) (f:Nat) (df:List (Nat×Nat)) (v:Value):Prop:=uU (λid g u=>cN μ h w id g 0 0 u) f df v
def GI:PV->Bool
 | .int _ _=>true
 | .bool _=>true
 | .str _=>true
 | .jQ=>true
 | _=>false
def qs:PV->Bool
 | .agg cs=>cs.all GI
 | v=>GI v
def DA:PV->Value->Prop
 | .int k n,v=>v=.int k n
 | .bool b,v=>v=.bool b
 | .str s,v=>v=.string ⟨⟨s⟩⟩
 | _,v=>v.oneCell'=true
def FA:PV->Value->Prop
 | .agg cs,v=>∃vs:Array Value,v=.agg vs/\vs.size=cs.length/\∀(j:Nat) (pv:PV),cs[j]? =some pv->∃u:Value,vs[j]? =some u/\DA pv u
 | .jQ,_=>True
 | pv,v=>DA pv v
def xV (C:PV->Value->Prop) (base sz n:Nat) (e:TypeId) (f:Nat->List PV):Obj->Prop
 | .cells cur e' z=>e'=e/\z=(0,0)/\base+n*sz<=cur.size/\∀(i j:Nat) (pv:PV),i<n->(f i)[j]? =some pv->∃v:Value,cur[base+i*sz+j]? =some v/\C pv v
 | .map es _=>es.size=n/\∀i,i<n->∃(kp vp:PV) (en:MapEntry),f i=[kp,vp]/\qs kp=true/\qs vp=true/\es[i]? =some en/\FA kp en.key/\FA vp en.val
 | _=>False
theorem xV.mono {C C':PV->Value->Prop} {base sz n:Nat} {e:TypeId} {f:Nat->List PV} {o:Obj} (h:xV C base sz n e f o) (hc:∀(i j:Nat) (pv:PV) (v:Value),i<n->(f i)[j]? =some pv->C pv v->C' pv v):xV C' base sz n e f o:=by
 cases o with
 | cells cur e' z=>
  obtain ⟨h1,h2,h3,h4⟩:=h
  exact ⟨h1,h2,h3,λi j pv hi hj=>let ⟨v,q1,q2⟩:=h4 i j pv hi hj;⟨v,q1,hc i j pv v hi hj q2⟩⟩
 | map es c=>exact h
 | _=>exact h.elim
def cQ (μ:Mu) (h:List al) (S:Nat->Prop) (w:World):PV->Value->Prop
 | .own id gen off len,v=>bG μ h w id gen off len v
 | .aA id gen i off,v=>cN μ h w id gen i off v
 | .qv id,v=>iv μ h w id v
 | .se f df,v=>qz μ h w f df v
 | .jQ,v=>v.oneCell'=true
 | .dI _ _ _ _ _,v=>v.oneCell'=true
 | .agg _,_=>False
 | .fM _,_=>False
 | pv,v=>ba S w pv v
def pz (μ:Mu) (h:List al) (S:Nat->Prop) (w:World):PV->Value->Prop
 | .dI sz n e f F,v=>my S w (.dI sz n e f F) v
 | pv,v=>cQ μ h S w pv v
def kz (μ:Mu) (h:List al) (S:Nat->Prop) (w:World):PV->Value->Prop
 | .agg cs,v=>∃vs:Array Value,v=.agg vs/\vs.size=cs.length/\∀(j:Nat) (pv:PV),cs[j]? =some pv->∃u:Value,vs[j]? =some u/\cQ μ h S w pv u
 | .jQ,_=>True
 | pv,v=>cQ μ h S w pv v
def cj (μ:Mu) (h:List al) (S:Nat->Prop) (w:World):PV->Value->Prop
 | .fM ps,v=>∃vs:Array Value,v=.tuple vs/\vs.size=ps.length/\∀(j:Nat) (pv:PV),ps[j]? =some pv->∃u:Value,vs[j]? =some u/\kz μ h S w pv u
 | pv,v=>kz μ h S w pv v
def de (μ:Mu) (h:List al) (S:Nat->Prop) (w:World):Prop:=
 ∀(id g sz n:Nat) (e:TypeId) (f:Nat->List PV),h[id]? =some (al.row g sz n e f)->(∀i,i<n->(f i).length=sz)/\match μ id with
  | none=>n=0
  | some (b,base)=>∃o:Obj,w.heap[b]? =some o/\xV (pz μ h S w) base sz n e f o
theorem de.cells {μ:Mu} {h:List al} {S:Nat->Prop} {w:World} {b base k sz n:Nat} {e:TypeId} {f:Nat->List PV} (hc:kX w b k) (ho:∃o:Obj,w.heap[b]? =some o/\xV (pz μ h S w) base sz n e f o):
  ∃cur:Array Value,w.heap[b]? =some (.cells cur e (0,0))/\base+n*sz<=cur.size/\
    ∀(i j:Nat) (pv:PV),i<n->(f i)[j]? =some pv->∃v:Value,cur[base+i*sz+j]? =some v/\pz μ h S w pv v:=by
 obtain ⟨cur,e',z,h1,_⟩:=hc
 obtain ⟨o,h2,h3⟩:=ho
 obtain rfl:=aLh (h1.symm.trans h2)
 obtain ⟨rfl,rfl,q1,q2⟩:=h3
 exact ⟨cur,h1,q1,q2⟩
theorem de.DC {C:PV->Value->Prop} {w:World} {b base sz n:Nat} {e:TypeId} {f:Nat->List PV} (ho:∃cur:Array Value,w.heap[b]? =some (.cells cur e (0,0))/\base+n*sz<=cur.size/\
    ∀(i j:Nat) (pv:PV),i<n->(f i)[j]? =some pv->∃v:Value,cur[base+i*sz+j]? =some v/\C pv v):∃o:Obj,w.heap[b]? =some o/\xV C base sz n e f o:=by
 obtain ⟨cur,h1,h2,h3⟩:=ho
 exact ⟨_,h1,rfl,rfl,h2,h3⟩
def GJ (μ:Mu) (h:List al) (b:Nat):Prop:=∃(id g sz n:Nat) (e:TypeId) (f:Nat->List PV) (base:Nat),h[id]? =some (al.row g sz n e f)/\μ id=some (b,base)
def eA (h:List al) (id i j b:Nat):Prop:=∃(g sz n:Nat) (e:TypeId) (f:Nat->List PV) (cJ n':Nat) (e':TypeId) (f':Nat->List PV) (F:Nat->Prop),h[id]? =some (al.row g sz n e f)/\i<n/\(f i)[j]? =some (.dI cJ n' e' f' F)/\F b
def dx (μ:Mu) (h:List al) (b:Nat):Prop:=GJ μ h b\/∃id i j,eA h id i j b
def P3 (S:Nat->Prop) (w:World):Prop:=(∀p,p∈Hb->S p.1/\∃t z,w.heap[p.1]? =some (.cells p.2 t z))/\(∀g,g∈yw->S g/\∃tp p t z,w.heap[g]? =some (.cells #[.iface tp p] t z))/\
 ∀g,g∈Hd->S g/\∃m t z,w.heap[g]? =some (.cells #[.int .i64 m] t z)
theorem P3.dO {S S':Nat->Prop} {w w':World} (h:P3 S w) (hb:∀b,S b->w'.heap[b]? =w.heap[b]?) (hs:∀b,S b->S' b):P3 S' w':=
 ⟨λp hp=>⟨hs _ (h.1 p hp).1,by rw [hb _ (h.1 p hp).1];exact (h.1 p hp).2⟩,λg hg=>⟨hs _ (h.2.1 g hg).1,by rw [hb _ (h.2.1 g hg).1];exact (h.2.1 g hg).2⟩,
  λg hg=>⟨hs _ (h.2.2 g hg).1,by rw [hb _ (h.2.2 g hg).1];exact (h.2.2 g hg).2⟩⟩
structure tQ (μ:Mu) (h:List al) (S:Nat->Prop) (w:World):Prop where
 apart:∀b,dx μ h b->¬S b
 lt:∀b,dx μ h b->b<w.heap.size
 slt:∀b,S b->b<w.heap.size
 inj:∀(i j g sz n:Nat) (e:TypeId) (f:Nat->List PV) (g' cJ n':Nat) (e':TypeId) (f':Nat->List PV) (b o o':Nat),h[i]? =some (al.row g sz n e f)->h[j]? =some (al.row g' cJ n' e' f')->μ i=some (b,o)->μ j=some (b,o')->i=j
 known:P3 S w
 hv:∀b,GJ μ h b->∀id i j,¬eA h id i j b
 hh:∀b id i j id' i' j',eA h id i j b->eA h id' i' j' b->id=id'/\i=i'/\j=j'
structure Fr (μ:Mu) (h:List al) (S:Nat->Prop) (w:World) (μ':Mu) (h':List al) (S':Nat->Prop) (w':World):Prop where
 len:h.length<=h'.length
 blocks:∀b,b<w.heap.size->¬dx μ h b->w'.heap[b]? =w.heap[b]?
 sub:∀b,S b->S' b
 new:∀b,S' b->S b\/dx μ h b\/w.heap.size<=b
 own:∀b,dx μ' h' b->dx μ h b\/w.heap.size<=b
 size:w.heap.size<=w'.heap.size
 os:w'.os=w.os
 tape:w'.tape=w.tape
 output:w'.output=w.output
 DE:∀(id g sz n:Nat) (e:TypeId) (f:Nat->List PV),h[id]? =some (al.row g sz n e f)->match h'[id]? with
  | some (al.row g' cJ n' e' _)=>g<=g'/\(g'=g->μ' id=μ id/\cJ=sz/\n'=n/\e'=e)
  | some al.dead=>True
  | none=>False
 dead:∀id:Nat,h[id]? =some al.dead->h'[id]? =some al.dead
 df:∀b k,dx μ h b->kX w b k->kX w' b k
 maps:∀(id g sz n:Nat) (e:TypeId) (f:Nat->List PV) (b base:Nat),h[id]? =some (al.row g sz n e f)->μ id=some (b,base)->rS w b->
  rS w' b/\(h'[id]? =some al.dead\/((∃g' cJ n' e' f',h'[id]? =some (al.row g' cJ n' e' f'))/\μ' id=some (b,base)))
 xj:∀b id i j,eA h id i j b->rS w b->rS w' b
def ans (P:Program) (f:FuncId):Prop:=∃fn c,P.funcs[f]? =some fn/\fn.body=some c/\(fn.name== "runtime.NumGoroutine")=false
def ACall (P:Program) (f:FuncId) (args:List PV) (h:List al) (R:PV->List al->Prop):Prop:=
 ans P f/\∀(w:World) (vs:Array Value) (μ:Mu) (S:Nat->Prop),de μ h S w->tQ μ h S w->vs.size=args.length->
  (∀(j:Nat) (pv:PV),args[j]? =some pv->∃v:Value,vs[j]? =some v/\kz μ h S w pv v)->
  Calls P f vs w (λe w'=>∃(v:Value) (res:PV) (h':List al) (μ':Mu) (S':Nat->Prop),e=.returned v/\R res h'/\cj μ' h' S' w' res v/\de μ' h' S' w'/\tQ μ' h' S' w'/\Fr μ h S w μ' h' S' w')
def cA:PV->Bool
 | .int _ _=>true
 | .bool _=>true
 | .str _=>true
 | .ck=>true
 | .iF=>true
 | .ij _ _ _=>true
 | .gD _=>true
 | .fn _=>true
 | _=>false
def eh:PV->Bool
 | .dI _ _ _ _ _=>true
 | _=>false
inductive DL:PV->PV->Prop
 | mk (sz n:Nat) (e:TypeId) (f f':Nat->List PV) (F:Nat->Prop) (hl:∀i,i<n->(f' i).length=(f i).length) (hf:∀(i j:Nat) (pv gy:PV),i<n->(f i)[j]? =some pv->(f' i)[j]? =some gy->eh pv=false->gy=pv) (ho:∀(i j:Nat) (pv gy:PV),i<n->(f i)[j]? =some pv->(f' i)[j]? =some gy->eh pv=true->DL pv gy)
   (hp:∀(i j:Nat) (gy:PV),i<n->(f' i)[j]? =some gy->cA gy=true):DL (.dI sz n e f F) (.ij sz n f')
inductive Fz (h η:List al) (k:List Nat):PV->PV->Prop
 | int (k':IntKind) (n:Int):Fz h η k (.int k' n) (.int k' n)
 | bool (b:Bool):Fz h η k (.bool b) (.bool b)
 | str (s:List UInt8):Fz h η k (.str s) (.str s)
 | ck:Fz h η k .ck .ck
 | iF:Fz h η k .iF .iF
 | ahn (sz:Nat) (f:Nat->List PV):Fz h η k .ck (.ij sz 0 f)
 | aCd (id id' g' cJ:Nat) (e':TypeId) (f':Nat->List PV) (hk:k[id']? =some id) (ho:h[id]? =none) (hη:η[id']? =some (al.row g' cJ 0 e' f')):Fz h η k .ck (.own id' g' 0 0)
 | fn (f:Nat):Fz h η k (.fn f) (.fn f)
 | ij (sz n:Nat) (f f':Nat->List PV) (hf:∀i,i<n->f' i=f i):Fz h η k (.ij sz n f) (.ij sz n f')
 | gD (cs:List PV):Fz h η k (.gD cs) (.gD cs)
 | jQ (pv:PV):Fz h η k pv .jQ
 | dI (sz n:Nat) (e:TypeId) (f:Nat->List PV) (F:Nat->Prop):Fz h η k (.dI sz n e f F) (.dI sz n e f F)
 | Bu (sz:Nat) (e:TypeId) (f:Nat->List PV):Fz h η k .ck (.dI sz 0 e f (λ_=>False))
 | own (id id' g g' sz cJ n n' off len:Nat) (e e':TypeId) (f f':Nat->List PV) (hk:k[id']? =some id) (ho:h[id]? =some (al.row g sz n e f)) (hη:η[id']? =some (al.row g' cJ n' e' f')) (hn:off+len<=n'):Fz h η k (.own id g off len) (.own id' g' off len)
 | aA (id id' g g' sz cJ n n' i off:Nat) (e e':TypeId) (f f':Nat->List PV) (hk:k[id']? =some id) (ho:h[id]? =some (al.row g sz n e f)) (hη:η[id']? =some (al.row g' cJ n' e' f')) (hn:i<n'):Fz h η k (.aA id g i off) (.aA id' g' i off)
 | qv (id id' g g' sz cJ n n':Nat) (e e':TypeId) (f f':Nat->List PV) (hk:k[id']? =some id) (ho:h[id]? =some (al.row g sz n e f)) (hη:η[id']? =some (al.row g' cJ n' e' f')):Fz h η k (.qv id) (.qv id')
 | se (f:Nat) (df Mk:List (Nat×Nat)) (hl:Mk.length=df.length) (hc:∀(j:Nat) (p p':Nat×Nat),df[j]? =some p->Mk[j]? =some p'->k[p'.1]? =some p.1/\(∃sz n e f,h[p.1]? =some (al.row p.2 sz n e f))/\∃sz n e f,η[p'.1]? =some (al.row p'.2 sz n e f)/\0<n):Fz h η k (.se f df) (.se f Mk)
 | frz (id g sz n off len:Nat) (e:TypeId) (f f':Nat->List PV) (hk:id∉k) (ho:h[id]? =some (al.row g sz n e f)) (hl:∀i,i<len->(f' i).length=(f (off+i)).length)
   (hp:∀(i j:Nat) (gy:PV),i<len->(f' i)[j]? =some gy->cA gy=true)
   (hf:∀(i j:Nat) (pv gy:PV),i<len->(f (off+i))[j]? =some pv->(f' i)[j]? =some gy->¬DL pv gy->Fz h η k pv gy):Fz h η k (.own id g off len) (.ij sz len f')
 | agg (cs B3:List PV) (hl:B3.length=cs.length) (hc:∀(j:Nat) (pv gy:PV),cs[j]? =some pv->B3[j]? =some gy->Fz h η k pv gy):Fz h η k (.agg cs) (.agg B3)
 | fM (cs B3:List PV) (hl:B3.length=cs.length) (hc:∀(j:Nat) (pv gy:PV),cs[j]? =some pv->B3[j]? =some gy->Fz h η k pv gy):Fz h η k (.fM cs) (.fM B3)
def xZ (h η:List al) (k:List Nat):List PV->List PV->Prop
 | [],[]=>True
 | a::l,b::r=>Fz h η k a b/\xZ h η k l r
 | _,_=>False
def TS:List Nat->Nat->Bool
 | [],_=>false
 | a::r,x=>match Nat.beq a x with
  | true=>true
  | false=>TS r x
def pC:List Nat->Bool
 | []=>true
 | a::r=>match TS r a with
  | true=>false
  | false=>pC r
def pc:List al->List Nat->List Nat
 | .row _ _ _ _ _::r,i::is=>i::pc r is
 | .dead::r,_::is=>pc r is
 | _,_=>[]
def x5 (h η:List al) (k:List Nat) (m:Nat) (o:al) (id' id:Nat):Prop:=
 match o,h[id]? with
 | .row g' cJ n' e' f',some (al.row g sz n e f)=>(id'<m->id'=id/\g'=g)/\cJ=sz/\(n'=n\/m<=id'/\sz≠2/\n'<=n)/\e'=e/\
   ∀i,i<n'->xZ h η k (f i) (f' i)
 | .dead,_=>True
 | .row _ _ n' _ _,none=>m<=id'/\n'=0
 | _,_=>False
def gH (l:List PV) (off:Nat):List PV->List PV
 | []=>l
 | c::r=>gH (l.set off c) (off+1) r
def cellsOf:PV->List PV
 | .agg cs=>cs
 | v=>[v]
def er (h:List al) (id:Nat):al:=h.getD id .dead
def force (v:PV) (K:PV->Prop):Prop:=
 match v with
 | .int k n=>K (.int k n)
 | .bool b=>K (.bool b)
 | .str s=>K (.str s)
 | .ck=>K .ck
 | .iF=>K .iF
 | .ij sz n f=>K (.ij sz n f)
 | .gD cs=>K (.gD cs)
 | .own id gen off len=>K (.own id gen off len)
 | .aA id gen i off=>K (.aA id gen i off)
 | .qv id=>K (.qv id)
 | .se f df=>K (.se f df)
 | .fn f=>K (.fn f)
 | .agg cs=>K (.agg cs)
 | .fM vs=>K (.fM vs)
 | .jQ=>K .jQ
 | .dI sz n e f F=>K (.dI sz n e f F)
theorem dW {v:PV} {K:PV->Prop} (h:force v K):K v:=by cases v<;>exact h
def G6 (K:List PV->Prop):Nat->List PV->List PV->Prop
 | 0,_,acc=>K acc.reverse
 | _+1,[],_=>False
 | n+1,c::r,acc=>force c λv=>G6 K n r (v::acc)
theorem qu {K:List PV->Prop}:∀(n:Nat) (l acc:List PV),G6 K n l acc->n<=l.length/\K (acc.reverse++l.take n)
 | 0,l,acc,h=>⟨aLl _,by simp only [List.take_zero,aKF];exact h⟩
 | _+1,[],_,h=>h.elim
 | n+1,c::r,acc,h=>by
  obtain ⟨h1,h2⟩:=qu n r (c::acc) (dW h)
  exact ⟨by simp;omega,by simpa using h2⟩
def Ae (T:qq) (t:Nat) (cells:List PV) (K:PV->Prop):Prop:=
 match T.get t with
 | .struct sz _ _=>G6 (λl=>K (.agg l)) sz cells []
 | .other=>False
 | _=>match cells with
  | c::_=>force c K
  | []=>False
def ze (T:qq) (t:Nat) (a:PV) (h:List al) (K:PV->Prop):Prop:=
 match a with
 | .gD cells=>Ae T t cells K
 | .aA id gen i off=>match er h id with
  | .row g _ _ _ f=>g=gen/\∃c,f i=c/\Ae T t (c.drop off) K
  | .dead=>False
 | _=>False
def da (f:Nat->List PV) (i:Nat) (l:List PV):Nat->List PV:=λk=>bif Nat.beq k i then l else f k
def Dr:List PV->Bool
 | []=>true
 | .int _ _::r=>Dr r
 | .bool _::r=>Dr r
 | .str _::r=>Dr r
 | _=>false
def Q6 (g:Bool) (q:Bool):Option Bool->Option Bool
 | some c=>match g with
  | true=>some (q&&c)
  | false=>none
 | none=>none
def eqC:List PV->List PV->List PV->Option Bool
 | [],[],[]=>some true
 | .int k _::z,.int k1 a::r,.int k2 b::r'=>Q6 (vG k k1&&vG k k2) (a==b) (eqC z r r')
 | .bool _::z,.bool a::r,.bool b::r'=>Q6 true (a==b) (eqC z r r')
 | .str _::z,.str a::r,.str b::r'=>Q6 true (a==b) (eqC z r r')
 | _,_,_=>none
def To (ti:TI) (bo:BinOp) (x y:PV) (K:PV->Prop):Prop:=
 match x,y with
 | .int k a,.int k' b=>
  match bo with
  | .shl=>0<=b/\K (.int k (k.wrap (a*2 ^ min b.toNat k.bits)))
  | .shr=>0<=b/\K (.int k (a.fdiv (2 ^ min b.toNat k.bits)))
  | _=>fy (vG k k')<|match bo with
  | .and=>K (.int k (bits .and k a b))
  | .or=>K (.int k (bits .or k a b))
  | .xor=>K (.int k (bits .xor k a b))
  | .andNot=>K (.int k (bits .andNot k a b))
  | .add=>K (.int k (k.wrap (a+b)))
  | .sub=>K (.int k (k.wrap (a - b)))
  | .mul=>K (.int k (k.wrap (a*b)))
  | .quo=>b≠0/\K (.int k (k.wrap (a.tdiv b)))
  | .rem=>b≠0/\K (.int k (a.tmod b))
  | .eql=>K (.bool (a==b))
  | .neq=>K (.bool (a != b))
  | .lss=>K (.bool (decide (a<b)))
  | .leq=>K (.bool (decide (a<=b)))
  | .gtr=>K (.bool (decide (a>b)))
  | .geq=>K (.bool (decide (a>=b)))
  | _=>False
 | .bool a,.bool b=>match ti,bo with
  | .bool,.eql=>K (.bool (a==b))
  | .bool,.neq=>K (.bool (!(a==b)))
  | _,_=>False
 | .str a,.str b=>match bo with
  | .add=>a.length+b.length<=4611686018427387904/\∃s,a++b=s/\K (.str s)
  | .eql=>K (.bool (a==b))
  | .neq=>K (.bool (!(a==b)))
  | .lss=>K (.bool (Op.bytesLess a b))
  | .leq=>K (.bool (Op.bytesLess a b||a==b))
  | .gtr=>K (.bool !(Op.bytesLess a b||a==b))
  | .geq=>K (.bool !(Op.bytesLess a b))
  | _=>False
 | .agg xs,.agg ys=>match ti with
  | .struct _ _ z=>fy (Dr z) (match eqC z xs ys with
   | some b=>match bo with
    | .eql=>∃c,b=c/\K (.bool c)
    | .neq=>∃c,b=c/\K (.bool !c)
    | _=>False
   | none=>False)
  | _=>False
 | _,_=>False
def Dx (x:PV) (lo hi:Option PV) (K:PV->Prop):Prop:=
 match x with
 | .ij sz n f=>match lo,hi with
  | none,none=>K (.ij sz n f)
  | some (.int _ l),none=>(0<=l/\l<=n)/\K (.ij sz (n - l.toNat) (λi=>f (l.toNat+i)))
  | none,some (.int _ m)=>(0<=m/\m<=n)/\K (.ij sz m.toNat f)
  | some (.int _ l),some (.int _ m)=>(0<=l/\l<=m/\m<=n)/\K (.ij sz (m.toNat - l.toNat) (λi=>f (l.toNat+i)))
  | _,_=>False
 | .own id gen off len=>match lo,hi with
  | none,none=>K (.own id gen off len)
  | some (.int _ l),none=>(0<=l/\l<=len)/\K (.own id gen (off+l.toNat) (len - l.toNat))
  | none,some (.int _ m)=>(0<=m/\m<=len)/\K (.own id gen off m.toNat)
  | some (.int _ l),some (.int _ m)=>(0<=l/\l<=m/\m<=len)/\K (.own id gen (off+l.toNat) (m.toNat - l.toNat))
  | _,_=>False
 | .str s=>match lo,hi with
  | none,none=>K (.str s)
  | some (.int _ l),none=>(0<=l/\l<=s.length)/\K (.str (s.drop l.toNat))
  | none,some (.int _ m)=>(0<=m/\m<=s.length)/\K (.str (s.take m.toNat))
  | some (.int _ l),some (.int _ m)=>(0<=l/\l<=m/\m<=s.length)/\K (.str ((s.take m.toNat).drop l.toNat))
  | _,_=>False
 | _=>False
def Lz (K:PV->Prop) (v:PV):Prop:=
 match v with
 | .ij sz n f=>∃n' f',n'=n/\(∀i,i<n'->f' i=f i)/\K (.ij sz n' f')
 | .str s=>∃s',s=s'/\K (.str s')
 | .own id g off n=>∃afw n',afw=off/\n'=n/\K (.own id g afw n')
 | v=>K v
def aeJ (n:Nat) (hi mx:Option PV):Prop:=
 match mx with
 | none=>True
 | some (.int _ q)=>match hi with
  | some (.int _ m)=>m<=q/\q<=n
  | _=>False
 | _=>False
def isByte:List PV->Bool
 | [.int .u8 _]=>true
 | _=>false
def byteOf:List PV->UInt8
 | [.int _ v]=>UInt8.ofNat v.toNat
 | _=>0
def xU (v:PV) (h:List al) (K:List UInt8->Prop):Prop:=
 match v with
 | .ck=>K []
 | .ij sz n f=>fy (Nat.beq sz 1) (∃s:List UInt8,s.length=n/\(∀i,i<n->f i=[.int .u8 (s.getD i 0).toNat])/\K s)
 | .own id gen off n=>match er h id with
  | .row g sz _ _ f=>g=gen/\fy (Nat.beq sz 1) (∃s:List UInt8,s.length=n/\(∀i,i<n->f (off+i)=[.int .u8 (s.getD i 0).toNat])/\K s)
  | .dead=>False
 | _=>False
def Af:PV->Bool
 | .agg _=>false
 | .fM _=>false
 | .jQ=>false
 | .dI _ _ _ _ _=>false
 | _=>true
def storable:PV->Bool
 | .agg cs=>cs.all Af
 | v=>Af v
def qw (env:Env) (sz:Nat) (fl:List (Nat×Nat×Bool)) (K:List PV->Prop):List (Nat×Operand)->List PV->Prop
 | [],acc=>K acc
 | (k,x)::r,acc=>match fl[k]? with
  | some (o,size,_)=>force (ev env x) λv=>fy (storable v&&Nat.beq (cellsOf v).length size&&Nat.ble (o+size) sz) (qw env sz fl K r (gH acc o (cellsOf v)))
  | none=>False
def dA (T:qq) (op:Op) (env:Env) (h:List al) (K:PV->Prop):Prop:=
 match op with
 | .move x=>force (ev env x) K
 | .assign x=>force (ev env x) K
 | .pick c a b=>match ev env c with
  | .bool t=>gJ t (force (ev env a) K) (force (ev env b) K)
  | _=>False
 | .binOp bo t x y _=>To (T.get t) bo (ev env x) (ev env y) K
 | .unOp u _ x=>match u,ev env x with
  | .not,.bool b=>K (.bool !b)
  | .neg,.int k n=>K (.int k (k.wrap (0 - n)))
  | _,_=>False
 | .load t a=>ze T t (ev env a) h K
 | .convert s d x=>match T.get s,T.get d,ev env x with
  | .int _,.int k,.int _ n=>K (.int k (k.wrap n))
  | .slice e _ _ _,.str,v=>match T.get e with
   | .int .u8=>xU v h (λs=>K (.str s))
   | _=>False
  | _,_,_=>False
 | .nilCheck x=>match ev env x with
  | .gD cs=>K (.gD cs)
  | .aA id gen i off=>match er h id with
   | .row g _ _ _ _=>g=gen/\K (.aA id gen i off)
   | .dead=>False
  | _=>False
 | .fieldAddr s x k=>match T.get s with
  | .struct _ fl _=>match fl[k]? with
   | some (o,_,_)=>match ev env x with
    | .gD cs=>K (.gD (cs.drop o))
    | .aA id gen i off=>match er h id with
     | .row g _ _ _ _=>g=gen/\K (.aA id gen i (off+o))
     | .dead=>False
    | _=>False
   | none=>False
  | _=>False
 | .field s x k=>match T.get s with
  | .struct _ fl _=>match fl[k]? with
   | some (o,size,ag)=>match ev env x with
    | .agg cs=>match ag with
     | true=>G6 (λl=>K (.agg l)) size (cs.drop o) []
     | false=>match cs.drop o with
      | c::_=>force c K
      | []=>False
    | _=>False
   | none=>False
  | _=>False
 | .build t parts=>match T.get t with
  | .struct sz fl z=>qw env sz fl (λcs=>K (.agg cs)) parts.toList z
  | _=>False
 | .indexAddr t x i=>match T.get t,ev env x,ev env i with
  | .slice _ sz _ _,.ij cJ n f,.int _ i=>fy (Nat.beq sz cJ) ((0<=i/\i<n)/\∃c,f i.toNat=c/\K (.gD c))
  | .slice _ sz _ _,.own id gen off len,.int _ i=>match er h id with
   | .row g cJ _ e' _=>g=gen/\fy (Nat.beq sz cJ&&!Nat.beq e' aca) ((0<=i/\i<len)/\∃j,off+i.toNat=j/\K (.aA id gen j 0))
   | .dead=>False
  | _,_,_=>False
 | .index t x i=>match T.get t,ev env x,ev env i with
  | .str,.str s,.int _ i=>(0<=i/\i<s.length)/\∃c,s.getD i.toNat 0=c/\K (.int .u8 (c:UInt8).toNat)
  | _,_,_=>False
 | .extract x i=>match ev env x with
  | .fM vs=>match vs[i]? with
   | some v=>force v K
   | none=>False
  | _=>False
 | .slice t x lo hi mx=>match T.get t,ev env x with
  | .slice _ sz _ _,.ij cJ n f=>fy (Nat.beq sz cJ) (aeJ n (hi.map (ev env)) (mx.map (ev env))/\Dx (.ij cJ n f) (lo.map (ev env)) (hi.map (ev env)) (Lz K))
  | .slice _ sz _ _,.own id gen off len=>match er h id with
   | .row g cJ _ _ _=>g=gen/\fy (Nat.beq sz cJ) (aeJ len (hi.map (ev env)) (mx.map (ev env))/\Dx (.own id gen off len) (lo.map (ev env)) (hi.map (ev env)) (Lz K))
   | .dead=>False
  | .str,.str s=>fy mx.isNone (Dx (.str s) (lo.map (ev env)) (hi.map (ev env)) (Lz K))
  | _,_=>False
 | .call ⟨.builtin .len,args,ts⟩=>match args.toList,ts.toList with
  | [x],[t]=>match T.get t,ev env x with
   | .slice _ _ _ _,.ij _ n _=>K (.int .i64 n)
   | .slice _ _ _ _,.ck=>K (.int .i64 0)
   | .slice _ _ _ _,.own id gen _ n=>match er h id with
    | .row g _ _ _ _=>g=gen/\K (.int .i64 n)
    | .dead=>False
   | .str,.str s=>K (.int .i64 s.length)
   | .map _ _ _,.qv id=>match er h id with
    | .row _ _ n _ _=>K (.int .i64 n)
    | .dead=>False
   | _,_=>False
  | _,_=>False
 | _=>False
def lI:TI->Nat
 | .struct sz _ _=>sz
 | .other=>0
 | _=>1
def Ds:TI->Option (List PV)
 | .int k=>some [.int k 0]
 | .bool=>some [.bool false]
 | .str=>some [.str []]
 | .slice _ _ _ _=>some [.ck]
 | .struct _ _ z=>some z
 | _=>none
def Bc (len:Nat):Nat->List (Nat×Operand)->Bool
 | k,[]=>Nat.beq k len
 | k,(i,_)::r=>Nat.beq i k&&Bc len (k+1) r
def sc (env:Env) (sz:Nat) (K:List (List PV)->Prop):List (Nat×Operand)->List (List PV)->Prop
 | [],acc=>K acc.reverse
 | (_,x)::r,acc=>force (ev env x) λv=>fy (storable v&&Nat.beq (cellsOf v).length sz) (sc env sz K r (cellsOf v::acc))
theorem Bd {env:Env} {sz:Nat} {K:List (List PV)->Prop}:∀(l:List (Nat×Operand)) (acc:List (List PV)),sc env sz K l acc->
  (∀p∈l,storable (ev env p.2)=true/\Nat.beq (cellsOf (ev env p.2)).length sz=true)/\K (acc.reverse++l.map λp=>cellsOf (ev env p.2))
 | [],acc,h=>⟨λp hp=>by simp at hp,by simp only [aKI,aKF];exact h⟩
 | (i,x)::r,acc,h=>by
  obtain ⟨h1,h2⟩:=bX (dW h)
  simp only [At] at h1
  obtain ⟨h3,h4⟩:=Bd r _ h2
  refine ⟨λp hp=>?_,by simpa using h4⟩
  simp only [aKo] at hp
  rcases hp with rfl | hp
  ·exact h1
  ·exact h3 p hp
def noO:List PV->Bool
 | []=>true
 | .dI _ _ _ _ _::_=>false
 | _::r=>noO r
def Pd (x:PV) (h:List al) (sz:Nat) (K:Nat->(Nat->List PV)->Prop):Prop:=
 match x with
 | .ck=>K 0 (λ_=>[])
 | .ij cJ m g=>fy (Nat.beq sz cJ) (K m g)
 | .own id gen off m=>match er h id with
  | .row g cJ _ _ f=>g=gen/\(∀i,i<m->noO (f (off+i))=true)/\fy (Nat.beq sz cJ) (K m (λi=>f (off+i)))
  | .dead=>False
 | .str s=>fy (Nat.beq sz 1)<|K s.length (λi=>[.int .u8 (s.getD i 0).toNat])
 | _=>False
def wD (e sz bytes:Nat) (s x:PV) (h:List al) (K:PV->List al->Prop):Prop:=
 match s with
 | .ck=>Pd x h sz λm g=>m*bytes<=140737488355328/\∃n' f',n'=m/\(∀i,i<n'->oz (g i) (f' i))/\K (.own h.length 0 0 n') (h++[.row 0 sz n' e f'])
 | .own id gen off len=>match er h id with
  | .row g cJ _ e' f=>g=gen/\fy (Nat.beq sz cJ&&Nat.beq e e') (Pd x h sz λm q=>(len+m)*bytes<=140737488355328/\∃n' f',n'=len+m/\
    (∀i,i<n'->oz (bif Nat.blt i len then f (off+i) else q (i - len)) (f' i))/\
    K (.own id (gen+1) 0 n') (h.set id (.row (gen+1) sz n' e f')))
  | .dead=>False
 | _=>False
def Od (f:Nat->List PV) (n:Nat) (q:Nat->List PV):Nat->List PV:=λi=>bif Nat.blt i n then f i else q (i - n)
def Mf (e sz bytes:Nat) (s x:PV) (h:List al) (K:PV->List al->Prop):Prop:=
 match s,x with
 | .ck,.own ll abQ 0 m=>match er h ll with
  | .row g' lN _ _ q=>g'=abQ/\fy (Nat.beq sz lN) (m*bytes<=140737488355328/\K (.own h.length 1 0 m) (((h++[al.row 0 sz 0 e (λ_=>[])]).set h.length (al.row 1 sz m e q)).set ll al.dead))
  | .dead=>False
 | .own id gen 0 len,.own ll abQ 0 m=>match er h id with
  | .row g cJ _ e' f=>match er h ll with
   | .row g' lN _ _ q=>g=gen/\g'=abQ/\fy (Nat.beq sz cJ&&(Nat.beq e e'&&(Nat.beq sz lN&&!Nat.beq ll id))) ((len+m)*bytes<=140737488355328/\K (.own id (gen+1) 0 (len+m)) ((h.set id (al.row (gen+1) sz (len+m) e (Od f len q))).set ll al.dead))
   | .dead=>False
  | .dead=>False
 | _,_=>False
inductive PJ (e sz bytes:Nat) (s x:PV) (h:List al) (K:PV->List al->Prop):Prop
 | dO (hp:wD e sz bytes s x h K)
 | move (hp:Mf e sz bytes s x h K)
def nA:PV->Bool
 | .fM _=>false
 | _=>true
inductive pF (P:Program) (f:FuncId) (args:List PV) (h:List al) (K:PV->List al->Prop):Prop
 | mk (R:PV->List al->Prop) (hA:ACall P f args h R) (hk:∀res h',R res h'->K res h')
def pop (P:Program) (T:qq) (op:Op) (env:Env) (h:List al) (K:PV->List al->Prop):Prop:=
 match op with
 | .store t a x=>match ev env a with
  | .aA id gen i off=>match er h id with
   | .row g sz n e f=>g=gen/\force (ev env x) λv=>fy (storable v&&Nat.ble 1 (lI (T.get t))&&Nat.beq (lI (T.get t)) (cellsOf v).length&&Nat.ble (off+(cellsOf v).length) sz)
     (∃c f',f i=c/\(∀j,j<n->oz (da f i (gH c off (cellsOf v)) j) (f' j))/\K .jQ (h.set id (.row g sz n e f')))
   | .dead=>False
  | _=>False
 | .box t x=>force (ev env x) λv=>fy (storable v&&Nat.beq (cellsOf v).length (lI (T.get t))) (K (.aA h.length 0 0 0) (h++[.row 0 (lI (T.get t)) 1 t (λ_=>cellsOf v)]))
 | .alloc t=>match Ds (T.get t) with
  | some z=>K (.aA h.length 0 0 0) (h++[.row 0 (lI (T.get t)) 1 t (λ_=>z)])
  | none=>False
 | .makeSlice t l c=>match T.get t,ev env l,ev env c with
  | .slice e sz bytes zero,.int _ n,.int _ m=>(0<=n/\n<=m/\m<=4611686018427387904/\m.toNat*bytes<=140737488355328)/\∃n' f',n'=n.toNat/\(∀i,i<n'->oz zero (f' i))/\K (.own h.length 0 0 n') (h++[.row 0 sz n' e f'])
  | _,_,_=>False
 | .buildSlice t len parts=>match T.get t with
  | .slice e sz _ _=>fy (Bc len 0 parts.toList&&Nat.ble (len*sz) 65536) (sc env sz (λcs=>∃f',(∀i,i<len->oz (cs.getD i []) (f' i))/\K (.own h.length 0 0 len) (h++[.row 0 sz len e f'])) parts.toList [])
  | _=>False
 | .convert s d x=>match T.get s,T.get d,ev env x with
  | .str,.slice e _ _ _,.str b=>match T.get e with
   | .int .u8=>∃f',(∀i,i<b.length->f' i=[.int .u8 (b.getD i 0).toNat])/\K (.ij 1 b.length f') h
   | _=>False
  | _,_,_=>dA T (.convert s d x) env h (λv=>K v h)
 | .binOp bo t x y ty=>match bo,T.get t,ev env x,ev env y with
  | .eql,.slice _ _ _ _,.ij _ n _,.ck=>(n=0->K (.bool true) h)/\K (.bool false) h
  | _,_,_,_=>dA T (.binOp bo t x y ty) env h (λv=>K v h)
 | .call ⟨.builtin .append,args,ts⟩=>match args.toList,ts.toList with
  | [s,x],[t,tx]=>match T.get t,T.get tx with
   | .slice e sz bytes _,.slice _ _ _ _=>PJ e sz bytes (ev env s) (ev env x) h K
   | .slice e sz bytes _,.str=>PJ e sz bytes (ev env s) (ev env x) h K
   | _,_=>False
  | _,_=>False
 | .call ⟨.value fo,args,_⟩=>match ev env fo with
  | .fn f=>fy (args.toList.all (λx=>nA (ev env x))) (pF P f (args.toList.map (ev env)) h K)
  | .se f df=>fy (args.toList.all (λx=>nA (ev env x))) (pF P f (args.toList.map (ev env)++df.map λp=>.aA p.1 p.2 0 0) h K)
  | _=>False
 | op=>dA T op env h (λv=>K v h)
def wh (P:Program) (T:qq) (all:List Oper) (K:Env->List al->Prop) (l:List Oper):Env->List al->Prop:=
 List.rec (motive:=λ_=>Env->List al->Prop) K (λo _ ih env h=>match o.guard with
  | none=>pop P T o.op env h (λv h'=>ih (fx env o.dst v) h')
  | some (j,want)=>match (all[j]?).bind (·.dst) with
   | some t=>match env t with
    | .bool b=>gJ b
      (match want with
       | true=>pop P T o.op (qZ env t (.bool true)) h (λv h'=>ih (fx (qZ env t (.bool true)) o.dst v) h')
       | false=>ih (fx (qZ env t (.bool true)) o.dst (.fM [])) h)
      (match want with
       | true=>ih (fx (qZ env t (.bool false)) o.dst (.fM [])) h
       | false=>pop P T o.op (qZ env t (.bool false)) h (λv h'=>ih (fx (qZ env t (.bool false)) o.dst v) h'))
    | .fM []=>ih (fx env o.dst (.fM [])) h
    | _=>False
   | none=>False) l
abbrev XQ:=Exit->Env->List al->Prop
def XQ.then (next:Env->List al->Prop) (Q:XQ):XQ
 | .normal,env,h=>next env h
 | e,env,h=>Q e env h
def XQ.inBlock (id:Nat) (Q:XQ):XQ
 | .exit id',env,h=>match Nat.beq id' id with
  | true=>Q .normal env h
  | false=>Q (.exit id') env h
 | e,env,h=>Q e env h
def zh (h η:List al) (k:List Nat) (env:Env):List (Nat×PV)->Prop
 | []=>True
 | (t,v)::r=>Fz h η k (env t) v/\zh h η k env r
def lL (h η:List al) (k:List Nat) (m:Nat):Nat->List al->List Nat->Prop
 | _,[],[]=>True
 | i,o::r,id::r'=>x5 h η k m o i id/\lL h η k m (i+1) r r'
 | _,_,_=>False
def zi (m:Nat) (env:Env) (h:List al) (σ:List (Nat×PV)) (η:List al):Prop:=
 ∃k:List Nat,pC (pc η k)=true/\m<=k.length/\zh h η k env σ/\lL h η k m 0 η k
def pW:Env:=λ_=>.jQ
def LQ (h h1:List al):Prop:=∃(id g sz n:Nat) (e:TypeId) (f:Nat->List PV) (i j cJ n':Nat) (e':TypeId) (f':Nat->List PV) (F:Nat->Prop) (f1:Nat->List PV),h[id]? =some (al.row g sz n e f)/\i<n/\
 (f i)[j]? =some (.dI cJ n' e' f' F)/\f1 i=(f i).set j (.own h.length 0 0 n')/\(∀k,k<n->k≠i->f1 k=f k)/\h1=h.set id (.row g sz n e f1)++[.row 0 cJ n' e' f']
def Bm (h:List al) (id i j sub:Nat) (F:Nat->Prop) (h1:List al):Prop:=∃(g sz n:Nat) (e:TypeId) (f:Nat->List PV) (g2 lN n2:Nat) (e2:TypeId) (f2 f1:Nat->List PV),h[id]? =some (al.row g sz n e f)/\h[sub]? =some (al.row g2 lN n2 e2 f2)/\
 id≠sub/\i<n/\(f i)[j]? =some (.own sub g2 0 n2)/\(∀k,k<n2->∀c,c∈f2 k->cA c=true\/eh c=true)/\f1 i=(f i).set j (.dI lN n2 e2 f2 F)/\(∀k,k<n->k≠i->f1 k=f k)/\
 h1=(h.set id (.row g sz n e f1)).set sub .dead
inductive ru (m:Nat) (body:(Env->List al->Prop)->Env->List al->Prop):Env->List al->Prop
 | take {env:Env} {h:List al} (σ:List (Nat×PV)) (η:List al) (ht:zi m env h σ η) (hk:ru m body (BQ pW σ) η):ru m body env h
 | step {env:Env} {h:List al} (N:Env->List al->Prop) (hN:∀e h',N e h'->ru m body e h') (hb:body N env h):ru m body env h
 | ex {env:Env} {h:List al} (h1:List al) (hx:LQ h h1) (hk:ru m body env h1):ru m body env h
 | ab {env:Env} {h:List al} (id i j sub:Nat) (h1:(Nat->Prop)->List al) (ha:∀F,Bm h id i j sub F (h1 F)) (hk:∀F,ru m body env (h1 F)):ru m body env h
def aK (m:Nat) (body:(Env->List al->Prop)->Env->List al->Prop) (σ:List (Nat×PV)) (η:List al):Prop:=ru m body (BQ pW σ) η
inductive loopGo (m:Nat) (body:(Env->List al->Prop)->Env->List al->Prop) (env:Env):List al->Prop
 | mk {h:List al} (σ:List (Nat×PV)) (η:List al) (ht:zi m env h σ η) (hk:aK m body σ η):loopGo m body env h
 | ex {h:List al} (h1:List al) (hx:LQ h h1) (hk:loopGo m body env h1):loopGo m body env h
 | ab {h:List al} (id i j sub:Nat) (h1:(Nat->Prop)->List al) (ha:∀F,Bm h id i j sub F (h1 F)) (hk:∀F,loopGo m body env (h1 F)):loopGo m body env h
theorem loopGo.to {m:Nat} {body:(Env->List al->Prop)->Env->List al->Prop} {env:Env} {h:List al} (hg:loopGo m body env h):ru m body env h:=by
 induction hg with
 | mk σ η ht hk=>exact .take σ η ht hk
 | ex h1 hx hk ih=>exact .ex h1 hx ih
 | ab id i j sub h1 ha hk ih=>exact .ab id i j sub h1 ha ih
theorem aK.enter {m:Nat} {body:(Env->List al->Prop)->Env->List al->Prop} {env:Env} {h:List al} (σ:List (Nat×PV)) (η:List al) (ht:zi m env h σ η) (hk:aK m body σ η):ru m body env h:=.take σ η ht hk
theorem aK.round {m:Nat} {body:(Env->List al->Prop)->Env->List al->Prop} {σ:List (Nat×PV)} {η:List al} (hb:body (loopGo m body) (BQ pW σ) η):aK m body σ η:=
 .step (loopGo m body) (λ_ _ hg=>hg.to) hb
inductive zj (m:Nat) (J:List (Nat×PV)->List al->Prop) (env:Env):List al->Prop
 | mk {h:List al} (σ:List (Nat×PV)) (η:List al) (ht:zi m env h σ η) (hj:J σ η):zj m J env h
 | ex {h:List al} (h1:List al) (hx:LQ h h1) (hk:zj m J env h1):zj m J env h
 | ab {h:List al} (id i j sub:Nat) (h1:(Nat->Prop)->List al) (ha:∀F,Bm h id i j sub F (h1 F)) (hk:∀F,zj m J env (h1 F)):zj m J env h
inductive vN (m:Nat) (A B:XQ->Env->List al->Prop) (Q:XQ) (env:Env):List al->Prop
 | direct {h:List al} (hd:A (XQ.then (B Q) Q) env h):vN m A B Q env h
 | cut {h:List al} (J:List (Nat×PV)->List al->Prop) (ha:A (XQ.then (zj m J) Q) env h) (hb:∀σ η,J σ η->B Q (BQ pW σ) η):vN m A B Q env h
 | ex {h:List al} (h1:List al) (hx:LQ h h1) (hk:vN m A B Q env h1):vN m A B Q env h
 | ab {h:List al} (id i j sub:Nat) (h1:(Nat->Prop)->List al) (ha:∀F,Bm h id i j sub F (h1 F)) (hk:∀F,vN m A B Q env (h1 F)):vN m A B Q env h
def G0:Op->Bool
 | .call ⟨.value _,_,_⟩=>false
 | .call ⟨.builtin .append,_,_⟩=>false
 | .call ⟨.builtin .copy,_,_⟩=>false
 | .store _ _ _=>false
 | .box _ _=>false
 | .alloc _=>false
 | .makeSlice _ _ _=>false
 | .buildSlice _ _ _=>false
 | .makeMap _ _=>false
 | .mapUpdate _ _ _ _=>false
 | _=>true
def yv:PV->Bool
 | .int _ _=>true
 | .bool _=>true
 | .str _=>true
 | .ck=>true
 | _=>false
def abU (P:Program) (fo:PV) (args:List PV) (h:List al) (K:PV->Prop):Prop:=
 match fo with
 | .fn f=>fy (args.all nA) (∃(mH:List PV) (v:PV),xZ h [] [] args mH/\mH.all nA=true/\ACall P f mH [] (λres _=>res=v)/\fy (yv v) (K v))
 | _=>False
def qop (P:Program) (T:qq) (op:Op) (env:Env) (h:List al) (K:PV->Prop):Prop:=
 match op with
 | .call ⟨.value fo,args,_⟩=>abU P (ev env fo) (args.toList.map (ev env)) h K
 | op=>dA T op env h K
def yh (P:Program) (T:qq) (all:List Oper) (h:List al) (K:Env->Prop) (l:List Oper):Env->Prop:=
 List.rec (motive:=λ_=>Env->Prop) K (λo _ ih env=>match o.guard with
  | none=>qop P T o.op env h (λv=>ih (fx env o.dst v))
  | some (j,want)=>match (all[j]?).bind (·.dst) with
   | some t=>match env t with
    | .bool b=>gJ b
      (match want with
       | true=>qop P T o.op (qZ env t (.bool true)) h (λv=>ih (fx (qZ env t (.bool true)) o.dst v))
       | false=>ih (fx (qZ env t (.bool true)) o.dst (.fM [])))
      (match want with
       | true=>ih (fx (qZ env t (.bool false)) o.dst (.fM []))
       | false=>qop P T o.op (qZ env t (.bool false)) h (λv=>ih (fx (qZ env t (.bool false)) o.dst v)))
    | .fM []=>ih (fx env o.dst (.fM []))
    | _=>False
   | none=>False) l
def pM:List Nat->Nat->Bool
 | [],_=>false
 | a::r,x=>match Nat.beq a x with
  | true=>true
  | false=>pM r x
def wu:PV->List Nat
 | .own id _ _ _=>[id]
 | .aA id _ _ _=>[id]
 | .qv id=>[id]
 | .se _ df=>df.map (·.1)
 | _=>[]
def nX (env:Env) (op:Op):List Nat:=match op with | .move _=>[] | _=>op.operands.toList.flatMap λx=>wu (ev env x)
def abW (o:Oper):List Nat:=o.after.toList.filterMap λe=>match Region.binds .any e with | true=>some e.on | false=>none
def dX (all:List Oper) (i:Nat):List Nat:=match all[i]? with | some o=>abW o | none=>[]
def gw:List (Nat×List Nat)->Nat->List Nat
 | [],_=>[]
 | (j,A)::r,i=>match Nat.beq j i with | true=>A | false=>gw r i
def ddL:List Nat->List Nat->List Nat
 | [],acc=>acc
 | a::r,acc=>match pM acc a with | true=>ddL r acc | false=>ddL r (a::acc)
def IS (all:List Oper):List (Nat×Bool)->List (Nat×List Nat)->List (Nat×List Nat)
 | [],t=>t
 | (i,_)::r,t=>IS all r ((i,ddL (dX all i++(dX all i).flatMap (gw t)) [])::t)
def wH (ops:Array Oper) (i j:Nat):Bool:=match ops[i]?,ops[j]? with | some x,some y=>Oper.apart ops x y | _,_=>false
def jt (ops:Array Oper) (t:List (Nat×List Nat)) (p i:Nat×Bool):Bool:=
 !(Nat.beq p.1 i.1)&&!(pM (dX ops.toList p.1) i.1)&&(pM (dX ops.toList i.1) p.1||(wH ops p.1 i.1&&(p.2||pM (gw t i.1) p.1)))
def db (ops:Array Oper) (t:List (Nat×List Nat)):List (Nat×Bool)->Bool
 | []=>true
 | p::r=>r.all (jt ops t p)&&db ops t r
def RE (ops:Array Oper) (ord:List (Nat×Bool)):Bool:=
 Nat.beq ord.length ops.size&&(List.range ops.size).all (λj=>pM (ord.map (·.1)) j)&&ord.all (λp=>Nat.blt p.1 ops.size&&(dX ops.toList p.1).all (λd=>Nat.blt d ops.size&&!(Nat.beq d p.1)))&&db ops (IS ops.toList ord []) ord
def I7 (h h':List al) (K:Prop):List Nat->Prop
 | []=>K
 | id::r=>er h id=er h' id/\I7 h h' K r
def rG (anc:List Nat) (h h':List al) (K:Prop):List (Nat×List Nat)->Prop
 | []=>K
 | (j,ids)::r=>match pM anc j with
  | true=>rG anc h h' K r
  | false=>I7 h h' (rG anc h h' K r) ids
def FO (P:Program) (T:qq) (st:Bool) (op:Op) (env:Env) (h:List al) (G:PV->List al->Prop):Prop:=
 match st with
 | true=>dA T op env h (λv=>G v h)
 | false=>pop P T op env h G
def xn (P:Program) (T:qq) (all:List Oper) (st:Bool) (o:Oper) (F:Env->PV->List al->Prop) (env:Env) (h:List al):Prop:=
 match o.guard with
 | none=>FO P T st o.op env h (F env)
 | some (j,want)=>match (all[j]?).bind (·.dst) with
  | some t=>match env t with
   | .bool b=>gJ b
     (match want with
      | true=>FO P T st o.op (qZ env t (.bool true)) h (F (qZ env t (.bool true)))
      | false=>F (qZ env t (.bool true)) (.fM []) h)
     (match want with
      | true=>F (qZ env t (.bool false)) (.fM []) h
      | false=>FO P T st o.op (qZ env t (.bool false)) h (F (qZ env t (.bool false))))
   | .fM []=>F env (.fM []) h
   | _=>False
  | none=>False
def fw (P:Program) (T:qq) (all:List Oper) (t:List (Nat×List Nat)) (K:Env->List al->Prop) (l:List (Nat×Bool)):List (Nat×List Nat)->Env->List al->Prop:=
 List.rec (motive:=λ_=>List (Nat×List Nat)->Env->List al->Prop) (λ_ env h=>K env h) (λp _ ih dw env h=>match all[p.1]? with
  | some o=>match p.2 with
   | true=>xn P T all true o (λenv' v h'=>ih ((p.1,nX env' o.op)::dw) (fx env' o.dst v) h') env h
   | false=>xn P T all false o (λenv' v h'=>rG (gw t p.1) h h' (ih dw (fx env' o.dst v) h') dw) env h
  | none=>False) l
def fwE (P:Program) (T:qq) (all:List Oper) (t:List (Nat×List Nat)) (E:List (Nat×List Nat)->Env->List al->Prop) (l:List (Nat×Bool)):List (Nat×List Nat)->Env->List al->Prop:=
 List.rec (motive:=λ_=>List (Nat×List Nat)->Env->List al->Prop) (λdw env h=>E dw env h) (λp _ ih dw env h=>match all[p.1]? with
  | some o=>match p.2 with
   | true=>xn P T all true o (λenv' v h'=>ih ((p.1,nX env' o.op)::dw) (fx env' o.dst v) h') env h
   | false=>xn P T all false o (λenv' v h'=>rG (gw t p.1) h h' (ih dw (fx env' o.dst v) h') dw) env h
  | none=>False) l
def abY (ops:Array Oper) (t:List (Nat×List Nat)) (ord:List (Nat×Bool)) (x y:Nat) (RX RY:List Nat):Bool:=
 Nat.beq RX.length RY.length&&ord.all (λp=>jt ops t p (x,false)&&jt ops t p (y,false)&&(dX ops.toList p.1).all (λd=>!(pM (x::RX) d))&&!(pM (x::RX) p.1))&&
  (x::RX).all (λj=>pM (y::RY) j)&&(y::RY).all (λj=>pM (x::RX) j)&&(dX ops.toList x).all (λd=>!(pM (x::RX) d))&&!(pM RX x)&&!(pM RY y)&&
  RX.all (λj=>Nat.beq j y||pM (gw t j) x||pM (gw t j) y)
abbrev rE:=List (List (Nat×Bool)×Nat×Nat×List (Nat×Bool))
def FP:rE->List (Nat×Bool)->List (Nat×Bool)
 | [],fin=>fin
 | c::r,fin=>c.1++(c.2.1,false)::FP r fin
def fwC (P:Program) (T:qq) (all:List Oper) (t:List (Nat×List Nat)) (K:Env->List al->Prop) (fin:List (Nat×Bool)) (cs:rE):List (Nat×List Nat)->Env->List al->Prop:=
 List.rec (motive:=λ_=>List (Nat×List Nat)->Env->List al->Prop) (λdw env h=>fw P T all t K fin dw env h)
  (λc _ ih dw env h=>fwE P T all t (λdw env h=>fwE P T all t ih [(c.2.1,false)] dw env h/\fw P T all t K ((c.2.2.1,false)::c.2.2.2) dw env h) c.1 dw env h) cs
def TT (ops:Array Oper) (t:List (Nat×List Nat)) (fin:List (Nat×Bool)):rE->List (Nat×Bool)->Bool
 | [],pre=>db ops t (pre++fin)
 | c::r,pre=>abY ops t (pre++c.1) c.2.1 c.2.2.1 ((FP r fin).map (·.1)) (c.2.2.2.map (·.1))&&db ops t ((pre++c.1)++c.2.2.2)&&TT ops t fin r (pre++c.1)
def Ef (ops:Array Oper) (cs:rE) (fin:List (Nat×Bool)):Bool:=
 (λall=>(λt=>Nat.beq all.length ops.size&&(List.range ops.size).all (λj=>pM (all.map (·.1)) j)&&all.all (λp=>Nat.blt p.1 ops.size&&(dX ops.toList p.1).all (λd=>Nat.blt d ops.size&&!(Nat.beq d p.1)))&&
  TT ops t fin cs []) (IS ops.toList all [])) (FP cs fin)
inductive Eg (P:Program) (T:qq) (m:Nat) (ops:Array Oper) (K:Env->List al->Prop) (env:Env) (h:List al):Prop
 | quiet (hq:yh P T ops.toList h (λenv'=>K env' h) ops.toList env):Eg P T m ops K env h
 | CQ (cs:rE) (fin:List (Nat×Bool)) (hc:Ef ops cs fin=true) (hf:fwC P T ops.toList (IS ops.toList (FP cs fin) []) K fin cs [] env h):Eg P T m ops K env h
 | float (ord:List (Nat×Bool)) (hc:RE ops ord=true) (hf:fw P T ops.toList (IS ops.toList ord []) K ord [] env h):Eg P T m ops K env h
def ahv (Q:XQ) (env:Env) (h:List al):Prop:=Q .normal env h
def aCI (Q:XQ) (h:List al) (env:Env):Prop:=Q .normal env h
def vc (P:Program) (T:qq) (m:Nat) (c:Code):XQ->Env->List al->Prop:=
 Code.rec (motive:=λ_=>XQ->Env->List al->Prop)
  (λQ env h=>Q .normal env h)
  (λ_ ops d Q env h=>match d with
   | false=>wh P T ops.toList (Q .normal) ops.toList env h
   | true=>match ops.toList.all (λo=>G0 o.op) with
    | true=>yh P T ops.toList h (aCI Q h) ops.toList env
    | false=>Eg P T m ops (ahv Q) env h)
  (λ_ _ iha ihb Q env h=>vN m iha ihb Q env h)
  (λc _ _ iha ihb Q env h=>match ev env c with
   | .bool t=>gJ t (iha Q env h) (ihb Q env h)
   | _=>False)
  (λid _ ih Q env h=>ih (XQ.inBlock id Q) env h)
  (λ_ ih Q env h=>ru m (λnext=>ih (XQ.then next Q)) env h)
  (λ_ _ _ _ _ _ _ _ _=>False)
  (λid Q env h=>Q (.exit id) env h)
  (λ_ _ _ _ _=>False)
  (λ_ Q env h=>Q .normal env h)
  (λ_ _ _ _=>False)
  (λQ env h=>Q .ret env h)
  (λ_ _ _ _=>False) c
def codeOk (nt:Nat):Code->Bool
 | .region _ ops d=>ops.toList.all (λo=>match o.dst with | some t=>Nat.blt t nt | none=>true)&&(!d||Region.lexB .any ops)
 | .seq a b=>codeOk nt a&&codeOk nt b
 | .cond _ a b=>codeOk nt a&&codeOk nt b
 | .block _ c=>codeOk nt c
 | .loop c=>codeOk nt c
 | _=>true
def wJ (T:qq) (env:Env) (h:List al):List ResultVar->(List PV->Prop)->Prop
 | [],K=>K []
 | .tmp t::r,K=>wJ T env h r (λvs=>K (env t::vs))
 | .cell t ty::r,K=>ze T ty (env t) h (λv=>wJ T env h r (λvs=>K (v::vs)))
def oneOf:List PV->PV
 | [v]=>v
 | vs=>.fM vs
inductive Ends (m:Nat) (R:PV->List al->Prop):List al->List PV->Prop
 | mk {h:List al} {vs:List PV} (hn:vs.all nA=true) (k:List Nat) (res:PV) (η:List al) (hk:pC (pc η k)=true) (hm:m<=k.length) (hz:Fz h η k (oneOf vs) res) (hh:lL h η k m 0 η k) (hR:R res η):Ends m R h vs
 | ex {h:List al} {vs:List PV} (h1:List al) (hx:LQ h h1) (hk:Ends m R h1 vs):Ends m R h vs
 | ab {h:List al} {vs:List PV} (id i j sub:Nat) (h1:(Nat->Prop)->List al) (ha:∀F,Bm h id i j sub F (h1 F)) (hk:∀F,Ends m R (h1 F) vs):Ends m R h vs
def aCk (T:qq) (rs:List ResultVar) (m:Nat) (R:PV->List al->Prop):XQ
 | .ret,env,h=>wJ T env h rs (Ends m R h)
 | .normal,env,h=>wJ T env h rs (Ends m R h)
 | _,_,_=>False
def vW (args:List PV):Env:=λt=>args.getD t .jQ
def PT (env env':Env) (op:Op):Prop:=∀x,x∈op.operands.toList->ev env x=ev env' x
def anb (h h':List al) (env:Env) (op:Op):Prop:=∀x,x∈op.operands.toList->∀id,id∈wu (ev env x)->er h id=er h' id
theorem mI {v:PV} {K:PV->Prop} (h:K v):force v K:=by cases v<;>exact h
theorem El {env env':Env} {sz:Nat} {fl:List (Nat×Nat×Bool)} {K:List PV->Prop}:∀(l:List (Nat×Operand)) (acc:List PV),(∀p,p∈l->ev env p.2=ev env' p.2)->qw env sz fl K l acc=qw env' sz fl K l acc
 | [],acc,_=>rfl
 | (k,x)::r,acc,hs=>by
  have e:=hs (k,x) aNf
  simp only at e
  unfold qw
  rw [e]
  split
  ·congr 1
   funext v
   rw [El r _ (λp hp=>hs p (aKz _ hp))]
  ·rfl
theorem Em {env env':Env} {sz:Nat} {K:List (List PV)->Prop}:∀(l:List (Nat×Operand)) (acc:List (List PV)),(∀p,p∈l->ev env p.2=ev env' p.2)->sc env sz K l acc=sc env' sz K l acc
 | [],acc,_=>rfl
 | (k,x)::r,acc,hs=>by
  have e:=hs (k,x) aNf
  simp only at e
  unfold sc
  rw [e]
  congr 1
  funext v
  rw [Em r _ (λp hp=>hs p (aKz _ hp))]
theorem PU {env env':Env} {o:Option Operand} (hs:∀x,o=some x->ev env x=ev env' x):o.map (ev env)=o.map (ev env'):=by
 cases o with
 | none=>rfl
 | some x=>simp [hs x rfl]
theorem zs {T:qq} {env env':Env} {h:List al} {K:PV->Prop} (op:Op) (hs:PT env env' op):dA T op env h K=dA T op env' h K:=by
 cases op with
 | move x=>simp only [dA,hs x aNk]
 | assign x=>simp only [dA,hs x aNk]
 | pick c a b=>simp only [dA,hs c aNk,hs a aNk,hs b aNk]
 | binOp bo t x y t'=>simp only [dA,hs x aNk,hs y aNk]
 | unOp u t x=>simp only [dA,hs x aNk]
 | load t a=>simp only [dA,hs a aNk]
 | convert s d x=>simp only [dA,hs x aNk]
 | nilCheck x=>simp only [dA,hs x aNk]
 | fieldAddr s x k=>simp only [dA,hs x aNk]
 | field s x k=>simp only [dA,hs x aNk]
 | build t parts=>
  have e:∀sz fl (K:List PV->Prop) z,qw env sz fl K parts.toList z=qw env' sz fl K parts.toList z:=λsz fl K z=>El _ _ (λp hp=>hs p.2 aNQ)
  simp only [dA,e]
 | indexAddr t x i=>simp only [dA,hs x aNk,hs i aNk]
 | index t x i=>simp only [dA,hs x aNk,hs i aNk]
 | extract x i=>simp only [dA,hs x aNk]
 | lookup t x i ok=>rfl
 | makeFunc fn first captured=>rfl
 | slice t x lo hi mx=>
  have e1:lo.map (ev env)=lo.map (ev env'):=PU (λy hy=>hs y aNP)
  have e2:hi.map (ev env)=hi.map (ev env'):=PU (λy hy=>hs y aNP)
  have e3:mx.map (ev env)=mx.map (ev env'):=PU (λy hy=>hs y aNP)
  simp only [dA,hs x aNk,e1,e2,e3]
 | call c=>
  obtain ⟨callee,args,ts⟩:=c
  cases callee with
  | builtin b=>
   cases b with
   | len=>
    simp only [dA]
    split
    ·rename_i x t hx ht
     have e:=hs x (by simp [Op.operands,Call.operands];have:x∈args.toList:=(by rw [hx];simp);simpa using this)
     rw [e]
    ·rfl
   | _=>rfl
  | _=>rfl
 | _=>rfl
theorem TY {T:qq} {env:Env} {h h':List al} {K:PV->Prop} (op:Op) (hs:anb h h' env op):dA T op env h K=dA T op env h' K:=by
 cases op with
 | load t a=>
  have q:=hs a aNk
  simp only [dA]
  revert q
  generalize ev env a=v
  intro q
  cases v with
  | aA id g i o=>simp only [ze,q id aNG]
  | _=>rfl
 | convert s d x=>
  have q:=hs x aNk
  simp only [dA]
  revert q
  generalize ev env x=v
  intro q
  have e:∀K,xU v h K=xU v h' K:=λK=>by
   cases v with
   | own id g i o=>simp only [xU,q id aNG]
   | _=>rfl
  generalize T.get s=ti
  generalize T.get d=td
  cases ti with
  | slice a b c z=>cases td with
   | str=>simp only [e]
   | _=>rfl
  | int k=>cases td<;>cases v<;>rfl
  | _=>rfl
 | nilCheck x=>
  have q:=hs x aNk
  simp only [dA]
  revert q
  generalize ev env x=v
  intro q
  cases v with
  | aA id g i o=>simp only [q id aNG]
  | _=>rfl
 | fieldAddr s x k=>
  have q:=hs x aNk
  simp only [dA]
  revert q
  generalize ev env x=v
  intro q
  cases v with
  | aA id g i o=>simp only [q id aNG]
  | _=>rfl
 | indexAddr t x i=>
  have q:=hs x aNk
  simp only [dA]
  revert q
  generalize ev env x=v
  generalize ev env i=u
  generalize T.get t=ti
  intro q
  cases ti with
  | slice e sz b z=>cases v with
   | own id g o l=>cases u with
    | int k n=>simp only [q id aNG]
    | _=>rfl
   | ij a b c=>cases u<;>rfl
   | _=>rfl
  | _=>rfl
 | lookup t x i ok=>rfl
 | slice t x lo hi mx=>
  have q:=hs x aNk
  simp only [dA]
  revert q
  generalize ev env x=v
  generalize T.get t=ti
  intro q
  cases ti with
  | slice e sz b z=>cases v with
   | own id g o l=>simp only [q id aNG]
   | _=>rfl
  | str=>cases v<;>rfl
  | _=>rfl
 | call c=>
  obtain ⟨callee,args,ts⟩:=c
  cases callee with
  | builtin b=>
   cases b with
   | len=>
    simp only [dA]
    split
    ·rename_i x t hx ht
     have q:=hs x (by simp [Op.operands,Call.operands];have:x∈args.toList:=(by rw [hx];simp);simpa using this)
     revert q
     generalize ev env x=v
     generalize T.get t=ti
     intro q
     cases ti with
     | slice e sz b z=>cases v with
      | own id g o l=>simp only [q id aNG]
      | _=>rfl
     | map k e z=>cases v with
      | qv id=>simp only [q id aNG]
      | _=>rfl
     | str=>cases v<;>rfl
     | _=>rfl
    ·rfl
   | _=>rfl
  | _=>rfl
 | _=>rfl
def One (F:(PV->Prop)->Prop):Prop:=∀K,F K->∃v,K v/\∀K',K' v->F K'
theorem tl (v:PV):One (force v):=λK h=>⟨v,dW h,λK' hk=>mI hk⟩
theorem bF (v:PV):One (λK=>K v):=λK h=>⟨v,h,λ_ hk=>hk⟩
theorem dR {A:Prop} {F:(PV->Prop)->Prop} (h:One F):One (λK=>A/\F K):=λK hk=>
 let ⟨v,h1,h2⟩:=h K hk.2
 ⟨v,h1,λK' Ad=>⟨hk.1,h2 K' Ad⟩⟩
theorem jN {b:Bool} {F:(PV->Prop)->Prop} (h:One F):One (λK=>fy b (F K)):=λK hk=>by
 cases b with
 | true=>exact h K hk
 | false=>exact hk.elim
theorem wv {α:Type} {A:α->Prop} {F:α->(PV->Prop)->Prop} (h:∀c,One (F c)):One (λK=>∃c,A c/\F c K):=λK ⟨c,ha,hk⟩=>
 let ⟨v,h1,h2⟩:=h c K hk
 ⟨v,h1,λK' Ad=>⟨c,ha,h2 K' Ad⟩⟩
theorem En {F:(PV->Prop)->Prop} (h:One F):One (λK=>F (Lz K)):=λK hk=>by
 obtain ⟨v,h1,h2⟩:=h _ hk
 cases v with
 | ij sz n f=>
  obtain ⟨n',f',e1,e2,hK⟩:=h1
  exact ⟨.ij sz n' f',hK,λK' Ad=>h2 _ ⟨n',f',e1,e2,Ad⟩⟩
 | own id g off n=>
  obtain ⟨o',n',e1,e2,hK⟩:=h1
  exact ⟨.own id g o' n',hK,λK' Ad=>h2 _ ⟨o',n',e1,e2,Ad⟩⟩
 | str s=>
  obtain ⟨s',e1,hK⟩:=h1
  exact ⟨.str s',hK,λK' Ad=>h2 _ ⟨s',e1,Ad⟩⟩
 | _=>exact ⟨_,h1,λK' Ad=>h2 _ Ad⟩
theorem AF {K:List PV->Prop}:∀(n:Nat) (l acc:List PV),n<=l.length->K (acc.reverse++l.take n)->G6 K n l acc
 | 0,l,acc,_,h=>by unfold G6;simpa using h
 | n+1,[],acc,hl,_=>by simp at hl
 | n+1,c::r,acc,hl,h=>mI (AF n r (c::acc) (by simp at hl;omega) aNH)
theorem Eo (T:qq) (t:Nat) (cells:List PV):One (Ae T t cells):=λK hk=>by
 unfold Ae at hk ⊢
 generalize T.get t=q1 at hk ⊢
 cases q1 with
 | struct sz fl z=>
  obtain ⟨h1,h2⟩:=qu _ _ _ hk
  exact ⟨_,h2,λK' Ad=>AF _ _ _ h1 Ad⟩
 | other=>exact hk.elim
 | _=>
  cases cells with
  | nil=>exact hk.elim
  | cons c r=>exact tl c K hk
theorem TZ (T:qq) (t:Nat) (a:PV) (h:List al):One (ze T t a h):=λK hk=>by
 cases a with
 | gD cells=>exact Eo T t cells K hk
 | aA id gen i off=>
  simp only [ze] at hk ⊢
  generalize er h id=q2 at hk ⊢
  cases q2 with
  | row g sz n e f=>exact dR (wv (λc=>Eo T t _)) K hk
  | dead=>exact hk.elim
 | _=>exact hk.elim
theorem acb (ti:TI) (bo:BinOp) (x y:PV):One (To ti bo x y):=λK hk=>by
 cases x with
 | int k a=>cases y with
  | int k' b=>
   cases bo with
   | shl=>exact dR (bF _) K hk
   | shr=>exact dR (bF _) K hk
   | quo=>exact jN (dR (bF _)) K hk
   | rem=>exact jN (dR (bF _)) K hk
   | _=>exact jN (bF _) K hk
  | _=>exact hk.elim
 | bool a=>cases y with
  | bool b=>cases ti with
   | bool=>cases bo with
    | eql=>exact bF _ K hk
    | neq=>exact bF _ K hk
    | _=>exact hk.elim
   | _=>exact hk.elim
  | _=>exact hk.elim
 | str a=>cases y with
  | str b=>cases bo with
   | add=>exact dR (wv λc=>bF _) K hk
   | eql=>exact bF _ K hk
   | neq=>exact bF _ K hk
   | lss=>exact bF _ K hk
   | leq=>exact bF _ K hk
   | gtr=>exact bF _ K hk
   | geq=>exact bF _ K hk
   | _=>exact hk.elim
  | _=>exact hk.elim
 | agg xs=>cases y with
  | agg ys=>cases ti with
   | struct sz fl z=>
    simp only [To] at hk ⊢
    generalize Dr z=fz at hk ⊢
    cases fz with
    | false=>exact hk.elim
    | true=>
     simp only [fy] at hk ⊢
     generalize eqC z xs ys=q at hk ⊢
     cases q with
     | none=>exact hk.elim
     | some b=>cases bo<;>first | exact hk.elim | exact wv (λc=>bF _) K hk
   | _=>exact hk.elim
  | _=>exact hk.elim
 | _=>exact hk.elim
theorem yj (x:PV) (lo hi:Option PV):One (Dx x lo hi):=λK hk=>by
 cases x with
 | ij sz n f=>
  cases lo with
  | none=>cases hi with
   | none=>exact bF _ K hk
   | some u=>cases u<;>first | exact hk.elim | exact dR (bF _) K hk
  | some l=>cases l with
   | int k l=>cases hi with
    | none=>exact dR (bF _) K hk
    | some u=>cases u<;>first | exact hk.elim | exact dR (bF _) K hk
   | _=>cases hi<;>exact hk.elim
 | own id gen off len=>
  cases lo with
  | none=>cases hi with
   | none=>exact bF _ K hk
   | some u=>cases u<;>first | exact hk.elim | exact dR (bF _) K hk
  | some l=>cases l with
   | int k l=>cases hi with
    | none=>exact dR (bF _) K hk
    | some u=>cases u<;>first | exact hk.elim | exact dR (bF _) K hk
   | _=>cases hi<;>exact hk.elim
 | str s=>
  cases lo with
  | none=>cases hi with
   | none=>exact bF _ K hk
   | some u=>cases u<;>first | exact hk.elim | exact dR (bF _) K hk
  | some l=>cases l with
   | int k l=>cases hi with
    | none=>exact dR (bF _) K hk
    | some u=>cases u<;>first | exact hk.elim | exact dR (bF _) K hk
   | _=>cases hi<;>exact hk.elim
 | _=>exact hk.elim
theorem PW (v:PV) (h:List al):One (λK=>xU v h (λs=>K (.str s))):=λK hk=>by
 cases v with
 | ck=>exact bF _ K hk
 | ij sz n f=>exact jN (wv λs=>dR (bF _)) K hk
 | own id gen off n=>
  simp only [xU] at hk ⊢
  generalize er h id=q3 at hk ⊢
  cases q3 with
  | row g sz n e f=>exact dR (jN (wv λs=>dR (bF _))) K hk
  | dead=>exact hk.elim
 | _=>exact hk.elim
theorem Ep (env:Env) (sz:Nat) (fl:List (Nat×Nat×Bool)):∀(l:List (Nat×Operand)) (acc:List PV),One (λK=>qw env sz fl (λcs=>K (.agg cs)) l acc)
 | [],acc=>bF _
 | (k,x)::r,acc=>λK hk=>by
  unfold qw at hk ⊢
  generalize fl[k]? =q4 at hk ⊢
  cases q4 with
  | none=>exact hk.elim
  | some p=>
   obtain ⟨o,size,b⟩:=p
   have h1:=dW hk
   obtain ⟨v,h2,h3⟩:=jN (Ep env sz fl r _) K h1
   exact ⟨v,h2,λK' Ad=>mI (h3 K' Ad)⟩
theorem Mq (T:qq) (op:Op) (env:Env) (h:List al):One (dA T op env h):=λK hk=>by
 cases op with
 | move x=>exact tl _ K hk
 | assign x=>exact tl _ K hk
 | pick c a b=>
  simp only [dA] at hk ⊢
  generalize ev env c=v at hk ⊢
  cases v with
  | bool t=>
   obtain ⟨h1,h2⟩:=kV hk
   cases t with
   | true=>exact ⟨_,dW (h1 rfl),λK' Ad=>.mk (λ_=>mI Ad) (λh=>by cases h)⟩
   | false=>exact ⟨_,dW (h2 rfl),λK' Ad=>.mk (λh=>by cases h) (λ_=>mI Ad)⟩
  | _=>exact hk.elim
 | binOp bo t x y t'=>exact acb _ _ _ _ K hk
 | unOp u t x=>
  simp only [dA] at hk ⊢
  generalize ev env x=v at hk ⊢
  cases u<;>cases v<;>first | exact hk.elim | exact bF _ K hk
 | load t a=>exact TZ _ _ _ _ K hk
 | convert s d x=>
  simp only [dA] at hk ⊢
  generalize ev env x=v at hk ⊢
  generalize T.get s=ti at hk ⊢
  generalize T.get d=td at hk ⊢
  cases ti with
  | int k=>cases td with
   | int k'=>cases v<;>first | exact hk.elim | exact bF _ K hk
   | _=>cases v<;>exact hk.elim
  | slice e sz b z=>cases td with
   | str=>
    simp only at hk ⊢
    generalize T.get e=q5 at hk ⊢
    cases q5 with
    | int k=>cases k<;>first | exact hk.elim | exact PW _ _ K hk
    | _=>exact hk.elim
   | _=>cases v<;>exact hk.elim
  | _=>cases td<;>cases v<;>exact hk.elim
 | nilCheck x=>
  simp only [dA] at hk ⊢
  generalize ev env x=v at hk ⊢
  cases v with
  | gD cs=>exact bF _ K hk
  | aA id gen i off=>
   simp only at hk ⊢
   generalize er h id=q6 at hk ⊢
   cases q6 with
   | row g sz n e f=>exact dR (bF _) K hk
   | dead=>exact hk.elim
  | _=>exact hk.elim
 | fieldAddr s x k=>
  simp only [dA] at hk ⊢
  generalize ev env x=v at hk ⊢
  generalize T.get s=q7 at hk ⊢
  cases q7 with
  | struct sz fl z=>
   simp only at hk ⊢
   generalize fl[k]? =q8 at hk ⊢
   cases q8 with
   | none=>exact hk.elim
   | some p=>
    obtain ⟨o,a,b⟩:=p
    cases v with
    | gD cs=>exact bF _ K hk
    | aA id gen i off=>
     simp only at hk ⊢
     generalize er h id=q9 at hk ⊢
     cases q9 with
     | row g sz n e f=>exact dR (bF _) K hk
     | dead=>exact hk.elim
    | _=>exact hk.elim
  | _=>exact hk.elim
 | field s x k=>
  simp only [dA] at hk ⊢
  generalize ev env x=v at hk ⊢
  generalize T.get s=q7 at hk ⊢
  cases q7 with
  | struct sz fl z=>
   simp only at hk ⊢
   generalize fl[k]? =q8 at hk ⊢
   cases q8 with
   | none=>exact hk.elim
   | some p=>
    obtain ⟨o,a,b⟩:=p
    cases v with
    | agg cs=>
     cases b with
     | true=>
      obtain ⟨h1,h2⟩:=qu _ _ _ hk
      exact ⟨_,h2,λK' Ad=>AF _ _ _ h1 Ad⟩
     | false=>
      simp only at hk ⊢
      generalize cs.drop o=q9 at hk ⊢
      cases q9 with
      | nil=>exact hk.elim
      | cons c r=>exact tl c K hk
    | _=>exact hk.elim
  | _=>exact hk.elim
 | build t parts=>
  simp only [dA] at hk ⊢
  generalize T.get t=q10 at hk ⊢
  cases q10 with
  | struct sz fl z=>exact Ep _ _ _ _ _ K hk
  | _=>exact hk.elim
 | indexAddr t x i=>
  simp only [dA] at hk ⊢
  generalize ev env x=v at hk ⊢
  generalize ev env i=u at hk ⊢
  generalize T.get t=q11 at hk ⊢
  cases q11 with
  | slice e sz b z=>cases v with
   | ij cJ n f=>cases u<;>first | exact hk.elim | exact jN (dR (wv λc=>bF _)) K hk
   | own id gen off len=>cases u with
    | int k n=>
     simp only at hk ⊢
     generalize er h id=q12 at hk ⊢
     cases q12 with
     | row g sz n e f=>exact dR (jN (dR (wv λj=>bF _))) K hk
     | dead=>exact hk.elim
    | _=>exact hk.elim
   | _=>cases u<;>exact hk.elim
  | _=>cases v<;>cases u<;>exact hk.elim
 | index t x i=>
  simp only [dA] at hk ⊢
  generalize ev env x=v at hk ⊢
  generalize ev env i=u at hk ⊢
  generalize T.get t=q13 at hk ⊢
  cases q13 with
  | str=>cases v with
   | str s=>cases u<;>first | exact hk.elim | exact dR (wv λc=>bF _) K hk
   | _=>cases u<;>exact hk.elim
  | _=>cases v<;>cases u<;>exact hk.elim
 | extract x i=>
  simp only [dA] at hk ⊢
  generalize ev env x=v at hk ⊢
  cases v with
  | fM vs=>
   simp only at hk ⊢
   generalize vs[i]? =q14 at hk ⊢
   cases q14 with
   | none=>exact hk.elim
   | some u=>exact tl _ K hk
  | _=>exact hk.elim
 | makeFunc fn first captured=>exact (show False from hk).elim
 | lookup t x i ok=>exact (show False from hk).elim
 | slice t x lo hi mx=>
  simp only [dA] at hk ⊢
  generalize ev env x=v at hk ⊢
  generalize T.get t=q15 at hk ⊢
  cases q15 with
  | slice e sz b z=>cases v with
   | ij cJ n f=>exact jN (dR (En (yj _ _ _))) K hk
   | own id gen off len=>
    simp only at hk ⊢
    generalize er h id=q16 at hk ⊢
    cases q16 with
    | row g sz n e f=>exact dR (jN (dR (En (yj _ _ _)))) K hk
    | dead=>exact hk.elim
   | _=>exact hk.elim
  | str=>cases v with
   | str s=>exact jN (En (yj _ _ _)) K hk
   | _=>exact hk.elim
  | _=>cases v<;>exact hk.elim
 | call c=>
  obtain ⟨callee,args,ts⟩:=c
  cases callee with
  | builtin b=>
   cases b with
   | len=>
    simp only [dA] at hk ⊢
    split at hk
    ·rename_i x t hx ht
     generalize ev env x=v at hk ⊢
     generalize T.get t=q17 at hk ⊢
     cases q17 with
     | slice e sz b z=>cases v with
      | ij a n f=>exact bF _ K hk
      | ck=>exact bF _ K hk
      | own id gen off n=>
       simp only at hk ⊢
       generalize er h id=q18 at hk ⊢
       cases q18 with
       | row g sz n e f=>exact dR (bF _) K hk
       | dead=>exact hk.elim
      | _=>exact hk.elim
     | str=>cases v<;>first | exact hk.elim | exact bF _ K hk
     | map kt et zv=>cases v with
      | qv id=>
       simp only at hk ⊢
       generalize er h id=q18 at hk ⊢
       cases q18 with
       | row g sz n e f=>exact bF _ K hk
       | dead=>exact hk.elim
      | _=>exact hk.elim
     | _=>cases v<;>exact hk.elim
    ·exact hk.elim
   | _=>exact hk.elim
  | _=>exact hk.elim
 | _=>exact hk.elim
theorem yk {v:PV} {K K':PV->Prop} (hk:∀v,K v->K' v) (h:force v K):force v K':=mI (hk _ (dW h))
theorem fK {b:Bool} {K K':Prop} (hk:K->K') (h:fy b K):fy b K':=by cases b;exact h;exact hk h
theorem Bh {env:Env} {sz:Nat} {K K':List (List PV)->Prop} (hk:∀l,K l->K' l):∀(l:List (Nat×Operand)) (acc:List (List PV)),sc env sz K l acc->sc env sz K' l acc
 | [],acc,h=>hk _ h
 | (k,x)::r,acc,h=>yk (λv h=>fK (Bh hk r _) h) h
theorem G7 {x:PV} {h:List al} {sz:Nat} {K K':Nat->(Nat->List PV)->Prop} (hk:∀n g,K n g->K' n g) (hp:Pd x h sz K):Pd x h sz K':=by
 cases x with
 | ck=>exact hk _ _ hp
 | ij cJ m g=>exact fK (hk _ _) hp
 | own id gen off m=>
  simp only [Pd] at hp ⊢
  generalize er h id=q at hp ⊢
  cases q with
  | row g cJ n e f=>exact ⟨hp.1,hp.2.1,fK (hk _ _) hp.2.2⟩
  | dead=>exact hp
 | str s=>exact fK (hk _ _) hp
 | _=>exact hp
theorem I8 {e sz bytes:Nat} {s x:PV} {h:List al} {K K':PV->List al->Prop} (hk:∀v h',K v h'->K' v h') (hp:wD e sz bytes s x h K):wD e sz bytes s x h K':=by
 cases s with
 | ck=>
  simp only [wD] at hp ⊢
  exact G7 (λm g ⟨h,n',f',e1,e2,h2⟩=>⟨h,n',f',e1,e2,hk _ _ h2⟩) hp
 | own id gen off len=>
  simp only [wD] at hp ⊢
  generalize er h id=q at hp ⊢
  cases q with
  | row g cJ n e' f=>exact ⟨hp.1,fK (G7 (λm g ⟨h,n',f',e1,e2,h2⟩=>⟨h,n',f',e1,e2,hk _ _ h2⟩)) hp.2⟩
  | dead=>exact hp
 | _=>exact hp
theorem PX {e sz bytes:Nat} {s x:PV} {h:List al} {K K':PV->List al->Prop} (hk:∀v h',K v h'->K' v h') (hp:Mf e sz bytes s x h K):Mf e sz bytes s x h K':=by
 unfold Mf at hp ⊢
 split at hp
 ·split at hp
  ·exact ⟨hp.1,fK (λq=>⟨q.1,hk _ _ q.2⟩) hp.2⟩
  ·exact hp
 ·split at hp
  ·split at hp
   ·exact ⟨hp.1,hp.2.1,fK (λq=>⟨q.1,hk _ _ q.2⟩) hp.2.2⟩
   ·exact hp
  ·exact hp
 ·exact aMG
theorem PJ.mono {e sz bytes:Nat} {s x:PV} {h:List al} {K K':PV->List al->Prop} (hk:∀v h',K v h'->K' v h') (hp:PJ e sz bytes s x h K):PJ e sz bytes s x h K':=by
 cases hp with
 | dO hp=>exact .dO (I8 hk hp)
 | move hp=>exact .move (PX hk hp)
theorem tm {T:qq} {op:Op} {env:Env} {h:List al} {K K':PV->Prop} (hk:∀v,K v->K' v) (hp:dA T op env h K):dA T op env h K':=
 let ⟨v,h1,h2⟩:=Mq T op env h K hp
 h2 K' (hk v h1)
theorem acd {P:Program} {T:qq} {env:Env} {h:List al} {K K':PV->List al->Prop} (hk:∀v h',K v h'->K' v h') (op:Op) (hp:pop P T op env h K):pop P T op env h K':=by
 cases op with
 | store t a x=>
  simp only [pop] at hp ⊢
  generalize ev env a=v at hp ⊢
  cases v with
  | aA id gen i off=>
   simp only at hp ⊢
   generalize er h id=q at hp ⊢
   cases q with
   | row g sz n e f=>exact ⟨hp.1,yk (λv h=>fK (λ⟨c,f',e1,e2,h2⟩=>⟨c,f',e1,e2,hk _ _ h2⟩) h) hp.2⟩
   | dead=>exact hp
  | _=>exact hp
 | box t x=>
  simp only [pop] at hp ⊢
  exact yk (λv h=>fK (hk _ _) h) hp
 | alloc t=>
  simp only [pop] at hp ⊢
  generalize Ds (T.get t)=q at hp ⊢
  cases q<;>first | exact hp | exact hk _ _ hp
 | makeSlice t l c=>
  simp only [pop] at hp ⊢
  generalize T.get t=q at hp ⊢
  generalize ev env l=u at hp ⊢
  generalize ev env c=v at hp ⊢
  cases q with
  | slice e sz b z=>cases u with
   | int k n=>cases v with
    | int k' m=>(obtain ⟨h,n',f',e1,e2,h2⟩:=hp;exact ⟨h,n',f',e1,e2,hk _ _ h2⟩)
    | _=>exact hp
   | _=>cases v<;>exact hp
  | _=>cases u<;>cases v<;>exact hp
 | buildSlice t len parts=>
  simp only [pop] at hp ⊢
  generalize T.get t=q at hp ⊢
  cases q with
  | slice e sz b z=>exact fK (Bh (λ_ ⟨f',e1,h2⟩=>⟨f',e1,hk _ _ h2⟩) _ _) hp
  | _=>exact hp
 | convert s d x=>
  simp only [pop] at hp ⊢
  split at hp
  ·split at hp
   ·exact let ⟨f',e1,h2⟩:=hp;⟨f',e1,hk _ _ h2⟩
   ·exact hp
  ·exact tm (λv=>hk v h) hp
 | binOp bo t x y ty=>
  simp only [pop] at hp ⊢
  split at hp
  ·exact ⟨λh0=>hk _ _ (hp.1 h0),hk _ _ hp.2⟩
  ·exact tm (λv=>hk v h) hp
 | call c=>
  obtain ⟨callee,args,ts⟩:=c
  cases callee with
  | value fo=>
   simp only [pop] at hp ⊢
   generalize ev env fo=v at hp ⊢
   cases v with
   | fn f=>exact fK (λ⟨R,h1,h2⟩=>⟨R,h1,λres h' hr=>hk _ _ (h2 res h' hr)⟩) hp
   | se f df=>exact fK (λ⟨R,h1,h2⟩=>⟨R,h1,λres h' hr=>hk _ _ (h2 res h' hr)⟩) hp
   | _=>exact hp
  | builtin b=>
   cases b with
   | append=>
    simp only [pop] at hp ⊢
    split at hp
    ·rename_i s x t tx ha ht
     generalize T.get t=q at hp ⊢
     generalize T.get tx=qx at hp ⊢
     cases q with
     | slice e sz b z=>cases qx<;>first | exact hp | exact PJ.mono hk hp
     | _=>cases qx<;>exact hp
    ·exact hp
   | len=>(simp only [pop] at hp ⊢;exact tm (λv=>hk v h) hp)
   | _=>exact hp
  | _=>exact hp
 | _=>(simp only [pop] at hp ⊢;exact tm (λv=>hk v h) hp)
theorem ace {env env':Env} {args:Array Operand} (hs:∀x,x∈args.toList->ev env x=ev env' x):args.toList.map (ev env)=args.toList.map (ev env'):=
 List.map_congr_left hs
theorem afx {env env':Env} {l:List Operand} (hs:∀x,x∈l->ev env x=ev env' x):l.all (λx=>nA (ev env x))=l.all (λx=>nA (ev env' x)):=by
 induction l with
 | nil=>rfl
 | cons a r ih=>simp only [aKf,hs a aNf,ih (λx hx=>hs x (aKz _ hx))]
theorem afy {P:Program} {T:qq} {env env':Env} {h:List al} {K:PV->List al->Prop} (op:Op) (hs:PT env env' op):pop P T op env h K=pop P T op env' h K:=by
 cases op with
 | store t a x=>simp only [pop,hs a aNk,hs x aNk]
 | box t x=>simp only [pop,hs x aNk]
 | alloc t=>rfl
 | makeSlice t l c=>simp only [pop,hs l aNk,hs c aNk]
 | buildSlice t len parts=>
  have e:∀sz (K:List (List PV)->Prop) z,sc env sz K parts.toList z=sc env' sz K parts.toList z:=λsz K z=>Em _ _ (λp hp=>hs p.2 aNQ)
  simp only [pop,e]
 | convert s d x=>simp only [pop,dA,hs x aNk]
 | binOp bo t x y ty=>simp only [pop,dA,hs x aNk,hs y aNk]
 | call c=>
  obtain ⟨callee,args,ts⟩:=c
  cases callee with
  | value fo=>
   have e0:=hs fo (by simp [Op.operands,Call.operands])
   have e1:∀x,x∈args.toList->ev env x=ev env' x:=λx hx=>hs x (by simp [Op.operands,Call.operands];right;simpa using hx)
   simp only [pop,e0,ace e1,afx e1]
  | builtin b=>
   have e1:∀x,x∈args.toList->ev env x=ev env' x:=λx hx=>hs x (by simp [Op.operands,Call.operands];simpa using hx)
   cases b with
   | append=>
    simp only [pop]
    split
    ·rename_i s x t tx ha ht
     rw [e1 s (by rw [ha];simp),e1 x (by rw [ha];simp)]
    ·rfl
   | len=>(simp only [pop];exact zs _ hs)
   | _=>rfl
  | _=>rfl
 | _=>(simp only [pop];exact zs _ hs)
section
variable {P:Program} {T:qq}
def fs (P:Program) (T:qq) (all:List Oper) (st:Bool) (o:Oper) (G:PV->List al->Prop) (env:Env) (h:List al):Prop:=
 match o.guard with
 | none=>FO P T st o.op env h G
 | some (j,want)=>match (all[j]?).bind (·.dst) with
  | some t=>match env t with
   | .bool b=>match b==want with
    | true=>FO P T st o.op env h G
    | false=>G (.fM []) h
   | .fM []=>G (.fM []) h
   | _=>False
  | none=>False
theorem B6 {env:Env} {t:Nat} {v:PV} (h:env t=v):qZ env t v=env:=by
 funext j
 unfold qZ
 cases hb:Nat.beq j t with
 | true=>rw [No hb,<-h];rfl
 | false=>rfl
theorem G8 {st:Bool} {op:Op} {env:Env} {h:List al} {G G':PV->List al->Prop} (hk:∀v h',G v h'->G' v h') (hp:FO P T st op env h G):FO P T st op env h G':=by
 cases st with
 | true=>exact tm (λv=>hk v h) hp
 | false=>exact acd hk _ hp
theorem jl {all:List Oper} {st:Bool} {o:Oper} {env:Env} {h:List al} {G G':PV->List al->Prop} (hk:∀v h',G v h'->G' v h') (hp:fs P T all st o G env h):fs P T all st o G' env h:=by
 unfold fs at hp ⊢
 generalize o.guard=g at hp ⊢
 cases g with
 | none=>exact G8 hk hp
 | some q=>
  obtain ⟨j,want⟩:=q
  simp only at hp ⊢
  generalize (all[j]?).bind (·.dst)=d at hp ⊢
  cases d with
  | none=>exact hp
  | some t=>
   simp only at hp ⊢
   generalize env t=v at hp ⊢
   cases v with
   | bool b=>
    simp only at hp ⊢
    generalize (b==want)=c at hp ⊢
    cases c with
    | true=>exact G8 hk hp
    | false=>exact hk _ _ hp
   | fM l=>cases l with
    | nil=>exact hk _ _ hp
    | cons a r=>exact hp
   | _=>exact hp
theorem rH {all:List Oper} {st:Bool} {o:Oper} {F:Env->PV->List al->Prop} {env:Env} {h:List al} (hp:xn P T all st o F env h):fs P T all st o (F env) env h:=by
 unfold xn at hp
 unfold fs
 generalize o.guard=g at hp ⊢
 cases g with
 | none=>exact hp
 | some q=>
  obtain ⟨j,want⟩:=q
  simp only at hp ⊢
  generalize (all[j]?).bind (·.dst)=d at hp ⊢
  cases d with
  | none=>exact hp
  | some t=>
   simp only at hp ⊢
   generalize hv:env t=v at hp ⊢
   cases v with
   | bool b=>
    simp only at hp ⊢
    obtain ⟨h1,h2⟩:=kV hp
    cases b with
    | true=>
     have h1:=h1 rfl
     rw [B6 hv] at h1
     cases want<;>exact h1
    | false=>
     have h2:=h2 rfl
     rw [B6 hv] at h2
     cases want<;>exact h2
   | fM l=>cases l with
    | nil=>exact hp
    | cons a r=>exact hp
   | _=>exact hp
theorem zt {env env':Env} {o:Oper} {ops:Array Oper} (hl:∀t,t∈o.looksAt ops->env t=env' t):PT env env' o.op:=λx hx=>by
 cases x with
 | tmp t=>exact hl t (by unfold Oper.looksAt;rw [aKj];left;rw [List.mem_filterMap];exact ⟨_,hx,rfl⟩)
 | _=>rfl
theorem ui {env env':Env} {o:Oper} {ops:Array Oper} (hl:∀t,t∈o.looksAt ops->env t=env' t) {j:Nat} {w:Bool} (hg:o.guard=some (j,w)) {t:Nat} (ht:(ops.toList[j]?).bind (·.dst)=some t):env t=env' t:=
 hl t (by
  unfold Oper.looksAt
  rw [aKj,hg]
  right
  have:ops.toList[j]? =ops[j]? :=by simp
  rw [this] at ht
  show t∈((ops[j]?).bind (·.dst)).toList
  rw [ht]
  simp)
theorem acf {ops:Array Oper} {st:Bool} {o:Oper} {G:PV->List al->Prop} {env env':Env} {h:List al} (hl:∀t,t∈o.looksAt ops->env t=env' t) (hp:fs P T ops.toList st o G env h):fs P T ops.toList st o G env' h:=by
 have hr:FO P T st o.op env h G=FO P T st o.op env' h G:=by
  cases st with
  | true=>exact zs _ (zt hl)
  | false=>exact afy _ (zt hl)
 unfold fs at hp ⊢
 cases hg:o.guard with
 | none=>rw [hg] at hp;simp only at hp ⊢;rw [<-hr];exact hp
 | some q=>
  obtain ⟨j,want⟩:=q
  rw [hg] at hp
  simp only at hp ⊢
  cases hd:(ops.toList[j]?).bind (·.dst) with
  | none=>rw [hd] at hp;exact hp
  | some t=>
   rw [hd] at hp
   simp only at hp ⊢
   rw [<-ui hl hg hd,<-hr]
   exact hp
theorem zu {α β:Type} {f g:α->List β}:∀(l:List α),(∀x,x∈l->f x=g x)->l.flatMap f=l.flatMap g
 | [],_=>rfl
 | a::r,h=>by rw [List.flatMap_cons,List.flatMap_cons,h a aNf,zu r (λx hx=>h x (aKz _ hx))]
theorem Er (env:Env) (op:Op):(∃x,op=.move x)\/nX env op=op.operands.toList.flatMap (λx=>wu (ev env x)):=by
 cases op<;>first | exact .inl ⟨_,rfl⟩ | exact .inr rfl
theorem PY {T:qq} {env:Env} {h h':List al} {K:PV->Prop} {op:Op} (hi:∀id,id∈nX env op->er h id=er h' id):dA T op env h K=dA T op env h' K:=by
 rcases Er env op with ⟨x,rfl⟩ | e
 ·rfl
 ·exact TY op (λx hx id hid=>hi id (by rw [e,List.mem_flatMap];exact ⟨x,hx,hid⟩))
theorem Es {env env':Env} {op:Op} (hs:∀x,x∈op.operands.toList->ev env x=ev env' x):nX env' op=nX env op:=by
 rcases Er env op with ⟨x,rfl⟩ | e
 ·rfl
 ·rcases Er env' op with ⟨x,rfl⟩ | e'
  ·rfl
  ·rw [e,e']
   exact zu _ (λx hx=>by rw [hs x hx])
theorem Ja {ops:Array Oper} {o:Oper} {G:PV->List al->Prop} {env:Env} {h:List al} (hp:fs P T ops.toList true o G env h):
  ∃v,G v h/\∀(env':Env) (h':List al) (G':PV->List al->Prop),(∀t,t∈o.looksAt ops->env t=env' t)->(∀id,id∈nX env o.op->er h id=er h' id)->G' v h'->fs P T ops.toList true o G' env' h':=by
 have run:dA T o.op env h (λv=>G v h)->∃v,G v h/\∀(env':Env) (h':List al) (G':PV->List al->Prop),(∀t,t∈o.looksAt ops->env t=env' t)->(∀id,id∈nX env o.op->er h id=er h' id)->G' v h'->dA T o.op env' h' (λv=>G' v h'):=λhs=>by
  obtain ⟨v,h1,h2⟩:=Mq T o.op env h _ hs
  refine ⟨v,h1,λenv' h' G' hl hi hg=>?_⟩
  rw [<-zs o.op (zt hl),<-PY (op:=o.op) hi]
  exact h2 _ hg
 unfold fs at hp
 cases hg:o.guard with
 | none=>
  rw [hg] at hp
  obtain ⟨v,h1,h2⟩:=run hp
  refine ⟨v,h1,λenv' h' G' hl hi hk=>?_⟩
  unfold fs
  rw [hg]
  exact h2 env' h' G' hl hi hk
 | some q=>
  obtain ⟨j,want⟩:=q
  rw [hg] at hp
  simp only at hp
  cases hd:(ops.toList[j]?).bind (·.dst) with
  | none=>rw [hd] at hp;exact hp.elim
  | some t=>
   rw [hd] at hp
   simp only at hp
   cases hv:env t with
   | bool b=>
    rw [hv] at hp
    simp only at hp
    cases hc:(b==want) with
    | true=>
     rw [hc] at hp
     obtain ⟨v,h1,h2⟩:=run hp
     refine ⟨v,h1,λenv' h' G' hl hi hk=>?_⟩
     unfold fs
     rw [hg];simp only;rw [hd];simp only;rw [<-ui hl hg hd,hv];simp only;rw [hc]
     exact h2 env' h' G' hl hi hk
    | false=>
     rw [hc] at hp
     refine ⟨_,hp,λenv' h' G' hl hi hk=>?_⟩
     unfold fs
     rw [hg];simp only;rw [hd];simp only;rw [<-ui hl hg hd,hv];simp only;rw [hc]
     exact hk
   | fM l=>
    rw [hv] at hp
    cases l with
    | nil=>
     refine ⟨_,hp,λenv' h' G' hl hi hk=>?_⟩
     unfold fs
     rw [hg];simp only;rw [hd];simp only;rw [<-ui hl hg hd,hv]
     exact hk
    | cons a r=>exact hp.elim
   | _=>rw [hv] at hp;exact hp.elim
def PM (P:Program) (T:qq) (all:List Oper) (t:List (Nat×List Nat)) (K:Env->List al->Prop):List (Nat×Bool)->List (Nat×List Nat)->Env->List al->Prop
 | [],_,env,h=>K env h
 | (i,st)::r,dw,env,h=>∃o,all[i]? =some o/\fs P T all st o (λv h'=>match st with
   | true=>PM P T all t K r ((i,nX env o.op)::dw) (fx env o.dst v) h'
   | false=>(∀j ids,(j,ids)∈dw->pM (gw t i) j=false->∀id,id∈ids->er h id=er h' id)/\PM P T all t K r dw (fx env o.dst v) h') env h
theorem zw {h h':List al} {K:Prop}:∀(ids:List Nat),I7 h h' K ids->(∀id,id∈ids->er h id=er h' id)/\K
 | [],hk=>⟨λid hid=>by simp at hid,hk⟩
 | a::r,hk=>by
  obtain ⟨h1,h2⟩:=zw r hk.2
  refine ⟨λid hid=>?_,h2⟩
  simp only [aKo] at hid
  rcases hid with rfl | hid
  ·exact hk.1
  ·exact h1 id hid
theorem pY {anc:List Nat} {h h':List al} {K:Prop}:∀(dw:List (Nat×List Nat)),rG anc h h' K dw->(∀j ids,(j,ids)∈dw->pM anc j=false->∀id,id∈ids->er h id=er h' id)/\K
 | [],hk=>⟨λj ids hj=>by simp at hj,hk⟩
 | (a,l)::r,hk=>by
  unfold rG at hk
  cases ha:pM anc a with
  | true=>
   rw [ha] at hk
   obtain ⟨h1,h2⟩:=pY r hk
   refine ⟨λj ids hj hn=>?_,h2⟩
   simp only [aKo] at hj
   rcases hj with hj | hj
   ·injection hj with e1 e2;subst e1;rw [ha] at hn;cases hn
   ·exact h1 j ids hj hn
  | false=>
   rw [ha] at hk
   obtain ⟨q1,q2⟩:=zw l hk
   obtain ⟨h1,h2⟩:=pY r q2
   refine ⟨λj ids hj hn=>?_,h2⟩
   simp only [aKo] at hj
   rcases hj with hj | hj
   ·injection hj with e1 e2;subst e2;exact q1
   ·exact h1 j ids hj hn
theorem th {all:List Oper} {t:List (Nat×List Nat)} {K:Env->List al->Prop}:∀(l:List (Nat×Bool)) (dw:List (Nat×List Nat)) (env:Env) (h:List al),fw P T all t K l dw env h->PM P T all t K l dw env h
 | [],_,_,_,hp=>hp
 | (i,true)::r,dw,env,h,hp=>by
  have hp:(match all[i]? with
   | some o=>xn P T all true o (λenv' v h'=>fw P T all t K r ((i,nX env' o.op)::dw) (fx env' o.dst v) h') env h
   | none=>False):=hp
  cases ho:all[i]? with
  | none=>rw [ho] at hp;exact hp.elim
  | some o=>
   rw [ho] at hp
   exact ⟨o,ho,jl (λv h' hk=>th r _ _ _ hk) (rH hp)⟩
 | (i,false)::r,dw,env,h,hp=>by
  have hp:(match all[i]? with
   | some o=>xn P T all false o (λenv' v h'=>rG (gw t i) h h' (fw P T all t K r dw (fx env' o.dst v) h') dw) env h
   | none=>False):=hp
  cases ho:all[i]? with
  | none=>rw [ho] at hp;exact hp.elim
  | some o=>
   rw [ho] at hp
   refine ⟨o,ho,jl (λv h' hk=>?_) (rH hp)⟩
   obtain ⟨h1,h2⟩:=pY _ hk
   exact ⟨h1,th r _ _ _ h2⟩
theorem zx {all:List Oper} {t:List (Nat×List Nat)} {K:Env->List al->Prop}:∀(l:List (Nat×Bool)) (dw uj:List (Nat×List Nat)) (env:Env) (h:List al),(∀x,x∈uj->x∈dw)->PM P T all t K l dw env h->PM P T all t K l uj env h
 | [],_,_,_,_,_,hp=>hp
 | (i,st)::r,dw,uj,env,h,hs,hp=>by
  obtain ⟨o,ho,hp⟩:=hp
  refine ⟨o,ho,jl (λv h' hk=>?_) hp⟩
  cases st with
  | true=>exact zx r _ _ _ _ (λx hx=>by simp only [aKo] at hx ⊢;exact hx.imp id (hs x)) hk
  | false=>exact ⟨λj ids hj=>hk.1 j ids (hs _ hj),zx r _ _ _ _ hs hk.2⟩
theorem G9 {env:Env} {d e:Option Nat} {u v:PV} (oY:∀x,d=some x->e≠some x):fx (fx env d u) e v=fx (fx env e v) d u:=by
 cases d with
 | none=>rfl
 | some x=>
  cases e with
  | none=>rfl
  | some y=>
   have hxy:x≠y:=λhe=>oY x rfl (by rw [he])
   funext j
   simp only [fx,qZ]
   cases h1:Nat.beq j y with
   | true=>
    have:=No h1
    subst this
    cases h2:Nat.beq j x with
    | true=>exact absurd (No h2).symm hxy
    | false=>rfl
   | false=>cases h2:Nat.beq j x<;>rfl
theorem wK {env:Env} {d:Option Nat} {v:PV} {l:List Nat} (hn:∀x,d=some x->x∉l):∀t,t∈l->env t=fx env d v t:=λt ht=>by
 cases d with
 | none=>rfl
 | some x=>
  have:t≠x:=λhe=>hn x rfl (he▸ht)
  simp only [fx,qZ]
  cases h2:Nat.beq t x with
  | true=>exact absurd (No h2) this
  | false=>rfl
theorem Mm {ops:Array Oper} {t:List (Nat×List Nat)} {K:Env->List al->Prop} {i:Nat} {st:Bool} {oi:Oper} (IV:ops.toList[i]? =some oi):
  ∀(l1 l2:List (Nat×Bool)) (dw:List (Nat×List Nat)) (env:Env) (h:List al),(∀p,p∈l1->p.2=true/\pM (gw t i) p.1=false/\wH ops p.1 i=true)->PM P T ops.toList t K (l1++(i,st)::l2) dw env h->
   fs P T ops.toList st oi (λv h'=>(st=true->h'=h)/\(st=false->∀j ids,(j,ids)∈dw->pM (gw t i) j=false->∀id,id∈ids->er h id=er h' id)/\PM P T ops.toList t K (l1++l2) dw (fx env oi.dst v) h') env h
 | [],l2,dw,env,h,_,hp=>by
  obtain ⟨o,ho,hp⟩:=hp
  rw [IV] at ho
  injection ho with ho
  subst ho
  cases st with
  | true=>
   obtain ⟨v,h1,h2⟩:=Ja hp
   exact h2 env h _ (λ_ _=>rfl) (λ_ _=>rfl) ⟨λ_=>rfl,λhc=>Bool.noConfusion hc,zx _ _ _ _ _ (λx hx=>aKz _ hx) h1⟩
  | false=>exact jl (λv h' hk=>⟨λhc=>Bool.noConfusion hc,λ_=>hk.1,hk.2⟩) hp
 | (a,sa)::l1,l2,dw,env,h,tR,hp=>by
  obtain ⟨h1,h2,h3⟩:=tR (a,sa) aNf
  simp only at h1 h2 h3
  subst h1
  obtain ⟨o,ho,hp⟩:=hp
  have hap:Oper.apart ops o oi=true:=by
   unfold wH at h3
   have e1:ops[a]? =some o:=by simpa using ho
   have e2:ops[i]? =some oi:=by simpa using IV
   rw [e1,e2] at h3
   exact h3
  obtain ⟨a1,a2,a3⟩:=Oper.apart_spec hap
  obtain ⟨u,k1,k2⟩:=Ja hp
  have ih:=Mm IV l1 l2 _ _ h (λp hp=>tR p (aKz _ hp)) k1
  have ih':=acf (env':=env) (λx hx=>(wK (λd hd=>a1 d hd) x hx).symm) ih
  refine jl (λv h' hk=>⟨hk.1,λhc j ids hj=>hk.2.1 hc j ids (aKz _ hj),?_⟩) ih'
  have ane:∀id,id∈nX env o.op->er h id=er h' id:=λid hid=>by
   cases st with
   | true=>rw [hk.1 rfl]
   | false=>exact hk.2.1 rfl a _ aNf h2 id hid
  have Mr:∀x,x∈o.looksAt ops->env x=fx env oi.dst v x:=wK (λd hd=>a3 d hd)
  refine ⟨o,ho,k2 _ h' _ Mr ane ?_⟩
  have anf:nX (fx env oi.dst v) o.op=nX env o.op:=by
   exact Es (zt Mr)
  simp only
  rw [anf,G9 (λx hx=>(λhe=>a2 x he hx):∀x,oi.dst=some x->o.dst≠some x)]
  exact hk.2.2
def mM (P:Program) (T:qq) (all:List Oper) (t:List (Nat×List Nat)) (E:List (Nat×List Nat)->Env->List al->Prop):List (Nat×Bool)->List (Nat×List Nat)->Env->List al->Prop
 | [],dw,env,h=>E dw env h
 | (i,st)::r,dw,env,h=>∃o,all[i]? =some o/\fs P T all st o (λv h'=>match st with
   | true=>mM P T all t E r ((i,nX env o.op)::dw) (fx env o.dst v) h'
   | false=>(∀j ids,(j,ids)∈dw->pM (gw t i) j=false->∀id,id∈ids->er h id=er h' id)/\mM P T all t E r dw (fx env o.dst v) h') env h
def uF (E:List (Nat×List Nat)->Env->List al->Prop):Prop:=∀(dw uj:List (Nat×List Nat)) (env:Env) (h:List al),(∀x,x∈uj->x∈dw)->E dw env h->E uj env h
theorem wL {all:List Oper} {t:List (Nat×List Nat)} {E:List (Nat×List Nat)->Env->List al->Prop} (hE:uF E):∀(l:List (Nat×Bool)) (dw uj:List (Nat×List Nat)) (env:Env) (h:List al),(∀x,x∈uj->x∈dw)->mM P T all t E l dw env h->mM P T all t E l uj env h
 | [],dw,uj,_,_,hs,hp=>hE dw uj _ _ hs hp
 | (i,st)::r,dw,uj,env,h,hs,hp=>by
  obtain ⟨o,ho,hp⟩:=hp
  refine ⟨o,ho,jl (λv h' hk=>?_) hp⟩
  cases st with
  | true=>exact wL hE r _ _ _ _ (λx hx=>by simp only [aKo] at hx ⊢;exact hx.imp id (hs x)) hk
  | false=>exact ⟨λj ids hj=>hk.1 j ids (hs _ hj),wL hE r _ _ _ _ hs hk.2⟩
theorem wI {ops:Array Oper} {t:List (Nat×List Nat)} {E:List (Nat×List Nat)->Env->List al->Prop} (hE:uF E) {i:Nat} {st:Bool} {oi:Oper} (IV:ops.toList[i]? =some oi):
  ∀(l1 l2:List (Nat×Bool)) (dw:List (Nat×List Nat)) (env:Env) (h:List al),(∀p,p∈l1->p.2=true/\pM (gw t i) p.1=false/\wH ops p.1 i=true)->mM P T ops.toList t E (l1++(i,st)::l2) dw env h->
   fs P T ops.toList st oi (λv h'=>(st=true->h'=h)/\(st=false->∀j ids,(j,ids)∈dw->pM (gw t i) j=false->∀id,id∈ids->er h id=er h' id)/\mM P T ops.toList t E (l1++l2) dw (fx env oi.dst v) h') env h
 | [],l2,dw,env,h,_,hp=>by
  obtain ⟨o,ho,hp⟩:=hp
  rw [IV] at ho
  injection ho with ho
  subst ho
  cases st with
  | true=>
   obtain ⟨v,h1,h2⟩:=Ja hp
   exact h2 env h _ (λ_ _=>rfl) (λ_ _=>rfl) ⟨λ_=>rfl,λhc=>Bool.noConfusion hc,wL hE _ _ _ _ _ (λx hx=>aKz _ hx) h1⟩
  | false=>exact jl (λv h' hk=>⟨λhc=>Bool.noConfusion hc,λ_=>hk.1,hk.2⟩) hp
 | (a,sa)::l1,l2,dw,env,h,tR,hp=>by
  obtain ⟨h1,h2,h3⟩:=tR (a,sa) aNf
  simp only at h1 h2 h3
  subst h1
  obtain ⟨o,ho,hp⟩:=hp
  have hap:Oper.apart ops o oi=true:=by
   unfold wH at h3
   have e1:ops[a]? =some o:=by simpa using ho
   have e2:ops[i]? =some oi:=by simpa using IV
   rw [e1,e2] at h3
   exact h3
  obtain ⟨a1,a2,a3⟩:=Oper.apart_spec hap
  obtain ⟨u,k1,k2⟩:=Ja hp
  have ih:=wI hE IV l1 l2 _ _ h (λp hp=>tR p (aKz _ hp)) k1
  have ih':=acf (env':=env) (λx hx=>(wK (λd hd=>a1 d hd) x hx).symm) ih
  refine jl (λv h' hk=>⟨hk.1,λhc j ids hj=>hk.2.1 hc j ids (aKz _ hj),?_⟩) ih'
  have ane:∀id,id∈nX env o.op->er h id=er h' id:=λid hid=>by
   cases st with
   | true=>rw [hk.1 rfl]
   | false=>exact hk.2.1 rfl a _ aNf h2 id hid
  have Mr:∀x,x∈o.looksAt ops->env x=fx env oi.dst v x:=wK (λd hd=>a3 d hd)
  refine ⟨o,ho,k2 _ h' _ Mr ane ?_⟩
  have anf:nX (fx env oi.dst v) o.op=nX env o.op:=by
   exact Es (zt Mr)
  simp only
  rw [anf,G9 (λx hx=>(λhe=>a2 x he hx):∀x,oi.dst=some x->o.dst≠some x)]
  exact hk.2.2
theorem wj {all:List Oper} {t:List (Nat×List Nat)} {E:List (Nat×List Nat)->Env->List al->Prop} {l':List (Nat×Bool)}:∀(l:List (Nat×Bool)) (dw:List (Nat×List Nat)) (env:Env) (h:List al),mM P T all t (λdw env h=>mM P T all t E l' dw env h) l dw env h->mM P T all t E (l++l') dw env h
 | [],_,_,_,hp=>hp
 | (i,st)::r,dw,env,h,hp=>by
  obtain ⟨o,ho,hp⟩:=hp
  refine ⟨o,ho,jl (λv h' hk=>?_) hp⟩
  cases st with
  | true=>exact wj r _ _ _ hk
  | false=>exact ⟨hk.1,wj r _ _ _ hk.2⟩
theorem zq {all:List Oper} {t:List (Nat×List Nat)} {E E':List (Nat×List Nat)->Env->List al->Prop} (hi:∀dw env h,E dw env h->E' dw env h):∀(l:List (Nat×Bool)) (dw:List (Nat×List Nat)) (env:Env) (h:List al),mM P T all t E l dw env h->mM P T all t E' l dw env h
 | [],_,_,_,hp=>hi _ _ _ hp
 | (i,st)::r,dw,env,h,hp=>by
  obtain ⟨o,ho,hp⟩:=hp
  refine ⟨o,ho,jl (λv h' hk=>?_) hp⟩
  cases st with
  | true=>exact zq hi r _ _ _ hk
  | false=>exact ⟨hk.1,zq hi r _ _ _ hk.2⟩
theorem wi {all:List Oper} {t:List (Nat×List Nat)} {K:Env->List al->Prop} {l':List (Nat×Bool)}:∀(l:List (Nat×Bool)) (dw:List (Nat×List Nat)) (env:Env) (h:List al),mM P T all t (λdw env h=>PM P T all t K l' dw env h) l dw env h->PM P T all t K (l++l') dw env h
 | [],_,_,_,hp=>hp
 | (i,st)::r,dw,env,h,hp=>by
  obtain ⟨o,ho,hp⟩:=hp
  refine ⟨o,ho,jl (λv h' hk=>?_) hp⟩
  cases st with
  | true=>exact wi r _ _ _ hk
  | false=>exact ⟨hk.1,wi r _ _ _ hk.2⟩
theorem rF {all:List Oper} {t:List (Nat×List Nat)} {E E':List (Nat×List Nat)->Env->List al->Prop} (hi:∀dw env h,E dw env h->E' dw env h):∀(l:List (Nat×Bool)) (dw:List (Nat×List Nat)) (env:Env) (h:List al),fwE P T all t E l dw env h->mM P T all t E' l dw env h
 | [],_,_,_,hp=>hi _ _ _ hp
 | (i,true)::r,dw,env,h,hp=>by
  have hp:(match all[i]? with
   | some o=>xn P T all true o (λenv' v h'=>fwE P T all t E r ((i,nX env' o.op)::dw) (fx env' o.dst v) h') env h
   | none=>False):=hp
  cases ho:all[i]? with
  | none=>rw [ho] at hp;exact hp.elim
  | some o=>
   rw [ho] at hp
   exact ⟨o,ho,jl (λv h' hk=>rF hi r _ _ _ hk) (rH hp)⟩
 | (i,false)::r,dw,env,h,hp=>by
  have hp:(match all[i]? with
   | some o=>xn P T all false o (λenv' v h'=>rG (gw t i) h h' (fwE P T all t E r dw (fx env' o.dst v) h') dw) env h
   | none=>False):=hp
  cases ho:all[i]? with
  | none=>rw [ho] at hp;exact hp.elim
  | some o=>
   rw [ho] at hp
   refine ⟨o,ho,jl (λv h' hk=>?_) (rH hp)⟩
   obtain ⟨h1,h2⟩:=pY _ hk
   exact ⟨h1,rF hi r _ _ _ h2⟩
theorem AD {all:List Oper} {t:List (Nat×List Nat)} {K:Env->List al->Prop} (l:List (Nat×Bool)):uF (λdw env h=>PM P T all t K l dw env h):=λdw uj env h hs hp=>zx l dw uj env h hs hp
theorem qK {all:List Oper} {t:List (Nat×List Nat)} {E:List (Nat×List Nat)->Env->List al->Prop} (hE:uF E) (l:List (Nat×Bool)):uF (λdw env h=>mM P T all t E l dw env h):=λdw uj env h hs hp=>wL hE l dw uj env h hs hp
theorem GY {E E':List (Nat×List Nat)->Env->List al->Prop} (h1:uF E) (h2:uF E'):uF (λdw env h=>E dw env h/\E' dw env h):=λdw uj env h hs hp=>⟨h1 dw uj env h hs hp.1,h2 dw uj env h hs hp.2⟩
end
theorem ba.mono {S S':Nat->Prop} {w w':World} (hw:∀b,S b->w'.heap[b]? =w.heap[b]?) (hS:∀b,S b->S' b) {pv:PV} {v:Value} (h:ba S w pv v):ba S' w' pv v:=by
 induction h with
 | int k n=>exact .int k n
 | bool b=>exact .bool b
 | str s=>exact .str s
 | ck=>exact .ck
 | iF=>exact .iF
 | fn f=>exact .fn f
 | uS sz f a c=>exact .uS sz f a c
 | ij sz n f b off c vf h1 h2 h3 h4 _ ih=>
  exact .ij sz n f b off c vf (hS b h1) h2 h3 (λi j pv hi hj=>(World.cell?_of_block (w:=w) (hw b h1)).trans (h4 i j pv hi hj)) ih
 | gD cs b off vf h1 h4 _ ih=>
  exact .gD cs b off vf (hS b h1) (λj pv hj=>(World.cell?_of_block (w:=w) (hw b h1)).trans (h4 j pv hj)) ih
theorem kX.of_same {w w':World} {b k:Nat} (h:w'.heap[b]? =w.heap[b]?) (hc:kX w b k):kX w' b k:=by
 obtain ⟨cur,e,z,h1,h2⟩:=hc
 exact ⟨cur,e,z,h.trans h1,h2⟩
theorem kX.least {w:World} {b k:Nat} (h:kX w b k):kX w b 0:=by
 obtain ⟨cur,e,z,h1,h2⟩:=h
 exact ⟨cur,e,z,h1,aLl _⟩
theorem my.mono {S S':Nat->Prop} {w w':World} (hw:∀b,S b->w'.heap[b]? =w.heap[b]?) (hS:∀b,S b->S' b) {pv:PV} {v:Value} (h:my S w pv v):
  (∀sz n e f F,pv=.dI sz n e f F->∀b,F b->w'.heap[b]? =w.heap[b]?)->my S' w' pv v:=by
 induction h with
 | nil sz e f F hF=>exact λ_=>.nil sz e f F hF
 | Mi sz n e f F b off c a cur vf hF hb hlen hc ha ic bB pt vJ FN Mj ih=>
  intro hk
  have hk:=hk _ _ _ _ _ rfl
  exact .Mi sz n e f F b off c a cur vf hF ((hk b hF).trans hb) hlen hc ha ic bB (λi j pv hi hj=>(pt i j pv hi hj).imp_left (λq=>q.mono hw hS))
   (λi j cJ n' e' f' F' hi hj=>ih i j cJ n' e' f' F' hi hj (λ_ _ _ _ _ he b' sd=>by
    injection he with _ _ _ _ he
    subst he
    exact hk b' (FN i j cJ n' e' f' _ hi hj b' sd).1)) FN Mj
inductive OG (G:PV->Prop):PV->Prop
 | mk (sz n:Nat) (e:TypeId) (f:Nat->List PV) (F:Nat->Prop) (h1:∀(i j:Nat) (pv:PV),i<n->(f i)[j]? =some pv->eh pv=false->G pv)
   (h2:∀(i j cJ n':Nat) (e':TypeId) (f':Nat->List PV) (F':Nat->Prop),i<n->(f i)[j]? =some (.dI cJ n' e' f' F')->OG G (.dI cJ n' e' f' F')):OG G (.dI sz n e f F)
theorem my.og {S S':Nat->Prop} {w:World} {G:PV->Prop} (hG:∀pv v,G pv->ba S w pv v->ba S' w pv v) {pv:PV} {v:Value} (h:my S w pv v):OG G pv->my S' w pv v:=by
 induction h with
 | nil sz e f F hF=>exact λ_=>.nil sz e f F hF
 | Mi sz n e f F b off c a cur vf hF hb hlen hc ha ic bB pt vJ FN Mj ih=>
  intro hg
  cases hg with
  | mk _ _ _ _ _ h1 h2=>
   exact .Mi sz n e f F b off c a cur vf hF hb hlen hc ha ic bB (λi j pv hi hj=>by
    cases hx:eh pv with
    | false=>exact (pt i j pv hi hj).imp_left (λq=>hG pv _ (h1 i j pv hi hj hx) q)
    | true=>exact .inr (by cases pv<;>first | exact ⟨_,_,_,_,_,rfl⟩ | cases hx)) (λi j cJ n' e' f' F' hi hj=>ih i j cJ n' e' f' F' hi hj (h2 i j cJ n' e' f' F' hi hj)) FN Mj
theorem my.all {S:Nat->Prop} {w:World} {pv:PV} {v:Value} (h:my S w pv v):OG (λ_=>True) pv:=by
 induction h with
 | nil sz e f F hF=>exact .mk sz 0 e f F (λ_ _ _ _ _ _=>trivial) (λi j _ _ _ _ _ hi=>absurd hi (aKR _))
 | Mi sz n e f F b off c a cur vf hF hb hlen hc ha ic bB pt vJ FN Mj ih=>exact .mk sz n e f F (λ_ _ _ _ _ _=>trivial) ih
theorem my.one {S:Nat->Prop} {w:World} {pv:PV} {v:Value} (h:my S w pv v):v.oneCell'=true:=by cases h<;>rfl
section
variable {μ μ':Mu} {h h':List al} {S S':Nat->Prop} {w w':World}
theorem cQ.lB {pv:PV} {v:Value} (hp:ba S w pv v):cQ μ h S w pv v:=by
 cases hp<;>first | exact .int _ _ | exact .bool _ | exact .str _ | exact .ck | exact .iF | exact .fn _ | exact .uS _ _ _ _ | (rename_i h1 h2 h3 h4 h5 _;first | exact .ij _ _ _ _ _ _ _ ‹_› ‹_› ‹_› ‹_› ‹_›) | exact .gD _ _ _ _ ‹_› ‹_› ‹_›
theorem cQ.fr (hf:Fr μ h S w μ' h' S' w') (hm:tQ μ h S w) {pv:PV} {v:Value} (hc:cQ μ h S w pv v):cQ μ' h' S' w' pv v:=by
 have hS:∀b,S b->w'.heap[b]? =w.heap[b]? :=λb hb=>hf.blocks b (hm.slt b hb) (λho=>hm.apart b ho hb)
 have wo:∀(id gen i off:Nat) (v:Value),cN μ h w id gen i off v->cN μ' h' w' id gen i off v:=λid gen i off v hc=>by
  unfold cN at hc ⊢
  obtain ⟨RO,hc⟩:=hc
  refine ⟨RO,?_⟩
  cases ho:h[id]? with
  | none=>rw [ho] at hc;exact hc.elim
  | some o=>
   cases o with
   | dead=>rw [hf.dead id ho];trivial
   | row g sz n e f=>
    rw [ho] at hc
    have hg:=hf.DE id g sz n e f ho
    cases ho':h'[id]? with
    | none=>rw [ho'] at hg;exact hg
    | some o'=>
     cases o' with
     | dead=>trivial
     | row g' cJ n' e' f'=>
      rw [ho'] at hg
      obtain ⟨hle,jI⟩:=hg
      obtain ⟨ang,hc⟩:=hc
      refine ⟨aKW ang hle,λhe=>?_⟩
      have heq:g'=g:=by omega
      obtain ⟨hμ,rfl,rfl,rfl⟩:=jI heq
      obtain ⟨h1,h2⟩:=hc aNc
      refine ⟨h1,?_⟩
      rw [hμ]
      obtain ⟨b,base,q1,q2,q3⟩:=h2
      exact ⟨b,base,q1,⟨hf.df b _ (.inl ⟨id,g,_,_,_,_,base,ho,q1⟩) q2.1,q2.2⟩,q3⟩
 cases pv with
 | own id gen off len=>
  have hc:bG μ h w id gen off len v:=hc
  show bG μ' h' w' id gen off len v
  unfold bG at hc ⊢
  obtain ⟨RO,hc⟩:=hc
  refine ⟨RO,?_⟩
  cases ho:h[id]? with
  | none=>rw [ho] at hc;exact hc.elim
  | some o=>
   cases o with
   | dead=>rw [hf.dead id ho];trivial
   | row g sz n e f=>
    rw [ho] at hc
    have hg:=hf.DE id g sz n e f ho
    cases ho':h'[id]? with
    | none=>rw [ho'] at hg;exact hg
    | some o'=>
     cases o' with
     | dead=>trivial
     | row g' cJ n' e' f'=>
      rw [ho'] at hg
      obtain ⟨hle,jI⟩:=hg
      obtain ⟨ang,hc⟩:=hc
      refine ⟨aKW ang hle,λhe=>?_⟩
      have heq:g'=g:=by omega
      obtain ⟨hμ,rfl,rfl,rfl⟩:=jI heq
      obtain ⟨h1,h2⟩:=hc aNc
      refine ⟨h1,?_⟩
      rw [hμ]
      cases ju:μ id with
      | none=>rw [ju] at h2;exact h2
      | some p=>
       obtain ⟨b,base⟩:=p
       rw [ju] at h2
       obtain ⟨a,cap,h3,h4,h5,h6⟩:=h2
       exact ⟨a,cap,h3,h4,h5,hf.df b _ (.inl ⟨id,g,_,_,_,_,base,ho,ju⟩) h6⟩
 | aA id gen i off=>exact wo _ _ _ _ _ hc
 | se f df=>exact uU.mono (show qz μ h w f df v from hc) (λid g u hu=>wo _ _ _ _ _ hu)
 | qv id=>
  have hc:iv μ h w id v:=hc
  show iv μ' h' w' id v
  unfold iv at hc ⊢
  obtain ⟨RO,hc⟩:=hc
  refine ⟨RO,?_⟩
  cases ho:h[id]? with
  | none=>rw [ho] at hc;exact hc.elim
  | some o=>
   cases o with
   | dead=>rw [hf.dead id ho];trivial
   | row g sz n e f=>
    rw [ho] at hc
    obtain ⟨b,base,q1,q2,q3⟩:=hc
    obtain ⟨r1,r2⟩:=hf.maps id g sz n e f b base ho q1 q2
    rcases r2 with r2 | ⟨⟨g',cJ,n',e',f',r2⟩,r3⟩
    ·rw [r2];trivial
    ·rw [r2];exact ⟨b,base,r3,r1,q3⟩
 | jQ=>exact hc
 | dI sz n e f F=>exact hc
 | agg cs=>exact hc.elim
 | fM cs=>exact hc.elim
 | int k n=>exact ba.mono hS hf.sub hc
 | bool b=>exact ba.mono hS hf.sub hc
 | str s=>exact ba.mono hS hf.sub hc
 | ck=>exact ba.mono hS hf.sub hc
 | iF=>exact ba.mono hS hf.sub hc
 | ij sz n f=>exact ba.mono hS hf.sub hc
 | gD cs=>exact ba.mono hS hf.sub hc
 | fn f=>exact ba.mono hS hf.sub hc
theorem kz.fr (hf:Fr μ h S w μ' h' S' w') (hm:tQ μ h S w) {pv:PV} {v:Value} (hc:kz μ h S w pv v):kz μ' h' S' w' pv v:=by
 cases pv with
 | agg cs=>
  obtain ⟨vs,h1,h2,h3⟩:=hc
  exact ⟨vs,h1,h2,λj pv hj=>let ⟨u,hu,hr⟩:=h3 j pv hj;⟨u,hu,hr.fr hf hm⟩⟩
 | int k n=>exact cQ.fr (pv:=.int k n) hf hm hc
 | bool b=>exact cQ.fr (pv:=.bool b) hf hm hc
 | str s=>exact cQ.fr (pv:=.str s) hf hm hc
 | ck =>exact cQ.fr (pv:=.ck) hf hm hc
 | iF=>exact cQ.fr (pv:=.iF) hf hm hc
 | ij sz n f=>exact cQ.fr (pv:=.ij sz n f) hf hm hc
 | gD cs=>exact cQ.fr (pv:=.gD cs) hf hm hc
 | own id gen off len=>exact cQ.fr (pv:=.own id gen off len) hf hm hc
 | aA id gen i off=>exact cQ.fr (pv:=.aA id gen i off) hf hm hc
 | qv id=>exact cQ.fr (pv:=.qv id) hf hm hc
 | se f df=>exact cQ.fr (pv:=.se f df) hf hm hc
 | fn f=>exact cQ.fr (pv:=.fn f) hf hm hc
 | jQ=>trivial
 | dI sz n e f F=>exact cQ.fr (pv:=.dI sz n e f F) hf hm hc
 | fM cs=>exact (show False from hc).elim
theorem cj.fr (hf:Fr μ h S w μ' h' S' w') (hm:tQ μ h S w) {pv:PV} {v:Value} (hc:cj μ h S w pv v):cj μ' h' S' w' pv v:=by
 cases pv with
 | fM cs=>
  obtain ⟨vs,h1,h2,h3⟩:=hc
  exact ⟨vs,h1,h2,λj pv hj=>let ⟨u,hu,hr⟩:=h3 j pv hj;⟨u,hu,hr.fr hf hm⟩⟩
 | int k n=>exact kz.fr (pv:=.int k n) hf hm hc
 | bool b=>exact kz.fr (pv:=.bool b) hf hm hc
 | str s=>exact kz.fr (pv:=.str s) hf hm hc
 | ck =>exact kz.fr (pv:=.ck) hf hm hc
 | iF=>exact kz.fr (pv:=.iF) hf hm hc
 | ij sz n f=>exact kz.fr (pv:=.ij sz n f) hf hm hc
 | gD cs=>exact kz.fr (pv:=.gD cs) hf hm hc
 | own id gen off len=>exact kz.fr (pv:=.own id gen off len) hf hm hc
 | aA id gen i off=>exact kz.fr (pv:=.aA id gen i off) hf hm hc
 | qv id=>exact kz.fr (pv:=.qv id) hf hm hc
 | se f df=>exact kz.fr (pv:=.se f df) hf hm hc
 | fn f=>exact kz.fr (pv:=.fn f) hf hm hc
 | jQ=>trivial
 | dI sz n e f F=>exact kz.fr (pv:=.dI sz n e f F) hf hm hc
 | agg cs=>exact kz.fr (pv:=.agg cs) hf hm hc
theorem ba.one {pv:PV} {v:Value} (hp:ba S w pv v):v.oneCell'=true:=by cases hp<;>rfl
theorem cQ.one {pv:PV} {v:Value} (hc:cQ μ h S w pv v):v.oneCell'=true:=by
 cases pv with
 | own id gen off len=>
  obtain ⟨⟨a,l,c,rfl⟩,_⟩:=(show bG μ h w id gen off len v from hc)
  rfl
 | aA id gen i off=>
  obtain ⟨⟨a,rfl⟩,_⟩:=(show cN μ h w id gen i off v from hc)
  rfl
 | qv id=>
  obtain ⟨⟨a,rfl⟩,_⟩:=(show iv μ h w id v from hc)
  rfl
 | se f df=>
  obtain ⟨vs,rfl,_⟩:=(show qz μ h w f df v from hc)
  rfl
 | jQ=>exact hc
 | dI sz n e f F=>exact hc
 | agg cs=>exact (show False from hc).elim
 | fM cs=>exact (show False from hc).elim
 | int k n=>exact ba.one (show ba S w _ v from hc)
 | bool b=>exact ba.one (show ba S w _ v from hc)
 | str s=>exact ba.one (show ba S w _ v from hc)
 | ck=>exact ba.one (show ba S w _ v from hc)
 | iF=>exact ba.one (show ba S w _ v from hc)
 | ij sz n f=>exact ba.one (show ba S w _ v from hc)
 | gD cs=>exact ba.one (show ba S w _ v from hc)
 | fn f=>exact ba.one (show ba S w _ v from hc)
theorem pz.c {pv:PV} {v:Value} (hc:pz μ h S w pv v):cQ μ h S w pv v:=by
 cases pv with
 | dI sz n e f F=>exact my.one (show my S w (.dI sz n e f F) v from hc)
 | _=>exact hc
theorem cQ.k {pv:PV} {v:Value} (hc:cQ μ h S w pv v) (ho:eh pv=false):pz μ h S w pv v:=by
 cases pv with
 | dI sz n e f F=>cases ho
 | _=>exact hc
theorem pz.fr (hf:Fr μ h S w μ' h' S' w') (hm:tQ μ h S w) {pv:PV} {v:Value} (hF:∀sz n e f F,pv=.dI sz n e f F->∀b,F b->w'.heap[b]? =w.heap[b]?) (hc:pz μ h S w pv v):pz μ' h' S' w' pv v:=by
 cases pv with
 | dI sz n e f F=>exact my.mono (λb hb=>hf.blocks b (hm.slt b hb) (λho=>hm.apart b ho hb)) hf.sub (show my S w (.dI sz n e f F) v from hc) hF
 | _=>exact (cQ.fr hf hm (pz.c hc)).k rfl
theorem zr {id i j b:Nat}:¬eA [] id i j b:=λ⟨_,_,_,_,_,_,_,_,_,_,h1,_⟩=>by simp at h1
theorem lE {μ:Mu} {b:Nat}:¬dx μ [] b:=λh=>by
 rcases h with ⟨id,g,sz,n,e,f,base,h1,_⟩ | ⟨_,_,_,h1⟩
 ·simp at h1
 ·exact zr h1
theorem Fr.refl:Fr μ h S w μ h S w where
 len:=As _
 blocks _ _ _:=rfl
 sub _ hb:=hb
 new _ hb:=.inl hb
 own _ hb:=.inl hb
 size:=As _
 os:=rfl
 tape:=rfl
 output:=rfl
 DE id g sz n e f hh:=by rw [hh];exact ⟨As _,λ_=>⟨rfl,rfl,rfl,rfl⟩⟩
 dead _ hh:=hh
 df _ _ _ hc:=hc
 maps id g sz n e f b base ho hm hb:=⟨hb,.inr ⟨⟨g,sz,n,e,f,ho⟩,hm⟩⟩
 xj b id i j hh hb:=hb
theorem Fr.trans {μ'':Mu} {h'':List al} {S'':Nat->Prop} {w'':World} (a:Fr μ h S w μ' h' S' w') (b:Fr μ' h' S' w' μ'' h'' S'' w''):Fr μ h S w μ'' h'' S'' w'' where
 len:=aKW a.len b.len
 blocks k hk hn:=(b.blocks k (aKm hk a.size) (λho=>by
  rcases a.own k ho with h1 | h1
  ·exact hn h1
  ·omega)).trans (a.blocks k hk hn)
 sub k hk:=b.sub k (a.sub k hk)
 new k hk:=by
  rcases b.new k hk with h1 | h1 | h1
  ·exact a.new k h1
  ·rcases a.own k h1 with h2 | h2
   ·exact .inr (.inl h2)
   ·exact .inr (.inr h2)
  ·exact .inr (.inr (aKW a.size h1))
 own k hk:=by
  rcases b.own k hk with h1 | h1
  ·exact a.own k h1
  ·exact .inr (aKW a.size h1)
 size:=aKW a.size b.size
 os:=b.os.trans a.os
 tape:=b.tape.trans a.tape
 output:=b.output.trans a.output
 DE id g sz n e f hh:=by
  have h1:=a.DE id g sz n e f hh
  cases ho':h'[id]? with
  | none=>rw [ho'] at h1;exact h1.elim
  | some o'=>
   cases o' with
   | dead=>rw [b.dead id ho'];trivial
   | row g' cJ n' e' f'=>
    rw [ho'] at h1
    have h2:=b.DE id g' cJ n' e' f' ho'
    cases ho'':h''[id]? with
    | none=>rw [ho''] at h2;exact h2
    | some o''=>
     cases o'' with
     | dead=>trivial
     | row g'' sz'' n'' e'' f''=>
      rw [ho''] at h2
      refine ⟨aKW h1.1 h2.1,λhe=>?_⟩
      have e1:g'=g:=by have:=h1.1;have:=h2.1;omega
      have e2:g''=g':=by omega
      obtain ⟨x1,x2,x3,x4⟩:=h1.2 e1
      obtain ⟨y1,y2,y3,y4⟩:=h2.2 e2
      exact ⟨y1.trans x1,y2.trans x2,y3.trans x3,y4.trans x4⟩
 dead id hh:=b.dead id (a.dead id hh)
 df k c ho hc:=by
  have h1:=a.df k c ho hc
  by_cases h2:dx μ' h' k
  ·exact b.df k c h2 h1
  ·refine kX.of_same (b.blocks k ?_ h2) h1
   obtain ⟨cur,e,z,h3,_⟩:=h1
   exact (abF.1 h3).1
 maps id g sz n e f k base ho hm hb:=by
  obtain ⟨h1,h2⟩:=a.maps id g sz n e f k base ho hm hb
  rcases h2 with h2 | ⟨⟨g',cJ,n',e',f',h2⟩,h3⟩
  ·refine ⟨?_,.inl (b.dead id h2)⟩
   by_cases h4:dx μ' h' k
   ·rcases h4 with ⟨j,g',cJ,n',e',f',rn,j1,j2⟩ | ⟨j,x,y,h4⟩
    ·exact (b.maps j g' cJ n' e' f' k rn j1 j2 h1).1
    ·exact b.xj k j x y h4 h1
   ·obtain ⟨es,c,h5⟩:=h1
    exact ⟨es,c,(b.blocks k (abF.1 h5).1 h4).trans h5⟩
  ·exact b.maps id g' cJ n' e' f' k base h2 h3 h1
 xj k id i j hh hb:=by
  have h1:=a.xj k id i j hh hb
  by_cases h4:dx μ' h' k
  ·rcases h4 with ⟨j,g',cJ,n',e',f',rn,j1,j2⟩ | ⟨j,x,y,h4⟩
   ·exact (b.maps j g' cJ n' e' f' k rn j1 j2 h1).1
   ·exact b.xj k j x y h4 h1
  ·obtain ⟨es,c,h5⟩:=h1
   exact ⟨es,c,(b.blocks k (abF.1 h5).1 h4).trans h5⟩
structure c7 (w w':World):Prop where
 blocks:∀b,b<w.heap.size->w'.heap[b]? =w.heap[b]?
 size:w.heap.size<=w'.heap.size
 os:w'.os=w.os
 tape:w'.tape=w.tape
 output:w'.output=w.output
theorem c7.refl (w:World):c7 w w:=⟨λ_ _=>rfl,As _,rfl,rfl,rfl⟩
theorem c7.trans {a b c:World} (x:c7 a b) (y:c7 b c):c7 a c:=
 ⟨λk hk=>(y.blocks k (aKm hk x.size)).trans (x.blocks k hk),aKW x.size y.size,y.os.trans x.os,y.tape.trans x.tape,y.output.trans x.output⟩
theorem c7.cell {w w':World} (h:c7 w w') {a:Addr} {u:Value} (hc:w.cell? a=some u):w'.cell? a=some u:=
 (World.cell?_of_block (w:=w) (h.blocks a.block (World.block_lt_of_cell? _ _ hc))).trans hc
theorem c7.drew (w:World):c7 w w.drew:=⟨λ_ _=>rfl,As _,rfl,rfl,rfl⟩
theorem c7.drewN (w:World) (n:Nat):c7 w (w.drewN n):=⟨λ_ _=>rfl,As _,rfl,rfl,rfl⟩
theorem kX.lt {b k:Nat} (h:kX w b k):b<w.heap.size:=by
 obtain ⟨cur,e,z,h1,_⟩:=h
 exact (abF.1 h1).1
theorem Fr.sf (ha:c7 w w'):Fr μ h S w μ h S w' where
 len:=As _
 blocks b hb _:=ha.blocks b hb
 sub _ hb:=hb
 new _ hb:=.inl hb
 own _ hb:=.inl hb
 size:=ha.size
 os:=ha.os
 tape:=ha.tape
 output:=ha.output
 DE id g sz n e f hh:=by rw [hh];exact ⟨As _,λ_=>⟨rfl,rfl,rfl,rfl⟩⟩
 dead _ hh:=hh
 df b k _ hc:=kX.of_same (ha.blocks b hc.lt) hc
 maps id g sz n e f b base ho hm hb:=⟨let ⟨es,c,h5⟩:=hb;⟨es,c,(ha.blocks b (abF.1 h5).1).trans h5⟩,.inr ⟨⟨g,sz,n,e,f,ho⟩,hm⟩⟩
 xj b id i j _ hb:=let ⟨es,c,h5⟩:=hb;⟨es,c,(ha.blocks b (abF.1 h5).1).trans h5⟩
theorem tQ.DD (hm:tQ μ h S w) (hF:Fr μ h S w μ' h' S' w'):P3 S' w':=
 hm.known.dO (λb hb=>hF.blocks b (hm.slt b hb) (λho=>hm.apart b ho hb)) hF.sub
theorem tQ.agree (ha:c7 w w') (hm:tQ μ h S w):tQ μ h S w':=
 ⟨hm.apart,λb hb=>aKm (hm.lt b hb) ha.size,λb hb=>aKm (hm.slt b hb) ha.size,hm.inj,hm.known.dO (λb hb=>ha.blocks b (hm.slt b hb)) (λ_ hb=>hb),hm.hv,hm.hh⟩
theorem de.agree (ha:c7 w w') (hm:tQ μ h S w) (hh:de μ h S w):de μ h S w':=by
 intro id g sz n e f ho
 obtain ⟨h1,h2⟩:=hh id g sz n e f ho
 refine ⟨h1,?_⟩
 cases ju:μ id with
 | none=>rw [ju] at h2;exact h2
 | some p=>
  obtain ⟨b,base⟩:=p
  rw [ju] at h2
  obtain ⟨o,h3,h4⟩:=h2
  have bc:b<w.heap.size:=(abF.1 h3).1
  exact ⟨o,(ha.blocks b bc).trans h3,h4.mono (λi j pv v hi hj hr=>hr.fr (Fr.sf ha) hm (λcJ n' e' f' F' he b' sd=>ha.blocks b' (hm.lt b' (.inr ⟨id,i,j,g,sz,n,e,f,cJ,n',e',f',F',ho,hi,by rw [hj,he],sd⟩))))⟩
end
end Go.Am
