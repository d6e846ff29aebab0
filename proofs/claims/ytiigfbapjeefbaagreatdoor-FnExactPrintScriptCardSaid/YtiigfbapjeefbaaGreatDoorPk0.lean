/- Texts of the proof, joined and shortened. -/
import Derived.WalkKit
import Derived.Deep.Draws
import Derived.Deep.Quiet
namespace Go.Am
open Go Go.RowKit
set_option linter.unusedVariables false
abbrev an := @List.length_cons
abbrev mg := @List.length_nil
abbrev An := @List.length_append
abbrev As := @Bool.and_eq_true
abbrev At := @List.getElem?_eq_some_iff
abbrev No := @List.append_assoc
abbrev Of := @Nat.eq_of_beq_eq_true
abbrev adr := @List.map_cons
abbrev amb := @List.getElem?_eq_getElem
abbrev are := @List.nil_append
abbrev asz := @List.cons_append
abbrev asA := @Nat.le_refl
abbrev asB := @List.map_nil
abbrev asC := @Array.getElem?_eq_some_iff
abbrev asD := @List.drop_eq_nil_of_le
abbrev asE := @List.drop_eq_getElem_cons
abbrev asF := @List.mem_append
abbrev asG := @Bool.false_eq_true
abbrev asH := @List.all_eq_true
abbrev asI := @List.mem_cons
abbrev asJ := @List.drop_zero
abbrev asK := @List.getElem_mem
abbrev asL := @List.all_cons
abbrev asM := @List.getD_eq_getElem?_getD
abbrev asN := @Nat.zero_add
abbrev asO := @List.mem_cons_of_mem
abbrev asP := @List.mem_of_getElem?
abbrev asQ := @Nat.mul_le_mul_right
abbrev asR := @List.mem_map
abbrev asS := @List.getElem?_map
abbrev asT := @Array.getElem?_eq_getElem
abbrev asU := @List.getElem?_append_right
abbrev asV := @Array.getElem?_toList
abbrev asW := @Nat.le_of_ble_eq_true
abbrev asX := @Nat.add_mul
abbrev asY := @Nat.lt_of_lt_of_le
abbrev asZ := @List.flatMap_cons
abbrev ata := @List.getElem?_append_left
abbrev atb := @Bool.or_false
abbrev atc := @List.contains_cons
abbrev atd := @List.contains_nil
abbrev ate := @Nat.lt_succ_self
abbrev atf := @Bool.false_or
abbrev atg := @Bool.or_eq_true
abbrev ath := @List.map_append
abbrev ati := @Bool.and_true
abbrev atj := @List.getElem?_eq_none
abbrev atk := @List.all_nil
abbrev atl := @Bool.and_false
abbrev atm := @Bool.not_eq_true'
abbrev atn := @List.getElem?_set_ne
abbrev ato := @Option.some.inj
abbrev atp := @Array.getElem?_append_left
abbrev atq := @Nat.not_lt_zero
abbrev atr := @Bool.or_true
abbrev ats := @Array.length_toList
abbrev att := @Nat.le_trans
abbrev atu := @Nat.lt_or_ge
abbrev atv := @List.append_nil
abbrev atw := @Nat.eq_zero_or_pos
abbrev atx := @Bool.true_or
abbrev aty := @Nat.add_zero
abbrev atz := @Nat.sub_self
abbrev atA := @List.getElem?_drop
abbrev atB := @Array.getElem?_modify
abbrev atC := @Bool.false_and
abbrev atD := @List.mem_iff_getElem
abbrev atE := @Array.eq_empty_of_size_eq_zero
abbrev atF := @Nat.beq_refl
abbrev atG := @List.mem_append_left
abbrev atH := @Ne.symm
abbrev atI := @BEq.rfl
abbrev atJ := @List.getElem?_set_self
abbrev atK := @Array.getElem?_setIfInBounds_ne
abbrev atL := @List.length_eq_zero_iff
abbrev atM := @Bool.true_and
abbrev atN := @Bool.eq_iff_iff
abbrev atO := @List.mem_range
abbrev atP := @List.eq_nil_or_concat
abbrev atQ := @List.concat_eq_append
abbrev atS := @Nat.zero_le
abbrev atT := @List.length_map
abbrev atU := @List.length_set
abbrev atV := @Nat.zero_lt_one
abbrev atW := @List.getElem?_take
abbrev atX := @Array.getElem?_map
abbrev atY := @Array.empty_append
abbrev atZ := @List.getElem_append_left
abbrev aua := @Nat.add_sub_cancel_left
abbrev aub := @List.getElem?_set
abbrev auc := @List.getElem_cons_zero
abbrev aud := @List.map_toArray
abbrev aue := @List.getElem?_toArray
abbrev auf := @List.getLast?_concat
abbrev aug := @List.dropLast_concat
abbrev auh := @List.append_of_mem
abbrev aui := @Nat.add_assoc
abbrev auj := @Array.size_append
abbrev auk := @List.reverse_nil
abbrev aul := @Option.getD_some
abbrev aum := @Option.bind_some
abbrev aun := @List.not_mem_nil
abbrev auo := @Nat.max_eq_right
theorem aup {p : Prop} (h : p := by
  obtain rfl := si h
  replace h := gH
  exact eB h) : p := h
theorem auq {p : Prop} (h : p := by
  obtain rfl := si h
  replace h := cG
  exact eB h) : p := h
theorem aur {p : Prop} (h : p := by
  obtain rfl := si h
  replace h := eV
  exact eB h) : p := h
theorem aus {p : Prop} (h : p := by
  obtain rfl := si h
  replace h := uB
  exact eB h) : p := h
theorem aut {p : Prop} (h : p := by
  obtain rfl := si h
  replace h := k8
  exact eS h) : p := h
theorem auu {p : Prop} (h : p := by
  obtain rfl := si h
  replace h := jj
  exact eS h) : p := h
theorem auv {p : Prop} (h : p := by
  obtain rfl := si h
  replace h := ve
  exact eB h) : p := h
theorem auw {p : Prop} (h : p := by
  obtain rfl := si h
  replace h := mz
  exact eB h) : p := h
theorem auy {p : Prop} (h : p := by
  obtain rfl := si h
  replace h := zR
  exact eB h) : p := h
theorem auz {p : Prop} (h : p := by
  rintro _ _ ⟨y1, rfl, rfl, rfl⟩
  replace h := vM
  exact .d (eI h)) : p := h
theorem auA {p : Prop} (h : p := by
  obtain rfl := si h
  replace h := uG
  exact eB h) : p := h
theorem auB {p : Prop} (h : p := by
  obtain rfl := si h
  replace h := yM
  exact eB h) : p := h
theorem auC {p : Prop} (h : p := by
  obtain ⟨dst, op, ty, pos, after, guard⟩ := o
  subst hg
  exact hp) : p := h
theorem auD {p : Prop} (h : p := by
  rintro _ _ ⟨rfl, rfl, rfl⟩
  replace h := gH
  exact .d (eB h)) : p := h
theorem auE {p : Prop} (h : p := by
  replace h := nZ
  exact auv) : p := h
theorem auF {p : Prop} (h : p := by
  intro F0 F1 lQ lR a0 y5 y6 o h
  exact .mk F0 lQ F1 lR a0 y5 y6 o h) : p := h
theorem auG {p : Prop} (h : p := by
  obtain ⟨e, he, hb, rfl⟩ := (kZ rQ).1 qI
  exact (WI _ (ki i qd _ qI).1).1 (C2 e he hb)) : p := h
theorem auH {p : Prop} (h : p := by exact ct ⟨_, si h, rfl, rfl⟩ (tk [0] ⟨.p, .i, .i, .b, ⟨⟩⟩ ⟨(bZ rfl), ⟨⟩⟩)) : p := h
theorem auI {p : Prop} (h : p := by exact ct ⟨_, si h, rfl, rfl⟩ (tk [0] ⟨.p, .b, .b, .i, .b, ⟨⟩⟩ ⟨(bZ rfl), ⟨⟩⟩)) : p := h
theorem auJ {p : Prop} (h : p := by exact hp.elim) : p := h
theorem auK {p : Prop} (h : p := by exact ct ⟨si h, rfl, rfl⟩ (tk [] ⟨⟩ ⟨⟩)) : p := h
theorem auL {p : Prop} (h : p := by exact .d (eB h)) : p := h
theorem auM {p : Prop} (h : p := by exact .d (eI h)) : p := h
theorem auN {p : Prop} (h : p := by exact ct ⟨_, si h, rfl, rfl⟩ (tk [0] ⟨.p, .i, .b, .b, .i, .b, ⟨⟩⟩ ⟨(bZ rfl), ⟨⟩⟩)) : p := h
theorem auO {p : Prop} (h : p := by exact ct ⟨_, si h, rfl, rfl⟩ (tk [] ⟨.i, .b, ⟨⟩⟩ ⟨⟩)) : p := h
theorem auP {p : Prop} (h : p := by exact ct ⟨_, si h, rfl, rfl⟩ (tk [0] ⟨.p, .i, .b, ⟨⟩⟩ ⟨(bZ rfl), ⟨⟩⟩)) : p := h
theorem auQ {p : Prop} (h : p := by exact ct ⟨_, si h, rfl, rfl⟩ (tk [0] ⟨.p, .i, .b, .i, .b, ⟨⟩⟩ ⟨(bZ rfl), ⟨⟩⟩)) : p := h
theorem auR {p : Prop} (h : p := by exact lg (Dl _ _ _ h rfl) (tk [0] ⟨.p, .i, .l, .i, .i, ⟨⟩⟩ ⟨(bZ rfl), ⟨⟩⟩)) : p := h
theorem auS {p : Prop} (h : p := by exact ⟨_, hu, rfl, h1, Of h2, h4, fun u => by rw [show 9999 = 9998 + 1 from rfl, Instr.checkKey]; simp [run_underlying hu]⟩) : p := h
theorem auT {p : Prop} (h : p := by exact ct ⟨_, si h, rfl, rfl⟩ (tk [] ⟨.i, ⟨⟩⟩ ⟨⟩)) : p := h
theorem auU {p : Prop} (h : p := by exact ct ⟨_, si h, rfl, rfl⟩ (tk [0] ⟨.p, .l, .s, ⟨⟩⟩ ⟨(bZ rfl), ⟨⟩⟩)) : p := h
theorem auV {p : Prop} (h : p := by exact ct ⟨_, si h, rfl, rfl⟩ (tk [0] ⟨.b, .b, .p, .l, .i, .i, ⟨⟩⟩ ⟨(bZ rfl), ⟨⟩⟩)) : p := h
theorem auW {p : Prop} (h : p := by exact lg (zS _ _ h rfl) (tk [0] ⟨.p, .i, ⟨⟩⟩ ⟨(bZ rfl), ⟨⟩⟩)) : p := h
theorem auX {p : Prop} (h : p := by exact ct ⟨_, si h, rfl, rfl⟩ (tk [] ⟨.s, ⟨⟩⟩ ⟨⟩)) : p := h
theorem auY {p : Prop} (h : p := by exact .f (.f (.f (eB h)))) : p := h
theorem auZ {p : Prop} (h : p := by exact .inr (.inl h)) : p := h
theorem ava {p : Prop} (h : p := by exact lg (Jn _ _ _ h rfl) (tk [] ⟨.l, .b, .b, .i, .i, ⟨⟩⟩ ⟨⟩)) : p := h
theorem avb {p : Prop} (h : p := by exact ⟨asA _, fun _ => ⟨rfl, rfl, rfl, rfl⟩⟩) : p := h
theorem avc {p : Prop} (h : p := by exact ct ⟨_, si h, rfl, rfl⟩ (tk [0] ⟨.o, ⟨⟩⟩ ⟨nw, ⟨⟩⟩)) : p := h
theorem avd {p : Prop} (h : p := by exact .t (.t (.t (.t (.t (.t (.t (.t (.d (eB h)))))))))) : p := h
theorem ave {p : Prop} (h : p := by exact ⟨_, _, _, _, _, _, _, _, _, _, q1, q2, q3, q4⟩) : p := h
theorem avf {p : Prop} (h : p := by exact .f (.f (.f (.f (.f (.f (.f (.f (eB h))))))))) : p := h
theorem avg {p : Prop} (h : p := by exact .inr ⟨_, _, _, q⟩) : p := h
theorem avh {p : Prop} (h : p := by omega) : p := h
theorem avi {p : Prop} (h : p := by simp only [bO, aK, adr, asB, List.drop, an, mg, jc, jb]; rfl) : p := h
theorem avj {p : Prop} (h : p := by simp) : p := h
theorem avk {p : Prop} (h : p := by simp [Op.operands]) : p := h
theorem avl {p : Prop} (h : p := by simp only [An, an, mg]; omega) : p := h
theorem avm {p : Prop} (h : p := by simp; omega) : p := h
theorem avn {p : Prop} (h : p := by decide) : p := h
theorem avo {p : Prop} (h : p := by simp only [an]; omega) : p := h
theorem avp {p : Prop} (h : p := by simp [Region.wanted, hg, hy]) : p := h
theorem avq {p : Prop} (h : p := by simp only [an, mg]; omega) : p := h
theorem avr {p : Prop} (h : p := by simpa using hj) : p := h
theorem avs {p : Prop} (h : p := by kernel_rfl) : p := h
theorem avt {p : Prop} (h : p := by have := cJ hx; have := cJ hy; omega) : p := h
theorem avu {p : Prop} (h : p := by simp [hx]) : p := h
theorem avv {p : Prop} (h : p := by have := cJ hx; omega) : p := h
theorem avw {p : Prop} (h : p := by have := eQ hx; have := eQ hy; omega) : p := h
theorem avx {p : Prop} (h : p := by simpa using h) : p := h
theorem avy {p : Prop} (h : p := by simp [oM]) : p := h
theorem avz {p : Prop} (h : p := by rw [← hf i hi]; exact hj) : p := h
theorem avA {p : Prop} (h : p := by simpa using hy) : p := h
theorem avB {p : Prop} (h : p := by simpa using h2) : p := h
theorem avC {p : Prop} (h : p := by simpa using h1) : p := h
theorem avD {p : Prop} (h : p := by simp [Region.wanted, hg, oA hs hj he]) : p := h
theorem avE {p : Prop} (h : p := by rw [he]; exact hu) : p := h
theorem avF {p : Prop} (h : p := by simp [hy]) : p := h
theorem avG {p : Prop} (h : p := by have := eQ hx; omega) : p := h
theorem avH {p : Prop} (h : p := by simpa using hb) : p := h
theorem avI {p : Prop} (h : p := by simpa using fQ) : p := h
theorem avJ {p : Prop} (h : p := by simp at hx ⊢; exact .inr hx) : p := h
theorem avK {p : Prop} (h : p := by subst hy; simp [Op.operands]) : p := h
theorem avL {p : Prop} (h : p := by rw [asJ, decide_eq_true rfl]; simp only [An, an, mg]; omega) : p := h
theorem avM {p : Prop} (h : p := by simp only [ath, asF]; exact .inl (asR.2 ⟨q, hq, rfl⟩)) : p := h
theorem avN {p : Prop} (h : p := by simp at hl; omega) : p := h
theorem avO {p : Prop} (h : p := by rw [oY]; exact mD) : p := h
theorem avP {p : Prop} (h : p := by obtain ⟨h1, h2⟩ := At.1 vy; rw [← h2]; exact asK h1) : p := h
theorem avQ {p : Prop} (h : p := by simp [Op.operands]; exact ⟨p.1, by simpa using hp⟩) : p := h
end Go.Am
set_option linter.unusedVariables false
set_option linter.unusedSimpArgs false
namespace Go.Am
open Go
def BS : List Int := [1, 10, 100, 1000, 10000, 100000, 1000000, 10000000, 100000000, 1000000000, 10000000000, 100000000000, 1000000000000, 10000000000000, 100000000000000, 1000000000000000, 10000000000000000, 100000000000000000, 1000000000000000000, 10000000000000000000]
def zY : List (Nat × Array Value) := [(1, (BS.map fun z => Value.int .u64 z).toArray)]
def B6 : List Nat := []
def zZ : List Nat := [0]
def OH : Nat := 51
end Go.Am
namespace Go.Am
open Go Go.RowKit
inductive PV where
 | int (k : IntKind) (n : Int)
 | bool (b : Bool)
 | str (s : List UInt8)
 | bm
 | dA
 | eG (sz n : Nat) (f : Nat → List PV)
 | eh (cells : List PV)
 | own (id gen off len : Nat)
 | aL (id gen i off : Nat)
 | lj (id : Nat)
 | lv (f : Nat) (bs : List (Nat × Nat))
 | fn (f : Nat)
 | agg (cs : List PV)
 | aV (vs : List PV)
 | gv
 | fJ (sz n : Nat) (e : TypeId) (f : Nat → List PV) (F : Nat → Prop)
 deriving Inhabited
abbrev Env := Nat → PV
inductive ar where
 | row (gen sz n : Nat) (e : TypeId) (f : Nat → List PV)
 | dead
 deriving Inhabited
inductive TI where
 | int (k : IntKind)
 | bool
 | str
 | slice (e sz bytes : Nat) (zero : List PV)
 | struct (sz : Nat) (fields : List (Nat × Nat × Bool)) (zero : List PV)
 | ptr (e : Nat)
 | map (k e : Nat) (zero : PV)
 | other
 deriving Inhabited
structure lO where
 get : Nat → TI
def my (env : Env) (t : Nat) (v : PV) : Env := fun j => bif Nat.beq j t then v else env j
def cy (env : Env) (d : Option Nat) (v : PV) : Env := match d with | some t => my env t v | none => env
def ur (env : Env) : List (Nat × PV) → Env
 | [] => env
 | (t, v) :: r => my (ur env r) t v
inductive eK (b : Bool) (T F : Prop) : Prop
 | mk (ht : b = true → T) (hf : b = false → F) : eK b T F
theorem jo {b : Bool} {T F : Prop} (h : eK b T F) : (b = true → T) ∧ (b = false → F) := by cases h with | mk a b => exact ⟨a, b⟩
def cK (b : Bool) (K : Prop) : Prop := match b with | true => K | false => False
theorem aU {b : Bool} {K : Prop} (h : cK b K) : b = true ∧ K := by cases b; exact h.elim; exact ⟨rfl, h⟩
def mX : IntKind → IntKind → Bool
 | .i8, .i8 => true
 | .i16, .i16 => true
 | .i32, .i32 => true
 | .i64, .i64 => true
 | .u8, .u8 => true
 | .u16, .u16 => true
 | .u32, .u32 => true
 | .u64, .u64 => true
 | _, _ => false
theorem dy {k k' : IntKind} (h : mX k k' = true) : k = k' := by cases k <;> cases k' <;> first | rfl | cases h
def abf : Value → Option PV
 | .int k n => some (.int k n)
 | .bool b => some (.bool b)
 | .string s => some (.str s.data.toList)
 | .slice none 0 0 => some .bm
 | .pointer none => some .dA
 | _ => none
def GK : List Value → Option (List PV)
 | [] => some []
 | v :: r => match abf v, GK r with
  | some p, some l => some (p :: l)
  | _, _ => none
def aoW : Option (List PV) → PV
 | some l => .agg l
 | none => .gv
def ofValue : Value → PV
 | .int k n => .int k n
 | .bool b => .bool b
 | .string s => .str s.data.toList
 | .slice none 0 0 => .bm
 | .pointer none => .dA
 | .agg vs => aoW (GK vs.toList)
 | _ => .gv
inductive Iv : PV → PV → Prop
 | same (a : PV) : Iv a a
 | nil (sz : Nat) (f : Nat → List PV) : Iv .bm (.eG sz 0 f)
 | GS (sz : Nat) (e : TypeId) (f : Nat → List PV) : Iv .bm (.fJ sz 0 e f (fun _ => False))
def mJ : List PV → List PV → Prop
 | [], [] => True
 | a :: l, b :: r => Iv a b ∧ mJ l r
 | _, _ => False
def ev (env : Env) : Operand → PV
 | .tmp t => env t
 | .const v => ofValue v
 | .func f => .fn f
 | .global _ => .gv
abbrev Mu := Nat → Option (Nat × Nat)
inductive aF (S : Nat → Prop) (w : World) : PV → Value → Prop
 | int (k : IntKind) (n : Int) : aF S w (.int k n) (.int k n)
 | bool (b : Bool) : aF S w (.bool b) (.bool b)
 | str (s : List UInt8) : aF S w (.str s) (.string ⟨⟨s⟩⟩)
 | bm : aF S w .bm (.slice none 0 0)
 | dA : aF S w .dA (.pointer none)
 | fn (f : Nat) : aF S w (.fn f) (.func (.func f) #[] #[])
 | mr (sz : Nat) (f : Nat → List PV) (a : Option Addr) (c : Nat) : aF S w (.eG sz 0 f) (.slice a 0 c)
 | eG (sz n : Nat) (f : Nat → List PV) (b off c : Nat) (vf : Nat → Nat → Value) (hS : S b) (hlen : ∀ i, i < n → (f i).length = sz) (hc : n ≤ c)
   (aJ : ∀ (i j : Nat) (pv : PV), i < n → (f i)[j]? = some pv → w.cell? ⟨b, off + i * sz + j, none⟩ = some (vf i j))
   (kV : ∀ (i j : Nat) (pv : PV), i < n → (f i)[j]? = some pv → aF S w pv (vf i j)) : aF S w (.eG sz n f) (.slice (some ⟨b, off, none⟩) n c)
 | eh (cs : List PV) (b off : Nat) (vf : Nat → Value) (hS : S b)
   (aJ : ∀ (j : Nat) (pv : PV), cs[j]? = some pv → w.cell? ⟨b, off + j, none⟩ = some (vf j))
   (kV : ∀ (j : Nat) (pv : PV), cs[j]? = some pv → aF S w pv (vf j)) : aF S w (.eh cs) (.pointer (some ⟨b, off, none⟩))
inductive jZ (S : Nat → Prop) (w : World) : PV → Value → Prop
 | nil (sz : Nat) (e : TypeId) (f : Nat → List PV) (F : Nat → Prop) (hF : ∀ b, ¬ F b) : jZ S w (.fJ sz 0 e f F) (.slice none 0 0)
 | wG (sz n : Nat) (e : TypeId) (f : Nat → List PV) (F : Nat → Prop) (b off c : Nat) (a : Addr) (cur : Array Value) (vf : Nat → Nat → Value) (hF : F b) (hb : w.heap[b]? = some (.cells cur e (0, 0))) (hlen : ∀ i, i < n → (f i).length = sz) (hc : n ≤ c)
   (ha : 0 < c → a = ⟨b, off, none⟩) (dZ : off + c * sz ≤ cur.size)
   (aJ : ∀ (i j : Nat) (pv : PV), i < n → (f i)[j]? = some pv → cur[off + i * sz + j]? = some (vf i j))
   (kV : ∀ (i j : Nat) (pv : PV), i < n → (f i)[j]? = some pv → aF S w pv (vf i j) ∨ ∃ bx n' e' f' F', pv = .fJ bx n' e' f' F')
   (sW : ∀ (i j bx n' : Nat) (e' : TypeId) (f' : Nat → List PV) (F' : Nat → Prop), i < n → (f i)[j]? = some (.fJ bx n' e' f' F') → jZ S w (.fJ bx n' e' f' F') (vf i j))
   (yy : ∀ (i j bx n' : Nat) (e' : TypeId) (f' : Nat → List PV) (F' : Nat → Prop), i < n → (f i)[j]? = some (.fJ bx n' e' f' F') → ∀ b', F' b' → F b' ∧ b' ≠ b)
   (CY : ∀ (i j bx n' : Nat) (e' : TypeId) (f' : Nat → List PV) (F' : Nat → Prop) (i2 j2 lK n2 : Nat) (e2 : TypeId) (f2 : Nat → List PV) (F2 : Nat → Prop), i < n → (f i)[j]? = some (.fJ bx n' e' f' F') → i2 < n → (f i2)[j2]? = some (.fJ lK n2 e2 f2 F2) →
    ∀ b', F' b' → F2 b' → i = i2 ∧ j = j2) : jZ S w (.fJ sz n e f F) (.slice (some a) n c)
def iJ (w : World) (b k : Nat) : Prop := ∃ cur e z, w.heap[b]? = some (.cells cur e z) ∧ k ≤ cur.size
def aW (μ : Mu) (h : List ar) (w : World) (id gen off len : Nat) (v : Value) : Prop :=
 (∃ a l c, v = .slice a l c) ∧ match h[id]? with
 | some (ar.row g sz n _ _) => gen ≤ g ∧ (gen = g → off + len ≤ n ∧ match μ id with
  | none => v = .slice none 0 0
  | some (b, base) => ∃ a cap, v = .slice (some a) len cap ∧ len ≤ cap ∧ (0 < cap → a = ⟨b, base + off * sz, none⟩) ∧ iJ w b (base + (off + cap) * sz))
 | some ar.dead => True
 | none => False
def ba (μ : Mu) (h : List ar) (w : World) (id gen i off : Nat) (v : Value) : Prop :=
 (∃ a, v = .pointer a) ∧ match h[id]? with
 | some (ar.row g sz n e _) => gen ≤ g ∧ (gen = g → i < n ∧ ∃ b base, μ id = some (b, base) ∧ (iJ w b 0 ∧ (Nat.beq e OH = true → base = 0)) ∧ v = .pointer (some ⟨b, base + i * sz + off, none⟩))
 | some ar.dead => True
 | none => False
def mS (w : World) (b : Nat) : Prop := ∃ es clock, w.heap[b]? = some (.map es clock)
def eH (μ : Mu) (h : List ar) (w : World) (id : Nat) (v : Value) : Prop :=
 (∃ a, v = .map a) ∧ match h[id]? with
 | some (ar.row _ _ _ _ _) => ∃ b base, μ id = some (b, base) ∧ mS w b ∧ v = .map (some b)
 | some ar.dead => True
 | none => False
def oQ (O : Nat → Nat → Value → Prop) (f : Nat) (bs : List (Nat × Nat)) (v : Value) : Prop :=
 ∃ vs : Array Value, v = .func (.func f) #[] vs ∧ vs.size = bs.length ∧ ∀ (j : Nat) (p : Nat × Nat), bs[j]? = some p → ∃ u : Value, vs[j]? = some u ∧ O p.1 p.2 u
theorem oQ.mono {O O' : Nat → Nat → Value → Prop} {f : Nat} {bs : List (Nat × Nat)} {v : Value} (h : oQ O f bs v) (hO : ∀ id g u, O id g u → O' id g u) : oQ O' f bs v := by
 obtain ⟨vs, h1, h2, h3⟩ := h
 exact ⟨vs, h1, h2, fun j p hj => let ⟨u, q1, q2⟩ := h3 j p hj; ⟨u, q1, hO _ _ _ q2⟩⟩
def oD (σ : Nat → Nat) (bs : List (Nat × Nat)) : List (Nat × Nat) := bs.map fun p => (σ p.1, p.2)
theorem oQ.map {O : Nat → Nat → Value → Prop} {σ : Nat → Nat} {f : Nat} {bs : List (Nat × Nat)} {v : Value} (h : oQ (fun id g u => O (σ id) g u) f bs v) : oQ O f (oD σ bs) v := by
 obtain ⟨vs, h1, h2, h3⟩ := h
 refine ⟨vs, h1, by unfold oD; rw [atT]; exact h2, fun j p hj => ?_⟩
 unfold oD at hj
 rw [asS] at hj
 cases hx : bs[j]? with
 | none => rw [hx] at hj; cases hj
 | some q =>
  rw [hx] at hj
  injection hj with hj
  subst hj
  exact h3 j q hx
theorem oQ.aoV {O : Nat → Nat → Value → Prop} {σ : Nat → Nat} {f : Nat} {bs : List (Nat × Nat)} {v : Value} (h : oQ O f (oD σ bs) v) : oQ (fun id g u => O (σ id) g u) f bs v := by
 obtain ⟨vs, h1, h2, h3⟩ := h
 refine ⟨vs, h1, by unfold oD at h2; rw [atT] at h2; exact h2, fun j p hj => ?_⟩
 obtain ⟨u, q1, q2⟩ := h3 j (σ p.1, p.2) (by unfold oD; rw [asS, hj]; rfl)
 exact ⟨u, q1, q2⟩
def lC (μ : Mu) (h : List ar) (w : World) (f : Nat) (bs : List (Nat × Nat)) (v : Value) : Prop := oQ (fun id g u => ba μ h w id g 0 0 u) f bs v
def pH : PV → Bool
 | .int _ _ => true
 | .bool _ => true
 | .str _ => true
 | .gv => true
 | _ => false
def iM : PV → Bool
 | .agg cs => cs.all pH
 | v => pH v
def oI : PV → Value → Prop
 | .int k n, v => v = .int k n
 | .bool b, v => v = .bool b
 | .str s, v => v = .string ⟨⟨s⟩⟩
 | _, v => v.oneCell' = true
def mY : PV → Value → Prop
 | .agg cs, v => ∃ vs : Array Value, v = .agg vs ∧ vs.size = cs.length ∧ ∀ (j : Nat) (pv : PV), cs[j]? = some pv → ∃ u : Value, vs[j]? = some u ∧ oI pv u
 | .gv, _ => True
 | pv, v => oI pv v
def rr (C : PV → Value → Prop) (base sz n : Nat) (e : TypeId) (f : Nat → List PV) : Obj → Prop
 | .cells cur e' z => e' = e ∧ z = (0, 0) ∧ base + n * sz ≤ cur.size ∧ ∀ (i j : Nat) (pv : PV), i < n → (f i)[j]? = some pv → ∃ v : Value, cur[base + i * sz + j]? = some v ∧ C pv v
 | .map es _ => es.size = n ∧ ∀ i, i < n → ∃ (kp vp : PV) (en : MapEntry), f i = [kp, vp] ∧ iM kp = true ∧ iM vp = true ∧ es[i]? = some en ∧ mY kp en.key ∧ mY vp en.val
 | _ => False
theorem rr.mono {C C' : PV → Value → Prop} {base sz n : Nat} {e : TypeId} {f : Nat → List PV} {o : Obj} (h : rr C base sz n e f o) (hc : ∀ (i j : Nat) (pv : PV) (v : Value), i < n → (f i)[j]? = some pv → C pv v → C' pv v) : rr C' base sz n e f o := by
 cases o with
 | cells cur e' z =>
  obtain ⟨h1, h2, h3, h4⟩ := h
  exact ⟨h1, h2, h3, fun i j pv hi hj => let ⟨v, q1, q2⟩ := h4 i j pv hi hj; ⟨v, q1, hc i j pv v hi hj q2⟩⟩
 | map es c => exact h
 | _ => exact h.elim
def bq (μ : Mu) (h : List ar) (S : Nat → Prop) (w : World) : PV → Value → Prop
 | .own id gen off len, v => aW μ h w id gen off len v
 | .aL id gen i off, v => ba μ h w id gen i off v
 | .lj id, v => eH μ h w id v
 | .lv f bs, v => lC μ h w f bs v
 | .gv, v => v.oneCell' = true
 | .fJ _ _ _ _ _, v => v.oneCell' = true
 | .agg _, _ => False
 | .aV _, _ => False
 | pv, v => aF S w pv v
def lz (μ : Mu) (h : List ar) (S : Nat → Prop) (w : World) : PV → Value → Prop
 | .fJ sz n e f F, v => jZ S w (.fJ sz n e f F) v
 | pv, v => bq μ h S w pv v
def gJ (μ : Mu) (h : List ar) (S : Nat → Prop) (w : World) : PV → Value → Prop
 | .agg cs, v => ∃ vs : Array Value, v = .agg vs ∧ vs.size = cs.length ∧ ∀ (j : Nat) (pv : PV), cs[j]? = some pv → ∃ u : Value, vs[j]? = some u ∧ bq μ h S w pv u
 | .gv, _ => True
 | pv, v => bq μ h S w pv v
def aZ (μ : Mu) (h : List ar) (S : Nat → Prop) (w : World) : PV → Value → Prop
 | .aV ps, v => ∃ vs : Array Value, v = .tuple vs ∧ vs.size = ps.length ∧ ∀ (j : Nat) (pv : PV), ps[j]? = some pv → ∃ u : Value, vs[j]? = some u ∧ gJ μ h S w pv u
 | pv, v => gJ μ h S w pv v
def bA (μ : Mu) (h : List ar) (S : Nat → Prop) (w : World) : Prop :=
 ∀ (id g sz n : Nat) (e : TypeId) (f : Nat → List PV), h[id]? = some (ar.row g sz n e f) → (∀ i, i < n → (f i).length = sz) ∧ match μ id with
  | none => n = 0
  | some (b, base) => ∃ o : Obj, w.heap[b]? = some o ∧ rr (lz μ h S w) base sz n e f o
theorem bA.cells {μ : Mu} {h : List ar} {S : Nat → Prop} {w : World} {b base k sz n : Nat} {e : TypeId} {f : Nat → List PV} (hc : iJ w b k) (ho : ∃ o : Obj, w.heap[b]? = some o ∧ rr (lz μ h S w) base sz n e f o) :
  ∃ cur : Array Value, w.heap[b]? = some (.cells cur e (0, 0)) ∧ base + n * sz ≤ cur.size ∧
    ∀ (i j : Nat) (pv : PV), i < n → (f i)[j]? = some pv → ∃ v : Value, cur[base + i * sz + j]? = some v ∧ lz μ h S w pv v := by
 obtain ⟨cur, e', z, h1, _⟩ := hc
 obtain ⟨o, h2, h3⟩ := ho
 obtain rfl := ato (h1.symm.trans h2)
 obtain ⟨rfl, rfl, q1, q2⟩ := h3
 exact ⟨cur, h1, q1, q2⟩
theorem bA.Cz {C : PV → Value → Prop} {w : World} {b base sz n : Nat} {e : TypeId} {f : Nat → List PV} (ho : ∃ cur : Array Value, w.heap[b]? = some (.cells cur e (0, 0)) ∧ base + n * sz ≤ cur.size ∧
    ∀ (i j : Nat) (pv : PV), i < n → (f i)[j]? = some pv → ∃ v : Value, cur[base + i * sz + j]? = some v ∧ C pv v) : ∃ o : Obj, w.heap[b]? = some o ∧ rr C base sz n e f o := by
 obtain ⟨cur, h1, h2, h3⟩ := ho
 exact ⟨_, h1, rfl, rfl, h2, h3⟩
def yk (μ : Mu) (h : List ar) (b : Nat) : Prop := ∃ (id g sz n : Nat) (e : TypeId) (f : Nat → List PV) (base : Nat), h[id]? = some (ar.row g sz n e f) ∧ μ id = some (b, base)
def cH (h : List ar) (id i j b : Nat) : Prop := ∃ (g sz n : Nat) (e : TypeId) (f : Nat → List PV) (bx n' : Nat) (e' : TypeId) (f' : Nat → List PV) (F : Nat → Prop), h[id]? = some (ar.row g sz n e f) ∧ i < n ∧ (f i)[j]? = some (.fJ bx n' e' f' F) ∧ F b
def bP (μ : Mu) (h : List ar) (b : Nat) : Prop := yk μ h b ∨ ∃ id i j, cH h id i j b
def OR (S : Nat → Prop) (w : World) : Prop := (∀ p, p ∈ zY → S p.1 ∧ ∃ t z, w.heap[p.1]? = some (.cells p.2 t z)) ∧ (∀ g, g ∈ B6 → S g ∧ ∃ tp p t z, w.heap[g]? = some (.cells #[.iface tp p] t z)) ∧
 ∀ g, g ∈ zZ → S g ∧ ∃ m t z, w.heap[g]? = some (.cells #[.int .i64 m] t z)
theorem OR.PM {S S' : Nat → Prop} {w w' : World} (h : OR S w) (hb : ∀ b, S b → w'.heap[b]? = w.heap[b]?) (hs : ∀ b, S b → S' b) : OR S' w' :=
 ⟨fun p hp => ⟨hs _ (h.1 p hp).1, by rw [hb _ (h.1 p hp).1]; exact (h.1 p hp).2⟩, fun g hg => ⟨hs _ (h.2.1 g hg).1, by rw [hb _ (h.2.1 g hg).1]; exact (h.2.1 g hg).2⟩,
  fun g hg => ⟨hs _ (h.2.2 g hg).1, by rw [hb _ (h.2.2 g hg).1]; exact (h.2.2 g hg).2⟩⟩
structure n7 (μ : Mu) (h : List ar) (S : Nat → Prop) (w : World) : Prop where
 apart : ∀ b, bP μ h b → ¬ S b
 lt : ∀ b, bP μ h b → b < w.heap.size
 slt : ∀ b, S b → b < w.heap.size
 inj : ∀ (i j g sz n : Nat) (e : TypeId) (f : Nat → List PV) (g' bx n' : Nat) (e' : TypeId) (f' : Nat → List PV) (b o o' : Nat), h[i]? = some (ar.row g sz n e f) → h[j]? = some (ar.row g' bx n' e' f') → μ i = some (b, o) → μ j = some (b, o') → i = j
 known : OR S w
 hv : ∀ b, yk μ h b → ∀ id i j, ¬ cH h id i j b
 hh : ∀ b id i j id' i' j', cH h id i j b → cH h id' i' j' b → id = id' ∧ i = i' ∧ j = j'
structure Fr (μ : Mu) (h : List ar) (S : Nat → Prop) (w : World) (μ' : Mu) (h' : List ar) (S' : Nat → Prop) (w' : World) : Prop where
 len : h.length ≤ h'.length
 blocks : ∀ b, b < w.heap.size → ¬ bP μ h b → w'.heap[b]? = w.heap[b]?
 sub : ∀ b, S b → S' b
 new : ∀ b, S' b → S b ∨ bP μ h b ∨ w.heap.size ≤ b
 own : ∀ b, bP μ' h' b → bP μ h b ∨ w.heap.size ≤ b
 size : w.heap.size ≤ w'.heap.size
 os : w'.os = w.os
 tape : w'.tape = w.tape
 output : w'.output = w.output
 xe : ∀ (id g sz n : Nat) (e : TypeId) (f : Nat → List PV), h[id]? = some (ar.row g sz n e f) → match h'[id]? with
  | some (ar.row g' bx n' e' _) => g ≤ g' ∧ (g' = g → μ' id = μ id ∧ bx = sz ∧ n' = n ∧ e' = e)
  | some ar.dead => True
  | none => False
 dead : ∀ id : Nat, h[id]? = some ar.dead → h'[id]? = some ar.dead
 bs : ∀ b k, bP μ h b → iJ w b k → iJ w' b k
 maps : ∀ (id g sz n : Nat) (e : TypeId) (f : Nat → List PV) (b base : Nat), h[id]? = some (ar.row g sz n e f) → μ id = some (b, base) → mS w b →
  mS w' b ∧ (h'[id]? = some ar.dead ∨ ((∃ g' bx n' e' f', h'[id]? = some (ar.row g' bx n' e' f')) ∧ μ' id = some (b, base)))
 qE : ∀ b id i j, cH h id i j b → mS w b → mS w' b
def ahF (P : Program) (f : FuncId) : Prop := ∃ fn c, P.funcs[f]? = some fn ∧ fn.body = some c ∧ (fn.name == "runtime.NumGoroutine") = false
def ACall (P : Program) (f : FuncId) (args : List PV) (h : List ar) (R : PV → List ar → Prop) : Prop :=
 ahF P f ∧ ∀ (w : World) (vs : Array Value) (μ : Mu) (S : Nat → Prop), bA μ h S w → n7 μ h S w → vs.size = args.length →
  (∀ (j : Nat) (pv : PV), args[j]? = some pv → ∃ v : Value, vs[j]? = some v ∧ gJ μ h S w pv v) →
  Calls P f vs w (fun e w' => ∃ (v : Value) (res : PV) (h' : List ar) (μ' : Mu) (S' : Nat → Prop), e = .returned v ∧ R res h' ∧ aZ μ' h' S' w' res v ∧ bA μ' h' S' w' ∧ n7 μ' h' S' w' ∧ Fr μ h S w μ' h' S' w')
def cc : PV → Bool
 | .int _ _ => true
 | .bool _ => true
 | .str _ => true
 | .bm => true
 | .dA => true
 | .eG _ _ _ => true
 | .eh _ => true
 | .fn _ => true
 | _ => false
def eL : PV → Bool
 | .fJ _ _ _ _ _ => true
 | _ => false
inductive xi : PV → PV → Prop
 | mk (sz n : Nat) (e : TypeId) (f f' : Nat → List PV) (F : Nat → Prop) (hl : ∀ i, i < n → (f' i).length = (f i).length) (hf : ∀ (i j : Nat) (pv ew : PV), i < n → (f i)[j]? = some pv → (f' i)[j]? = some ew → eL pv = false → ew = pv) (ho : ∀ (i j : Nat) (pv ew : PV), i < n → (f i)[j]? = some pv → (f' i)[j]? = some ew → eL pv = true → xi pv ew)
   (hp : ∀ (i j : Nat) (ew : PV), i < n → (f' i)[j]? = some ew → cc ew = true) : xi (.fJ sz n e f F) (.eG sz n f')
inductive Fz (h η : List ar) (k : List Nat) : PV → PV → Prop
 | int (k' : IntKind) (n : Int) : Fz h η k (.int k' n) (.int k' n)
 | bool (b : Bool) : Fz h η k (.bool b) (.bool b)
 | str (s : List UInt8) : Fz h η k (.str s) (.str s)
 | bm : Fz h η k .bm .bm
 | dA : Fz h η k .dA .dA
 | Wy (sz : Nat) (f : Nat → List PV) : Fz h η k .bm (.eG sz 0 f)
 | aoA (id id' g' bx : Nat) (e' : TypeId) (f' : Nat → List PV) (hk : k[id']? = some id) (ho : h[id]? = none) (hη : η[id']? = some (ar.row g' bx 0 e' f')) : Fz h η k .bm (.own id' g' 0 0)
 | fn (f : Nat) : Fz h η k (.fn f) (.fn f)
 | eG (sz n : Nat) (f f' : Nat → List PV) (hf : ∀ i, i < n → f' i = f i) : Fz h η k (.eG sz n f) (.eG sz n f')
 | eh (cs : List PV) : Fz h η k (.eh cs) (.eh cs)
 | gv (pv : PV) : Fz h η k pv .gv
 | fJ (sz n : Nat) (e : TypeId) (f : Nat → List PV) (F : Nat → Prop) : Fz h η k (.fJ sz n e f F) (.fJ sz n e f F)
 | GS (sz : Nat) (e : TypeId) (f : Nat → List PV) : Fz h η k .bm (.fJ sz 0 e f (fun _ => False))
 | own (id id' g g' sz bx n n' off len : Nat) (e e' : TypeId) (f f' : Nat → List PV) (hk : k[id']? = some id) (ho : h[id]? = some (ar.row g sz n e f)) (hη : η[id']? = some (ar.row g' bx n' e' f')) (hn : off + len ≤ n') : Fz h η k (.own id g off len) (.own id' g' off len)
 | aL (id id' g g' sz bx n n' i off : Nat) (e e' : TypeId) (f f' : Nat → List PV) (hk : k[id']? = some id) (ho : h[id]? = some (ar.row g sz n e f)) (hη : η[id']? = some (ar.row g' bx n' e' f')) (hn : i < n') : Fz h η k (.aL id g i off) (.aL id' g' i off)
 | lj (id id' g g' sz bx n n' : Nat) (e e' : TypeId) (f f' : Nat → List PV) (hk : k[id']? = some id) (ho : h[id]? = some (ar.row g sz n e f)) (hη : η[id']? = some (ar.row g' bx n' e' f')) : Fz h η k (.lj id) (.lj id')
 | lv (f : Nat) (bs CZ : List (Nat × Nat)) (hl : CZ.length = bs.length) (hc : ∀ (j : Nat) (p p' : Nat × Nat), bs[j]? = some p → CZ[j]? = some p' → k[p'.1]? = some p.1 ∧ (∃ sz n e f, h[p.1]? = some (ar.row p.2 sz n e f)) ∧ ∃ sz n e f, η[p'.1]? = some (ar.row p'.2 sz n e f) ∧ 0 < n) : Fz h η k (.lv f bs) (.lv f CZ)
 | frz (id g sz n off len : Nat) (e : TypeId) (f f' : Nat → List PV) (hk : id ∉ k) (ho : h[id]? = some (ar.row g sz n e f)) (hl : ∀ i, i < len → (f' i).length = (f (off + i)).length)
   (hp : ∀ (i j : Nat) (ew : PV), i < len → (f' i)[j]? = some ew → cc ew = true)
   (hf : ∀ (i j : Nat) (pv ew : PV), i < len → (f (off + i))[j]? = some pv → (f' i)[j]? = some ew → ¬ xi pv ew → Fz h η k pv ew) : Fz h η k (.own id g off len) (.eG sz len f')
 | agg (cs tP : List PV) (hl : tP.length = cs.length) (hc : ∀ (j : Nat) (pv ew : PV), cs[j]? = some pv → tP[j]? = some ew → Fz h η k pv ew) : Fz h η k (.agg cs) (.agg tP)
 | aV (cs tP : List PV) (hl : tP.length = cs.length) (hc : ∀ (j : Nat) (pv ew : PV), cs[j]? = some pv → tP[j]? = some ew → Fz h η k pv ew) : Fz h η k (.aV cs) (.aV tP)
def vn (h η : List ar) (k : List Nat) : List PV → List PV → Prop
 | [], [] => True
 | a :: l, b :: r => Fz h η k a b ∧ vn h η k l r
 | _, _ => False
def Ih : List Nat → Nat → Bool
 | [], _ => false
 | a :: r, x => match Nat.beq a x with
  | true => true
  | false => Ih r x
def lE : List Nat → Bool
 | [] => true
 | a :: r => match Ih r a with
  | true => false
  | false => lE r
def lq : List ar → List Nat → List Nat
 | .row _ _ _ _ _ :: r, i :: is => i :: lq r is
 | .dead :: r, _ :: is => lq r is
 | _, _ => []
def xh (h η : List ar) (k : List Nat) (m : Nat) (o : ar) (id' id : Nat) : Prop :=
 match o, h[id]? with
 | .row g' bx n' e' f', some (ar.row g sz n e f) => (id' < m → id' = id ∧ g' = g) ∧ bx = sz ∧ (n' = n ∨ m ≤ id' ∧ sz ≠ 2 ∧ n' ≤ n) ∧ e' = e ∧
   ∀ i, i < n' → vn h η k (f i) (f' i)
 | .dead, _ => True
 | .row _ _ n' _ _, none => m ≤ id' ∧ n' = 0
 | _, _ => False
def gL (l : List PV) (off : Nat) : List PV → List PV
 | [] => l
 | c :: r => gL (l.set off c) (off + 1) r
def cellsOf : PV → List PV
 | .agg cs => cs
 | v => [v]
def bV (h : List ar) (id : Nat) : ar := h.getD id .dead
def force (v : PV) (K : PV → Prop) : Prop :=
 match v with
 | .int k n => K (.int k n)
 | .bool b => K (.bool b)
 | .str s => K (.str s)
 | .bm => K .bm
 | .dA => K .dA
 | .eG sz n f => K (.eG sz n f)
 | .eh cs => K (.eh cs)
 | .own id gen off len => K (.own id gen off len)
 | .aL id gen i off => K (.aL id gen i off)
 | .lj id => K (.lj id)
 | .lv f bs => K (.lv f bs)
 | .fn f => K (.fn f)
 | .agg cs => K (.agg cs)
 | .aV vs => K (.aV vs)
 | .gv => K .gv
 | .fJ sz n e f F => K (.fJ sz n e f F)
theorem bw {v : PV} {K : PV → Prop} (h : force v K) : K v := by cases v <;> exact h
def zu (K : List PV → Prop) : Nat → List PV → List PV → Prop
 | 0, _, acc => K acc.reverse
 | _ + 1, [], _ => False
 | n + 1, c :: r, acc => force c fun v => zu K n r (v :: acc)
theorem l7 {K : List PV → Prop} : ∀ (n : Nat) (l acc : List PV), zu K n l acc → n ≤ l.length ∧ K (acc.reverse ++ l.take n)
 | 0, l, acc, h => ⟨atS _, by simp only [List.take_zero, atv]; exact h⟩
 | _ + 1, [], _, h => h.elim
 | n + 1, c :: r, acc, h => by
  obtain ⟨h1, h2⟩ := l7 n r (c :: acc) (bw h)
  exact ⟨by simp; omega, by simpa using h2⟩
def tV (T : lO) (t : Nat) (cells : List PV) (K : PV → Prop) : Prop :=
 match T.get t with
 | .struct sz _ _ => zu (fun l => K (.agg l)) sz cells []
 | .other => False
 | _ => match cells with
  | c :: _ => force c K
  | [] => False
def sR (T : lO) (t : Nat) (a : PV) (h : List ar) (K : PV → Prop) : Prop :=
 match a with
 | .eh cells => tV T t cells K
 | .aL id gen i off => match bV h id with
  | .row g _ _ _ f => g = gen ∧ ∃ c, f i = c ∧ tV T t (c.drop off) K
  | .dead => False
 | _ => False
def ua (f : Nat → List PV) (i : Nat) (l : List PV) : Nat → List PV := fun k => bif Nat.beq k i then l else f k
def uL : List PV → Bool
 | [] => true
 | .int _ _ :: r => uL r
 | .bool _ :: r => uL r
 | .str _ :: r => uL r
 | _ => false
def Cq (g : Bool) (q : Bool) : Option Bool → Option Bool
 | some c => match g with
  | true => some (q && c)
  | false => none
 | none => none
def yW : List PV → List PV → List PV → Option Bool
 | [], [], [] => some true
 | .int k _ :: z, .int k1 a :: r, .int k2 b :: r' => Cq (mX k k1 && mX k k2) (a == b) (yW z r r')
 | .bool _ :: z, .bool a :: r, .bool b :: r' => Cq true (a == b) (yW z r r')
 | .str _ :: z, .str a :: r, .str b :: r' => Cq true (a == b) (yW z r r')
 | _, _, _ => none
def kN (ti : TI) (a b : PV) : Option Bool :=
 match ti, a, b with
 | .int k, .int k1 x, .int k2 y => Cq (mX k k1 && mX k k2) (x == y) (some true)
 | .str, .str x, .str y => some (x == y)
 | .struct _ _ z, .agg xs, .agg ys => match uL z with
  | true => yW z xs ys
  | false => none
 | _, _, _ => none
def Cx (ti : TI) (f : Nat → List PV) (n : Nat) (kv : PV) : Prop := ∀ j, j < n → ∃ kp vp, f j = [kp, vp] ∧ kN ti kv kp = some false
def MAt (ti : TI) (f : Nat → List PV) (n : Nat) (kv : PV) (i : Nat) (r : PV) : Prop := i < n ∧ Cx ti f i kv ∧ ∃ kp, f i = [kp, r] ∧ kN ti kv kp = some true
def WX (ti : TI) (f : Nat → List PV) (n : Nat) (kv zv r : PV) (b : Bool) : Prop := (b = true ∧ ∃ i, MAt ti f n kv i r) ∨ (b = false ∧ r = zv ∧ Cx ti f n kv)
def asq (ti : TI) (f : Nat → List PV) (n : Nat) (kv vv : PV) (n' : Nat) (f' : Nat → List PV) : Prop :=
 (∃ i r, MAt ti f n kv i r ∧ n' = n ∧ f' i = [kv, vv] ∧ ∀ j, j < n → j ≠ i → f' j = f j) ∨ (Cx ti f n kv ∧ n' = n + 1 ∧ f' n = [kv, vv] ∧ ∀ j, j < n → f' j = f j)
def GM (ti : TI) (bo : BinOp) (x y : PV) (K : PV → Prop) : Prop :=
 match x, y with
 | .int k a, .int k' b =>
  match bo with
  | .shl => 0 ≤ b ∧ K (.int k (k.wrap (a * 2 ^ min b.toNat k.bits)))
  | .shr => 0 ≤ b ∧ K (.int k (a.fdiv (2 ^ min b.toNat k.bits)))
  | _ => cK (mX k k') <| match bo with
  | .and => K (.int k (bits .and k a b))
  | .or => K (.int k (bits .or k a b))
  | .xor => K (.int k (bits .xor k a b))
  | .andNot => K (.int k (bits .andNot k a b))
  | .add => K (.int k (k.wrap (a + b)))
  | .sub => K (.int k (k.wrap (a - b)))
  | .mul => K (.int k (k.wrap (a * b)))
  | .quo => b ≠ 0 ∧ K (.int k (k.wrap (a.tdiv b)))
  | .rem => b ≠ 0 ∧ K (.int k (a.tmod b))
  | .eql => K (.bool (a == b))
  | .neq => K (.bool (a != b))
  | .lss => K (.bool (decide (a < b)))
  | .leq => K (.bool (decide (a ≤ b)))
  | .gtr => K (.bool (decide (a > b)))
  | .geq => K (.bool (decide (a ≥ b)))
  | _ => False
 | .bool a, .bool b => match ti, bo with
  | .bool, .eql => K (.bool (a == b))
  | .bool, .neq => K (.bool (!(a == b)))
  | _, _ => False
 | .str a, .str b => match bo with
  | .add => a.length + b.length ≤ 4611686018427387904 ∧ ∃ s, a ++ b = s ∧ K (.str s)
  | .eql => K (.bool (a == b))
  | .neq => K (.bool (!(a == b)))
  | .lss => K (.bool (Op.bytesLess a b))
  | .leq => K (.bool (Op.bytesLess a b || a == b))
  | .gtr => K (.bool !(Op.bytesLess a b || a == b))
  | .geq => K (.bool !(Op.bytesLess a b))
  | _ => False
 | .agg xs, .agg ys => match ti with
  | .struct _ _ z => cK (uL z) (match yW z xs ys with
   | some b => match bo with
    | .eql => ∃ c, b = c ∧ K (.bool c)
    | .neq => ∃ c, b = c ∧ K (.bool !c)
    | _ => False
   | none => False)
  | _ => False
 | _, _ => False
def w4 (x : PV) (lo hi : Option PV) (K : PV → Prop) : Prop :=
 match x with
 | .eG sz n f => match lo, hi with
  | none, none => K (.eG sz n f)
  | some (.int _ l), none => (0 ≤ l ∧ l ≤ n) ∧ K (.eG sz (n - l.toNat) (fun i => f (l.toNat + i)))
  | none, some (.int _ m) => (0 ≤ m ∧ m ≤ n) ∧ K (.eG sz m.toNat f)
  | some (.int _ l), some (.int _ m) => (0 ≤ l ∧ l ≤ m ∧ m ≤ n) ∧ K (.eG sz (m.toNat - l.toNat) (fun i => f (l.toNat + i)))
  | _, _ => False
 | .own id gen off len => match lo, hi with
  | none, none => K (.own id gen off len)
  | some (.int _ l), none => (0 ≤ l ∧ l ≤ len) ∧ K (.own id gen (off + l.toNat) (len - l.toNat))
  | none, some (.int _ m) => (0 ≤ m ∧ m ≤ len) ∧ K (.own id gen off m.toNat)
  | some (.int _ l), some (.int _ m) => (0 ≤ l ∧ l ≤ m ∧ m ≤ len) ∧ K (.own id gen (off + l.toNat) (m.toNat - l.toNat))
  | _, _ => False
 | .str s => match lo, hi with
  | none, none => K (.str s)
  | some (.int _ l), none => (0 ≤ l ∧ l ≤ s.length) ∧ K (.str (s.drop l.toNat))
  | none, some (.int _ m) => (0 ≤ m ∧ m ≤ s.length) ∧ K (.str (s.take m.toNat))
  | some (.int _ l), some (.int _ m) => (0 ≤ l ∧ l ≤ m ∧ m ≤ s.length) ∧ K (.str ((s.take m.toNat).drop l.toNat))
  | _, _ => False
 | _ => False
def Cs (K : PV → Prop) (v : PV) : Prop :=
 match v with
 | .eG sz n f => ∃ n' f', n' = n ∧ (∀ i, i < n' → f' i = f i) ∧ K (.eG sz n' f')
 | .str s => ∃ s', s = s' ∧ K (.str s')
 | .own id g off n => ∃ Rn n', Rn = off ∧ n' = n ∧ K (.own id g Rn n')
 | v => K v
def Qr (n : Nat) (hi mx : Option PV) : Prop :=
 match mx with
 | none => True
 | some (.int _ q) => match hi with
  | some (.int _ m) => m ≤ q ∧ q ≤ n
  | _ => False
 | _ => False
def isByte : List PV → Bool
 | [.int .u8 _] => true
 | _ => false
def byteOf : List PV → UInt8
 | [.int _ v] => UInt8.ofNat v.toNat
 | _ => 0
def rp (v : PV) (h : List ar) (K : List UInt8 → Prop) : Prop :=
 match v with
 | .bm => K []
 | .eG sz n f => cK (Nat.beq sz 1) (∃ s : List UInt8, s.length = n ∧ (∀ i, i < n → f i = [.int .u8 (s.getD i 0).toNat]) ∧ K s)
 | .own id gen off n => match bV h id with
  | .row g sz _ _ f => g = gen ∧ cK (Nat.beq sz 1) (∃ s : List UInt8, s.length = n ∧ (∀ i, i < n → f (off + i) = [.int .u8 (s.getD i 0).toNat]) ∧ K s)
  | .dead => False
 | _ => False
def j8 : PV → Bool
 | .agg _ => false
 | .aV _ => false
 | .gv => false
 | .fJ _ _ _ _ _ => false
 | _ => true
def storable : PV → Bool
 | .agg cs => cs.all j8
 | v => j8 v
def l8 (env : Env) (sz : Nat) (fl : List (Nat × Nat × Bool)) (K : List PV → Prop) : List (Nat × Operand) → List PV → Prop
 | [], acc => K acc
 | (k, x) :: r, acc => match fl[k]? with
  | some (o, size, _) => force (ev env x) fun v => cK (storable v && Nat.beq (cellsOf v).length size && Nat.ble (o + size) sz) (l8 env sz fl K r (gL acc o (cellsOf v)))
  | none => False
def pI (env : Env) (K : List (Nat × Nat) → Prop) : List Operand → List (Nat × Nat) → Prop
 | [], acc => K acc.reverse
 | x :: r, acc => match ev env x with
  | .aL id gen 0 0 => pI env K r ((id, gen) :: acc)
  | _ => False
def bH (T : lO) (op : Op) (env : Env) (h : List ar) (K : PV → Prop) : Prop :=
 match op with
 | .move x => force (ev env x) K
 | .assign x => force (ev env x) K
 | .pick c a b => match ev env c with
  | .bool t => eK t (force (ev env a) K) (force (ev env b) K)
  | _ => False
 | .binOp bo t x y _ => GM (T.get t) bo (ev env x) (ev env y) K
 | .unOp u _ x => match u, ev env x with
  | .not, .bool b => K (.bool !b)
  | .neg, .int k n => K (.int k (k.wrap (0 - n)))
  | _, _ => False
 | .load t a => sR T t (ev env a) h K
 | .convert s d x => match T.get s, T.get d, ev env x with
  | .int _, .int k, .int _ n => K (.int k (k.wrap n))
  | .slice e _ _ _, .str, v => match T.get e with
   | .int .u8 => rp v h (fun s => K (.str s))
   | _ => False
  | _, _, _ => False
 | .nilCheck x => match ev env x with
  | .eh cs => K (.eh cs)
  | .aL id gen i off => match bV h id with
   | .row g _ _ _ _ => g = gen ∧ K (.aL id gen i off)
   | .dead => False
  | _ => False
 | .fieldAddr s x k => match T.get s with
  | .struct _ fl _ => match fl[k]? with
   | some (o, _, _) => match ev env x with
    | .eh cs => K (.eh (cs.drop o))
    | .aL id gen i off => match bV h id with
     | .row g _ _ _ _ => g = gen ∧ K (.aL id gen i (off + o))
     | .dead => False
    | _ => False
   | none => False
  | _ => False
 | .field s x k => match T.get s with
  | .struct _ fl _ => match fl[k]? with
   | some (o, size, ag) => match ev env x with
    | .agg cs => match ag with
     | true => zu (fun l => K (.agg l)) size (cs.drop o) []
     | false => match cs.drop o with
      | c :: _ => force c K
      | [] => False
    | _ => False
   | none => False
  | _ => False
 | .build t parts => match T.get t with
  | .struct sz fl z => l8 env sz fl (fun cs => K (.agg cs)) parts.toList z
  | _ => False
 | .indexAddr t x i => match T.get t, ev env x, ev env i with
  | .slice _ sz _ _, .eG bx n f, .int _ i => cK (Nat.beq sz bx) ((0 ≤ i ∧ i < n) ∧ ∃ c, f i.toNat = c ∧ K (.eh c))
  | .slice _ sz _ _, .own id gen off len, .int _ i => match bV h id with
   | .row g bx _ e' _ => g = gen ∧ cK (Nat.beq sz bx && !Nat.beq e' OH) ((0 ≤ i ∧ i < len) ∧ ∃ j, off + i.toNat = j ∧ K (.aL id gen j 0))
   | .dead => False
  | _, _, _ => False
 | .index t x i => match T.get t, ev env x, ev env i with
  | .str, .str s, .int _ i => (0 ≤ i ∧ i < s.length) ∧ ∃ c, s.getD i.toNat 0 = c ∧ K (.int .u8 (c : UInt8).toNat)
  | _, _, _ => False
 | .lookup t x i ok => match T.get t, ev env x with
  | .map kt _ zv, .lj id => match bV h id with
   | .row _ _ n _ f => force (ev env i) fun kv => cK (kN (T.get kt) kv kv).isSome (∃ r b, WX (T.get kt) f n kv zv r b ∧ match ok with
    | true => K (.aV [r, .bool b])
    | false => force r K)
   | .dead => False
  | _, _ => False
 | .makeFunc fn first captured => match fn with
  | .func f => cK first.isEmpty (pI env (fun bs => K (.lv f bs)) captured.toList [])
  | _ => False
 | .extract x i => match ev env x with
  | .aV vs => match vs[i]? with
   | some v => force v K
   | none => False
  | _ => False
 | .slice t x lo hi mx => match T.get t, ev env x with
  | .slice _ sz _ _, .eG bx n f => cK (Nat.beq sz bx) (Qr n (hi.map (ev env)) (mx.map (ev env)) ∧ w4 (.eG bx n f) (lo.map (ev env)) (hi.map (ev env)) (Cs K))
  | .slice _ sz _ _, .own id gen off len => match bV h id with
   | .row g bx _ _ _ => g = gen ∧ cK (Nat.beq sz bx) (Qr len (hi.map (ev env)) (mx.map (ev env)) ∧ w4 (.own id gen off len) (lo.map (ev env)) (hi.map (ev env)) (Cs K))
   | .dead => False
  | .str, .str s => cK mx.isNone (w4 (.str s) (lo.map (ev env)) (hi.map (ev env)) (Cs K))
  | _, _ => False
 | .call ⟨.builtin .len, args, ts⟩ => match args.toList, ts.toList with
  | [x], [t] => match T.get t, ev env x with
   | .slice _ _ _ _, .eG _ n _ => K (.int .i64 n)
   | .slice _ _ _ _, .bm => K (.int .i64 0)
   | .slice _ _ _ _, .own id gen _ n => match bV h id with
    | .row g _ _ _ _ => g = gen ∧ K (.int .i64 n)
    | .dead => False
   | .str, .str s => K (.int .i64 s.length)
   | .map _ _ _, .lj id => match bV h id with
    | .row _ _ n _ _ => K (.int .i64 n)
    | .dead => False
   | _, _ => False
  | _, _ => False
 | _ => False
def jE : TI → Nat
 | .struct sz _ _ => sz
 | .other => 0
 | _ => 1
def wS : TI → Option (List PV)
 | .int k => some [.int k 0]
 | .bool => some [.bool false]
 | .str => some [.str []]
 | .slice _ _ _ _ => some [.bm]
 | .struct _ _ z => some z
 | _ => none
def uQ (len : Nat) : Nat → List (Nat × Operand) → Bool
 | k, [] => Nat.beq k len
 | k, (i, _) :: r => Nat.beq i k && uQ len (k + 1) r
def nn (env : Env) (sz : Nat) (K : List (List PV) → Prop) : List (Nat × Operand) → List (List PV) → Prop
 | [], acc => K acc.reverse
 | (_, x) :: r, acc => force (ev env x) fun v => cK (storable v && Nat.beq (cellsOf v).length sz) (nn env sz K r (cellsOf v :: acc))
theorem uR {env : Env} {sz : Nat} {K : List (List PV) → Prop} : ∀ (l : List (Nat × Operand)) (acc : List (List PV)), nn env sz K l acc →
  (∀ p ∈ l, storable (ev env p.2) = true ∧ Nat.beq (cellsOf (ev env p.2)).length sz = true) ∧ K (acc.reverse ++ l.map fun p => cellsOf (ev env p.2))
 | [], acc, h => ⟨fun p hp => by simp at hp, by simp only [asB, atv]; exact h⟩
 | (i, x) :: r, acc, h => by
  obtain ⟨h1, h2⟩ := aU (bw h)
  simp only [As] at h1
  obtain ⟨h3, h4⟩ := uR r _ h2
  refine ⟨fun p hp => ?_, by simpa using h4⟩
  simp only [asI] at hp
  rcases hp with rfl | hp
  ·exact h1
  ·exact h3 p hp
def noO : List PV → Bool
 | [] => true
 | .fJ _ _ _ _ _ :: _ => false
 | _ :: r => noO r
def CT (x : PV) (h : List ar) (sz : Nat) (K : Nat → (Nat → List PV) → Prop) : Prop :=
 match x with
 | .bm => K 0 (fun _ => [])
 | .eG bx m g => cK (Nat.beq sz bx) (K m g)
 | .own id gen off m => match bV h id with
  | .row g bx _ _ f => g = gen ∧ (∀ i, i < m → noO (f (off + i)) = true) ∧ cK (Nat.beq sz bx) (K m (fun i => f (off + i)))
  | .dead => False
 | .str s => cK (Nat.beq sz 1) <| K s.length (fun i => [.int .u8 (s.getD i 0).toNat])
 | _ => False
def mM (e sz bytes : Nat) (s x : PV) (h : List ar) (K : PV → List ar → Prop) : Prop :=
 match s with
 | .bm => CT x h sz fun m g => m * bytes ≤ 140737488355328 ∧ ∃ n' f', n' = m ∧ (∀ i, i < n' → mJ (g i) (f' i)) ∧ K (.own h.length 0 0 n') (h ++ [.row 0 sz n' e f'])
 | .own id gen off len => match bV h id with
  | .row g bx _ e' f => g = gen ∧ cK (Nat.beq sz bx && Nat.beq e e') (CT x h sz fun m q => (len + m) * bytes ≤ 140737488355328 ∧ ∃ n' f', n' = len + m ∧
    (∀ i, i < n' → mJ (bif Nat.blt i len then f (off + i) else q (i - len)) (f' i)) ∧
    K (.own id (gen + 1) 0 n') (h.set id (.row (gen + 1) sz n' e f')))
  | .dead => False
 | _ => False
def RG (f : Nat → List PV) (off m : Nat) (q : Nat → List PV) : Nat → List PV := fun i => bif Nat.blt i off then f i else bif Nat.blt i (off + m) then q (i - off) else f i
def xo (e sz : Nat) (s x : PV) (h : List ar) (K : PV → List ar → Prop) : Prop :=
 match s with
 | .own id gen off len => match bV h id with
  | .row g bx n e' f => g = gen ∧ cK (Nat.beq sz bx && Nat.beq e e') (CT x h sz fun m q => m ≤ len ∧ ∃ f', (∀ i, i < n → mJ (RG f off m q i) (f' i)) ∧ K (.int .i64 m) (h.set id (.row g sz n e f')))
  | .dead => False
 | _ => False
def kI : PV → Bool
 | .aV _ => false
 | _ => true
inductive su (P : Program) (f : FuncId) (args : List PV) (h : List ar) (K : PV → List ar → Prop) : Prop
 | mk (R : PV → List ar → Prop) (hA : ACall P f args h R) (hk : ∀ res h', R res h' → K res h')
def pop (P : Program) (T : lO) (op : Op) (env : Env) (h : List ar) (K : PV → List ar → Prop) : Prop :=
 match op with
 | .store t a x => match ev env a with
  | .aL id gen i off => match bV h id with
   | .row g sz n e f => g = gen ∧ force (ev env x) fun v => cK (storable v && Nat.ble 1 (jE (T.get t)) && Nat.beq (jE (T.get t)) (cellsOf v).length && Nat.ble (off + (cellsOf v).length) sz)
     (∃ c f', f i = c ∧ (∀ j, j < n → mJ (ua f i (gL c off (cellsOf v)) j) (f' j)) ∧ K .gv (h.set id (.row g sz n e f')))
   | .dead => False
  | _ => False
 | .box t x => force (ev env x) fun v => cK (storable v && Nat.beq (cellsOf v).length (jE (T.get t))) (K (.aL h.length 0 0 0) (h ++ [.row 0 (jE (T.get t)) 1 t (fun _ => cellsOf v)]))
 | .alloc t => match wS (T.get t) with
  | some z => K (.aL h.length 0 0 0) (h ++ [.row 0 (jE (T.get t)) 1 t (fun _ => z)])
  | none => False
 | .makeSlice t l c => match T.get t, ev env l, ev env c with
  | .slice e sz bytes zero, .int _ n, .int _ m => (0 ≤ n ∧ n ≤ m ∧ m ≤ 4611686018427387904 ∧ m.toNat * bytes ≤ 140737488355328) ∧ ∃ n' f', n' = n.toNat ∧ (∀ i, i < n' → mJ zero (f' i)) ∧ K (.own h.length 0 0 n') (h ++ [.row 0 sz n' e f'])
  | _, _, _ => False
 | .buildSlice t len parts => match T.get t with
  | .slice e sz _ _ => cK (uQ len 0 parts.toList && Nat.ble (len * sz) 65536) (nn env sz (fun cs => ∃ f', (∀ i, i < len → mJ (cs.getD i []) (f' i)) ∧ K (.own h.length 0 0 len) (h ++ [.row 0 sz len e f'])) parts.toList [])
  | _ => False
 | .convert s d x => match T.get s, T.get d, ev env x with
  | .str, .slice e _ _ _, .str b => match T.get e with
   | .int .u8 => ∃ f', (∀ i, i < b.length → f' i = [.int .u8 (b.getD i 0).toNat]) ∧ K (.eG 1 b.length f') h
   | _ => False
  | _, _, _ => bH T (.convert s d x) env h (fun v => K v h)
 | .binOp bo t x y ty => match bo, T.get t, ev env x, ev env y with
  | .eql, .slice _ _ _ _, .eG _ n _, .bm => (n = 0 → K (.bool true) h) ∧ K (.bool false) h
  | _, _, _, _ => bH T (.binOp bo t x y ty) env h (fun v => K v h)
 | .makeMap t none => match T.get t with
  | .map _ _ _ => ∃ f', K (.lj h.length) (h ++ [.row 0 2 0 t f'])
  | _ => False
 | .mapUpdate t m k x => match T.get t, ev env m with
  | .map kt _ _, .lj id => match bV h id with
   | .row g sz n e f => force (ev env k) fun kv => force (ev env x) fun vv => cK ((kN (T.get kt) kv kv).isSome && iM vv && storable vv && Nat.beq sz 2)
     (∃ n' f', asq (T.get kt) f n kv vv n' f' ∧ K .gv (h.set id (.row (g + 1) 2 n' e f')))
   | .dead => False
  | _, _ => False
 | .call ⟨.builtin .append, args, ts⟩ => match args.toList, ts.toList with
  | [s, x], [t, tx] => match T.get t, T.get tx with
   | .slice e sz bytes _, .slice _ _ _ _ => mM e sz bytes (ev env s) (ev env x) h K
   | .slice e sz bytes _, .str => mM e sz bytes (ev env s) (ev env x) h K
   | _, _ => False
  | _, _ => False
 | .call ⟨.builtin .copy, args, ts⟩ => match args.toList, ts.toList with
  | [s, x], [t, tx] => match T.get t, T.get tx with
   | .slice e sz _ _, .slice _ _ _ _ => xo e sz (ev env s) (ev env x) h K
   | .slice e sz _ _, .str => xo e sz (ev env s) (ev env x) h K
   | _, _ => False
  | _, _ => False
 | .call ⟨.value fo, args, _⟩ => match ev env fo with
  | .fn f => cK (args.toList.all (fun x => kI (ev env x))) (su P f (args.toList.map (ev env)) h K)
  | .lv f bs => cK (args.toList.all (fun x => kI (ev env x))) (su P f (args.toList.map (ev env) ++ bs.map fun p => .aL p.1 p.2 0 0) h K)
  | _ => False
 | op => bH T op env h (fun v => K v h)
def ng (P : Program) (T : lO) (all : List Oper) (K : Env → List ar → Prop) (l : List Oper) : Env → List ar → Prop :=
 List.rec (motive := fun _ => Env → List ar → Prop) K (fun o _ ih env h => match o.guard with
  | none => pop P T o.op env h (fun v h' => ih (cy env o.dst v) h')
  | some (j, want) => match (all[j]?).bind (·.dst) with
   | some t => match env t with
    | .bool b => eK b
      (match want with
       | true => pop P T o.op (my env t (.bool true)) h (fun v h' => ih (cy (my env t (.bool true)) o.dst v) h')
       | false => ih (cy (my env t (.bool true)) o.dst (.aV [])) h)
      (match want with
       | true => ih (cy (my env t (.bool false)) o.dst (.aV [])) h
       | false => pop P T o.op (my env t (.bool false)) h (fun v h' => ih (cy (my env t (.bool false)) o.dst v) h'))
    | .aV [] => ih (cy env o.dst (.aV [])) h
    | _ => False
   | none => False) l
abbrev XQ := Exit → Env → List ar → Prop
def XQ.then (next : Env → List ar → Prop) (Q : XQ) : XQ
 | .normal, env, h => next env h
 | e, env, h => Q e env h
def XQ.inBlock (id : Nat) (Q : XQ) : XQ
 | .exit id', env, h => match Nat.beq id' id with
  | true => Q .normal env h
  | false => Q (.exit id') env h
 | e, env, h => Q e env h
def FT (h η : List ar) (k : List Nat) (env : Env) : List (Nat × PV) → Prop
 | [] => True
 | (t, v) :: r => Fz h η k (env t) v ∧ FT h η k env r
def mh (h η : List ar) (k : List Nat) (m : Nat) : Nat → List ar → List Nat → Prop
 | _, [], [] => True
 | i, o :: r, id :: r' => xh h η k m o i id ∧ mh h η k m (i + 1) r r'
 | _, _, _ => False
def pQ (m : Nat) (env : Env) (h : List ar) (σ : List (Nat × PV)) (η : List ar) : Prop :=
 ∃ k : List Nat, lE (lq η k) = true ∧ m ≤ k.length ∧ FT h η k env σ ∧ mh h η k m 0 η k
def k6 : Env := fun _ => .gv
def EC (h h1 : List ar) : Prop := ∃ (id g sz n : Nat) (e : TypeId) (f : Nat → List PV) (i j bx n' : Nat) (e' : TypeId) (f' : Nat → List PV) (F : Nat → Prop) (f1 : Nat → List PV), h[id]? = some (ar.row g sz n e f) ∧ i < n ∧
 (f i)[j]? = some (.fJ bx n' e' f' F) ∧ f1 i = (f i).set j (.own h.length 0 0 n') ∧ (∀ k, k < n → k ≠ i → f1 k = f k) ∧ h1 = h.set id (.row g sz n e f1) ++ [.row 0 bx n' e' f']
def ED (h : List ar) (id i j sub : Nat) (F : Nat → Prop) (h1 : List ar) : Prop := ∃ (g sz n : Nat) (e : TypeId) (f : Nat → List PV) (g2 lK n2 : Nat) (e2 : TypeId) (f2 f1 : Nat → List PV), h[id]? = some (ar.row g sz n e f) ∧ h[sub]? = some (ar.row g2 lK n2 e2 f2) ∧
 id ≠ sub ∧ i < n ∧ (f i)[j]? = some (.own sub g2 0 n2) ∧ (∀ k, k < n2 → ∀ c, c ∈ f2 k → cc c = true ∨ eL c = true) ∧ f1 i = (f i).set j (.fJ lK n2 e2 f2 F) ∧ (∀ k, k < n → k ≠ i → f1 k = f k) ∧
 h1 = (h.set id (.row g sz n e f1)).set sub .dead
inductive mL (m : Nat) (body : (Env → List ar → Prop) → Env → List ar → Prop) : Env → List ar → Prop
 | take {env : Env} {h : List ar} (σ : List (Nat × PV)) (η : List ar) (ht : pQ m env h σ η) (hk : mL m body (ur k6 σ) η) : mL m body env h
 | step {env : Env} {h : List ar} (N : Env → List ar → Prop) (hN : ∀ e h', N e h' → mL m body e h') (hb : body N env h) : mL m body env h
 | ex {env : Env} {h : List ar} (h1 : List ar) (hx : EC h h1) (hk : mL m body env h1) : mL m body env h
 | ab {env : Env} {h : List ar} (id i j sub : Nat) (h1 : (Nat → Prop) → List ar) (ha : ∀ F, ED h id i j sub F (h1 F)) (hk : ∀ F, mL m body env (h1 F)) : mL m body env h
def aG (m : Nat) (body : (Env → List ar → Prop) → Env → List ar → Prop) (σ : List (Nat × PV)) (η : List ar) : Prop := mL m body (ur k6 σ) η
inductive loopGo (m : Nat) (body : (Env → List ar → Prop) → Env → List ar → Prop) (env : Env) : List ar → Prop
 | mk {h : List ar} (σ : List (Nat × PV)) (η : List ar) (ht : pQ m env h σ η) (hk : aG m body σ η) : loopGo m body env h
 | ex {h : List ar} (h1 : List ar) (hx : EC h h1) (hk : loopGo m body env h1) : loopGo m body env h
 | ab {h : List ar} (id i j sub : Nat) (h1 : (Nat → Prop) → List ar) (ha : ∀ F, ED h id i j sub F (h1 F)) (hk : ∀ F, loopGo m body env (h1 F)) : loopGo m body env h
theorem loopGo.to {m : Nat} {body : (Env → List ar → Prop) → Env → List ar → Prop} {env : Env} {h : List ar} (hg : loopGo m body env h) : mL m body env h := by
 induction hg with
 | mk σ η ht hk => exact .take σ η ht hk
 | ex h1 hx hk ih => exact .ex h1 hx ih
 | ab id i j sub h1 ha hk ih => exact .ab id i j sub h1 ha ih
theorem aG.enter {m : Nat} {body : (Env → List ar → Prop) → Env → List ar → Prop} {env : Env} {h : List ar} (σ : List (Nat × PV)) (η : List ar) (ht : pQ m env h σ η) (hk : aG m body σ η) : mL m body env h := .take σ η ht hk
theorem aG.round {m : Nat} {body : (Env → List ar → Prop) → Env → List ar → Prop} {σ : List (Nat × PV)} {η : List ar} (hb : body (loopGo m body) (ur k6 σ) η) : aG m body σ η :=
 .step (loopGo m body) (fun _ _ hg => hg.to) hb
inductive ta (m : Nat) (J : List (Nat × PV) → List ar → Prop) (env : Env) : List ar → Prop
 | mk {h : List ar} (σ : List (Nat × PV)) (η : List ar) (ht : pQ m env h σ η) (hj : J σ η) : ta m J env h
 | ex {h : List ar} (h1 : List ar) (hx : EC h h1) (hk : ta m J env h1) : ta m J env h
 | ab {h : List ar} (id i j sub : Nat) (h1 : (Nat → Prop) → List ar) (ha : ∀ F, ED h id i j sub F (h1 F)) (hk : ∀ F, ta m J env (h1 F)) : ta m J env h
inductive pR (m : Nat) (A B : XQ → Env → List ar → Prop) (Q : XQ) (env : Env) : List ar → Prop
 | direct {h : List ar} (hd : A (XQ.then (B Q) Q) env h) : pR m A B Q env h
 | cut {h : List ar} (J : List (Nat × PV) → List ar → Prop) (ha : A (XQ.then (ta m J) Q) env h) (hb : ∀ σ η, J σ η → B Q (ur k6 σ) η) : pR m A B Q env h
 | ex {h : List ar} (h1 : List ar) (hx : EC h h1) (hk : pR m A B Q env h1) : pR m A B Q env h
 | ab {h : List ar} (id i j sub : Nat) (h1 : (Nat → Prop) → List ar) (ha : ∀ F, ED h id i j sub F (h1 F)) (hk : ∀ F, pR m A B Q env (h1 F)) : pR m A B Q env h
def zp : Op → Bool
 | .call ⟨.value _, _, _⟩ => false
 | .call ⟨.builtin .append, _, _⟩ => false
 | .call ⟨.builtin .copy, _, _⟩ => false
 | .store _ _ _ => false
 | .box _ _ => false
 | .alloc _ => false
 | .makeSlice _ _ _ => false
 | .buildSlice _ _ _ => false
 | .makeMap _ _ => false
 | .mapUpdate _ _ _ _ => false
 | _ => true
def sg : PV → Bool
 | .int _ _ => true
 | .bool _ => true
 | .str _ => true
 | .bm => true
 | _ => false
def Oj (P : Program) (fo : PV) (args : List PV) (h : List ar) (K : PV → Prop) : Prop :=
 match fo with
 | .fn f => cK (args.all kI) (∃ (ke : List PV) (v : PV), vn h [] [] args ke ∧ ke.all kI = true ∧ ACall P f ke [] (fun res _ => res = v) ∧ cK (sg v) (K v))
 | _ => False
def qop (P : Program) (T : lO) (op : Op) (env : Env) (h : List ar) (K : PV → Prop) : Prop :=
 match op with
 | .call ⟨.value fo, args, _⟩ => Oj P (ev env fo) (args.toList.map (ev env)) h K
 | op => bH T op env h K
def rI (P : Program) (T : lO) (all : List Oper) (h : List ar) (K : Env → Prop) (l : List Oper) : Env → Prop :=
 List.rec (motive := fun _ => Env → Prop) K (fun o _ ih env => match o.guard with
  | none => qop P T o.op env h (fun v => ih (cy env o.dst v))
  | some (j, want) => match (all[j]?).bind (·.dst) with
   | some t => match env t with
    | .bool b => eK b
      (match want with
       | true => qop P T o.op (my env t (.bool true)) h (fun v => ih (cy (my env t (.bool true)) o.dst v))
       | false => ih (cy (my env t (.bool true)) o.dst (.aV [])))
      (match want with
       | true => ih (cy (my env t (.bool false)) o.dst (.aV []))
       | false => qop P T o.op (my env t (.bool false)) h (fun v => ih (cy (my env t (.bool false)) o.dst v)))
    | .aV [] => ih (cy env o.dst (.aV []))
    | _ => False
   | none => False) l
def je : List Nat → Nat → Bool
 | [], _ => false
 | a :: r, x => match Nat.beq a x with
  | true => true
  | false => je r x
def R3 (done : List Nat) : Nat → List Oper → List Nat
 | _, [] => []
 | j, o :: r => match je done j || !(o.after.toList.all fun e => !(Region.binds .any e) || je done e.on) with
  | true => R3 done (j + 1) r
  | false => j :: R3 done (j + 1) r
def acE : List Nat → (Nat → Prop) → Prop
 | [], _ => True
 | [i], F => F i
 | i :: r, F => F i ∧ acE r F
def acF (P : Program) (T : lO) (all : List Oper) (K : Env → List ar → Prop) : Nat → List Nat → Env → List ar → Prop
 | 0, _, env, h => K env h
 | f + 1, done, env, h => acE (R3 done 0 all) (fun i => match all[i]? with
  | some o => ng P T all (fun env' h' => acF P T all K f (i :: done) env' h') [o] env h
  | none => False)
def Ol (ops : Array Oper) : Nat → Array Bool → List Nat → Bool
 | 0, listed, _ => (Region.ready .any ops listed).isEmpty
 | f + 1, listed, done => !(Region.ready .any ops listed).isEmpty && (Region.ready .any ops listed).all (fun i => je (R3 done 0 ops.toList) i && Ol ops f (listed.setIfInBounds i true) (i :: done))
def oM : PV → List Nat
 | .own id _ _ _ => [id]
 | .aL id _ _ _ => [id]
 | .lj id => [id]
 | .lv _ bs => bs.map (·.1)
 | _ => []
def iR (env : Env) (op : Op) : List Nat := match op with | .move _ => [] | _ => op.operands.toList.flatMap fun x => oM (ev env x)
def Oo (o : Oper) : List Nat := o.after.toList.filterMap fun e => match Region.binds .any e with | true => some e.on | false => none
def bg (all : List Oper) (i : Nat) : List Nat := match all[i]? with | some o => Oo o | none => []
def cd : List (Nat × List Nat) → Nat → List Nat
 | [], _ => []
 | (j, A) :: r, i => match Nat.beq j i with | true => A | false => cd r i
def ddL : List Nat → List Nat → List Nat
 | [], acc => acc
 | a :: r, acc => match je acc a with | true => ddL r acc | false => ddL r (a :: acc)
def qz (all : List Oper) : List (Nat × Bool) → List (Nat × List Nat) → List (Nat × List Nat)
 | [], t => t
 | (i, _) :: r, t => qz all r ((i, ddL (bg all i ++ (bg all i).flatMap (cd t)) []) :: t)
def mN (ops : Array Oper) (i j : Nat) : Bool := match ops[i]?, ops[j]? with | some x, some y => Oper.apart ops x y | _, _ => false
def dr (ops : Array Oper) (t : List (Nat × List Nat)) (p i : Nat × Bool) : Bool :=
 !(Nat.beq p.1 i.1) && !(je (bg ops.toList p.1) i.1) && (je (bg ops.toList i.1) p.1 || (mN ops p.1 i.1 && (p.2 || je (cd t i.1) p.1)))
def br (ops : Array Oper) (t : List (Nat × List Nat)) : List (Nat × Bool) → Bool
 | [] => true
 | p :: r => r.all (dr ops t p) && br ops t r
def Ge (ops : Array Oper) (ord : List (Nat × Bool)) : Bool :=
 Nat.beq ord.length ops.size && (List.range ops.size).all (fun j => je (ord.map (·.1)) j) && ord.all (fun p => Nat.blt p.1 ops.size && (bg ops.toList p.1).all (fun d => Nat.blt d ops.size && !(Nat.beq d p.1))) && br ops (qz ops.toList ord []) ord
def A9 (h h' : List ar) (K : Prop) : List Nat → Prop
 | [] => K
 | id :: r => bV h id = bV h' id ∧ A9 h h' K r
def k7 (anc : List Nat) (h h' : List ar) (K : Prop) : List (Nat × List Nat) → Prop
 | [] => K
 | (j, ids) :: r => match je anc j with
  | true => k7 anc h h' K r
  | false => A9 h h' (k7 anc h h' K r) ids
def yz (P : Program) (T : lO) (st : Bool) (op : Op) (env : Env) (h : List ar) (G : PV → List ar → Prop) : Prop :=
 match st with
 | true => bH T op env h (fun v => G v h)
 | false => pop P T op env h G
def mP (P : Program) (T : lO) (all : List Oper) (st : Bool) (o : Oper) (F : Env → PV → List ar → Prop) (env : Env) (h : List ar) : Prop :=
 match o.guard with
 | none => yz P T st o.op env h (F env)
 | some (j, want) => match (all[j]?).bind (·.dst) with
  | some t => match env t with
   | .bool b => eK b
     (match want with
      | true => yz P T st o.op (my env t (.bool true)) h (F (my env t (.bool true)))
      | false => F (my env t (.bool true)) (.aV []) h)
     (match want with
      | true => F (my env t (.bool false)) (.aV []) h
      | false => yz P T st o.op (my env t (.bool false)) h (F (my env t (.bool false))))
   | .aV [] => F env (.aV []) h
   | _ => False
  | none => False
def fw (P : Program) (T : lO) (all : List Oper) (t : List (Nat × List Nat)) (K : Env → List ar → Prop) (l : List (Nat × Bool)) : List (Nat × List Nat) → Env → List ar → Prop :=
 List.rec (motive := fun _ => List (Nat × List Nat) → Env → List ar → Prop) (fun _ env h => K env h) (fun p _ ih a6 env h => match all[p.1]? with
  | some o => match p.2 with
   | true => mP P T all true o (fun env' v h' => ih ((p.1, iR env' o.op) :: a6) (cy env' o.dst v) h') env h
   | false => mP P T all false o (fun env' v h' => k7 (cd t p.1) h h' (ih a6 (cy env' o.dst v) h') a6) env h
  | none => False) l
def C4 (ops : Array Oper) (ord : List (Nat × Bool)) (x : Nat) (ra : List (Nat × Bool)) (y : Nat) (rb : List (Nat × Bool)) : Bool :=
 Nat.beq (ord.length + (ra.length + 1)) ops.size && Nat.beq rb.length ra.length && (List.range ops.size).all (fun j => je ((ord ++ (x, false) :: ra).map (·.1)) j) && (ord ++ (x, false) :: ra).all (fun p => Nat.blt p.1 ops.size && (bg ops.toList p.1).all (fun d => Nat.blt d ops.size && !(Nat.beq d p.1))) &&
  br ops (qz ops.toList (ord ++ (x, false) :: ra) []) (ord ++ ra) && br ops (qz ops.toList (ord ++ (x, false) :: ra) []) (ord ++ rb) &&
  ord.all (fun p => dr ops (qz ops.toList (ord ++ (x, false) :: ra) []) p (x, false) && dr ops (qz ops.toList (ord ++ (x, false) :: ra) []) p (y, false) && (bg ops.toList p.1).all (fun d => !(je (((x, false) :: ra).map (·.1)) d))) &&
  (((x, false) :: ra).map (·.1)).all (fun j => je (((y, false) :: rb).map (·.1)) j) && (((y, false) :: rb).map (·.1)).all (fun j => je (((x, false) :: ra).map (·.1)) j) &&
  (bg ops.toList x).all (fun d => !(je (((x, false) :: ra).map (·.1)) d)) && !(je (ra.map (·.1)) x) && !(je (rb.map (·.1)) y) &&
  ra.all (fun p => Nat.beq p.1 y || je (cd (qz ops.toList (ord ++ (x, false) :: ra) []) p.1) x || je (cd (qz ops.toList (ord ++ (x, false) :: ra) []) p.1) y)
def fw2 (P : Program) (T : lO) (all : List Oper) (t : List (Nat × List Nat)) (A B : List (Nat × Bool)) (K : Env → List ar → Prop) (l : List (Nat × Bool)) : List (Nat × List Nat) → Env → List ar → Prop :=
 List.rec (motive := fun _ => List (Nat × List Nat) → Env → List ar → Prop) (fun a6 env h => fw P T all t K A a6 env h ∧ fw P T all t K B a6 env h) (fun p _ ih a6 env h => match all[p.1]? with
  | some o => match p.2 with
   | true => mP P T all true o (fun env' v h' => ih ((p.1, iR env' o.op) :: a6) (cy env' o.dst v) h') env h
   | false => mP P T all false o (fun env' v h' => k7 (cd t p.1) h h' (ih a6 (cy env' o.dst v) h') a6) env h
  | none => False) l
def fwE (P : Program) (T : lO) (all : List Oper) (t : List (Nat × List Nat)) (E : List (Nat × List Nat) → Env → List ar → Prop) (l : List (Nat × Bool)) : List (Nat × List Nat) → Env → List ar → Prop :=
 List.rec (motive := fun _ => List (Nat × List Nat) → Env → List ar → Prop) (fun a6 env h => E a6 env h) (fun p _ ih a6 env h => match all[p.1]? with
  | some o => match p.2 with
   | true => mP P T all true o (fun env' v h' => ih ((p.1, iR env' o.op) :: a6) (cy env' o.dst v) h') env h
   | false => mP P T all false o (fun env' v h' => k7 (cd t p.1) h h' (ih a6 (cy env' o.dst v) h') a6) env h
  | none => False) l
def RQ (ops : Array Oper) (t : List (Nat × List Nat)) (ord : List (Nat × Bool)) (x y : Nat) (RX RY : List Nat) : Bool :=
 Nat.beq RX.length RY.length && ord.all (fun p => dr ops t p (x, false) && dr ops t p (y, false) && (bg ops.toList p.1).all (fun d => !(je (x :: RX) d)) && !(je (x :: RX) p.1)) &&
  (x :: RX).all (fun j => je (y :: RY) j) && (y :: RY).all (fun j => je (x :: RX) j) && (bg ops.toList x).all (fun d => !(je (x :: RX) d)) && !(je RX x) && !(je RY y) &&
  RX.all (fun j => Nat.beq j y || je (cd t j) x || je (cd t j) y)
def xB (ops : Array Oper) (ord : List (Nat × Bool)) (x : Nat) (o1 : List (Nat × Bool)) (x1 : Nat) (tC : List (Nat × Bool)) (y1 : Nat) (C3 : List (Nat × Bool)) (y : Nat) (rb : List (Nat × Bool)) : Bool :=
 (fun all => (fun t => Nat.beq all.length ops.size && (List.range ops.size).all (fun j => je (all.map (·.1)) j) && all.all (fun p => Nat.blt p.1 ops.size && (bg ops.toList p.1).all (fun d => Nat.blt d ops.size && !(Nat.beq d p.1))) &&
  br ops t ((ord ++ o1) ++ tC) && br ops t ((ord ++ o1) ++ C3) && br ops t (ord ++ rb) &&
  RQ ops t ord x y (o1.map (·.1) ++ x1 :: tC.map (·.1)) (rb.map (·.1)) && RQ ops t (ord ++ o1) x1 y1 (tC.map (·.1)) (C3.map (·.1))) (qz ops.toList all [])) (ord ++ (x, false) :: (o1 ++ (x1, false) :: tC))
def fw3 (P : Program) (T : lO) (all : List Oper) (t : List (Nat × List Nat)) (x : Nat) (o1 : List (Nat × Bool)) (x1 : Nat) (tC : List (Nat × Bool)) (y1 : Nat) (C3 : List (Nat × Bool)) (y : Nat) (rb : List (Nat × Bool)) (K : Env → List ar → Prop) (l : List (Nat × Bool)) : List (Nat × List Nat) → Env → List ar → Prop :=
 fwE P T all t (fun a6 env h => fwE P T all t (fun a6 env h => fw P T all t K ((x1, false) :: tC) a6 env h ∧ fw P T all t K ((y1, false) :: C3) a6 env h) ((x, false) :: o1) a6 env h ∧ fw P T all t K ((y, false) :: rb) a6 env h) l
inductive rL (P : Program) (T : lO) (m : Nat) (ops : Array Oper) (K : Env → List ar → Prop) (env : Env) (h : List ar) : Prop
 | quiet (hq : rI P T ops.toList h (fun env' => K env' h) ops.toList env) : rL P T m ops K env h
 | orders (σ : List (Nat × PV)) (η : List ar) (hc : Ol ops ops.size (Array.replicate ops.size false) [] = true) (hd : acF P T ops.toList (fun env' h' => pQ m env' h' σ η) ops.toList.length [] env h)
   (hk : K (ur k6 σ) η) : rL P T m ops K env h
 | acG (ord : List (Nat × Bool)) (x : Nat) (ra : List (Nat × Bool)) (y : Nat) (rb : List (Nat × Bool)) (hc : C4 ops ord x ra y rb = true) (hf : fw2 P T ops.toList (qz ops.toList (ord ++ (x, false) :: ra) []) ((x, false) :: ra) ((y, false) :: rb) K ord [] env h) : rL P T m ops K env h
 | acH (ord : List (Nat × Bool)) (x : Nat) (o1 : List (Nat × Bool)) (x1 : Nat) (tC : List (Nat × Bool)) (y1 : Nat) (C3 : List (Nat × Bool)) (y : Nat) (rb : List (Nat × Bool)) (hc : xB ops ord x o1 x1 tC y1 C3 y rb = true)
   (hf : fw3 P T ops.toList (qz ops.toList (ord ++ (x, false) :: (o1 ++ (x1, false) :: tC)) []) x o1 x1 tC y1 C3 y rb K ord [] env h) : rL P T m ops K env h
 | float (ord : List (Nat × Bool)) (hc : Ge ops ord = true) (hf : fw P T ops.toList (qz ops.toList ord []) K ord [] env h) : rL P T m ops K env h
def Ow (Q : XQ) (env : Env) (h : List ar) : Prop := Q .normal env h
def aoX (Q : XQ) (h : List ar) (env : Env) : Prop := Q .normal env h
def vc (P : Program) (T : lO) (m : Nat) (c : Code) : XQ → Env → List ar → Prop :=
 Code.rec (motive := fun _ => XQ → Env → List ar → Prop)
  (fun Q env h => Q .normal env h)
  (fun _ ops d Q env h => match d with
   | false => ng P T ops.toList (Q .normal) ops.toList env h
   | true => match ops.toList.all (fun o => zp o.op) with
    | true => rI P T ops.toList h (aoX Q h) ops.toList env
    | false => rL P T m ops (Ow Q) env h)
  (fun _ _ iha ihb Q env h => pR m iha ihb Q env h)
  (fun c _ _ iha ihb Q env h => match ev env c with
   | .bool t => eK t (iha Q env h) (ihb Q env h)
   | _ => False)
  (fun id _ ih Q env h => ih (XQ.inBlock id Q) env h)
  (fun _ ih Q env h => mL m (fun next => ih (XQ.then next Q)) env h)
  (fun _ _ _ _ _ _ _ _ _ => False)
  (fun id Q env h => Q (.exit id) env h)
  (fun _ _ _ _ _ => False)
  (fun _ Q env h => Q .normal env h)
  (fun _ _ _ _ => False)
  (fun Q env h => Q .ret env h)
  (fun _ _ _ _ => False) c
def codeOk (nt : Nat) : Code → Bool
 | .region _ ops d => ops.toList.all (fun o => match o.dst with | some t => Nat.blt t nt | none => true) && (!d || Region.lexB .any ops)
 | .seq a b => codeOk nt a && codeOk nt b
 | .cond _ a b => codeOk nt a && codeOk nt b
 | .block _ c => codeOk nt c
 | .loop c => codeOk nt c
 | _ => true
def qj (T : lO) (env : Env) (h : List ar) : List ResultVar → (List PV → Prop) → Prop
 | [], K => K []
 | .tmp t :: r, K => qj T env h r (fun vs => K (env t :: vs))
 | .cell t ty :: r, K => sR T ty (env t) h (fun v => qj T env h r (fun vs => K (v :: vs)))
def oneOf : List PV → PV
 | [v] => v
 | vs => .aV vs
inductive Ends (m : Nat) (R : PV → List ar → Prop) : List ar → List PV → Prop
 | mk {h : List ar} {vs : List PV} (hn : vs.all kI = true) (k : List Nat) (res : PV) (η : List ar) (hk : lE (lq η k) = true) (hm : m ≤ k.length) (hz : Fz h η k (oneOf vs) res) (hh : mh h η k m 0 η k) (hR : R res η) : Ends m R h vs
 | ex {h : List ar} {vs : List PV} (h1 : List ar) (hx : EC h h1) (hk : Ends m R h1 vs) : Ends m R h vs
 | ab {h : List ar} {vs : List PV} (id i j sub : Nat) (h1 : (Nat → Prop) → List ar) (ha : ∀ F, ED h id i j sub F (h1 F)) (hk : ∀ F, Ends m R (h1 F) vs) : Ends m R h vs
def aoE (T : lO) (rs : List ResultVar) (m : Nat) (R : PV → List ar → Prop) : XQ
 | .ret, env, h => qj T env h rs (Ends m R h)
 | .normal, env, h => qj T env h rs (Ends m R h)
 | _, _, _ => False
def pT (args : List PV) : Env := fun t => args.getD t .gv
def EL (env env' : Env) (op : Op) : Prop := ∀ x, x ∈ op.operands.toList → ev env x = ev env' x
def acJ (h h' : List ar) (env : Env) (op : Op) : Prop := ∀ x, x ∈ op.operands.toList → ∀ id, id ∈ oM (ev env x) → bV h id = bV h' id
theorem hZ {v : PV} {K : PV → Prop} (h : K v) : force v K := by cases v <;> exact h
theorem xH {env env' : Env} {sz : Nat} {fl : List (Nat × Nat × Bool)} {K : List PV → Prop} : ∀ (l : List (Nat × Operand)) (acc : List PV), (∀ p, p ∈ l → ev env p.2 = ev env' p.2) → l8 env sz fl K l acc = l8 env' sz fl K l acc
 | [], acc, _ => rfl
 | (k, x) :: r, acc, hs => by
  have e := hs (k, x) avj
  simp only at e
  unfold l8
  rw [e]
  split
  ·congr 1
   funext v
   rw [xH r _ (fun p hp => hs p (asO _ hp))]
  ·rfl
theorem xI {env env' : Env} {sz : Nat} {K : List (List PV) → Prop} : ∀ (l : List (Nat × Operand)) (acc : List (List PV)), (∀ p, p ∈ l → ev env p.2 = ev env' p.2) → nn env sz K l acc = nn env' sz K l acc
 | [], acc, _ => rfl
 | (k, x) :: r, acc, hs => by
  have e := hs (k, x) avj
  simp only at e
  unfold nn
  rw [e]
  congr 1
  funext v
  rw [xI r _ (fun p hp => hs p (asO _ hp))]
theorem EM {env env' : Env} {o : Option Operand} (hs : ∀ x, o = some x → ev env x = ev env' x) : o.map (ev env) = o.map (ev env') := by
 cases o with
 | none => rfl
 | some x => simp [hs x rfl]
theorem zw {env env' : Env} {K : List (Nat × Nat) → Prop} : ∀ (l : List Operand) (acc : List (Nat × Nat)), (∀ x, x ∈ l → ev env x = ev env' x) → pI env K l acc = pI env' K l acc
 | [], _, _ => rfl
 | x :: r, acc, hs => by
  unfold pI
  rw [hs x avj]
  split
  ·exact zw r _ (fun y hy => hs y (asO _ hy))
  ·rfl
theorem tv {T : lO} {env env' : Env} {h : List ar} {K : PV → Prop} (op : Op) (hs : EL env env' op) : bH T op env h K = bH T op env' h K := by
 cases op with
 | move x => simp only [bH, hs x avk]
 | assign x => simp only [bH, hs x avk]
 | pick c a b => simp only [bH, hs c avk, hs a avk, hs b avk]
 | binOp bo t x y t' => simp only [bH, hs x avk, hs y avk]
 | unOp u t x => simp only [bH, hs x avk]
 | load t a => simp only [bH, hs a avk]
 | convert s d x => simp only [bH, hs x avk]
 | nilCheck x => simp only [bH, hs x avk]
 | fieldAddr s x k => simp only [bH, hs x avk]
 | field s x k => simp only [bH, hs x avk]
 | build t parts =>
  have e : ∀ sz fl (K : List PV → Prop) z, l8 env sz fl K parts.toList z = l8 env' sz fl K parts.toList z := fun sz fl K z => xH _ _ (fun p hp => hs p.2 avQ)
  simp only [bH, e]
 | indexAddr t x i => simp only [bH, hs x avk, hs i avk]
 | index t x i => simp only [bH, hs x avk, hs i avk]
 | extract x i => simp only [bH, hs x avk]
 | lookup t x i ok => simp only [bH, hs x avk, hs i avk]
 | makeFunc fn first captured =>
  have e : ∀ (K : List (Nat × Nat) → Prop) acc, pI env K captured.toList acc = pI env' K captured.toList acc := fun K acc => zw _ _ (fun x hx => hs x (by simp [Op.operands]; right; simpa using hx))
  simp only [bH, e]
 | slice t x lo hi mx =>
  have e1 : lo.map (ev env) = lo.map (ev env') := EM (fun y hy => hs y avK)
  have e2 : hi.map (ev env) = hi.map (ev env') := EM (fun y hy => hs y avK)
  have e3 : mx.map (ev env) = mx.map (ev env') := EM (fun y hy => hs y avK)
  simp only [bH, hs x avk, e1, e2, e3]
 | call c =>
  obtain ⟨callee, args, ts⟩ := c
  cases callee with
  | builtin b =>
   cases b with
   | len =>
    simp only [bH]
    split
    ·rename_i x t hx ht
     have e := hs x (by simp [Op.operands, Call.operands]; have : x ∈ args.toList := (by rw [hx]; simp); simpa using this)
     rw [e]
    ·rfl
   | _ => rfl
  | _ => rfl
 | _ => rfl
theorem Ip {T : lO} {env : Env} {h h' : List ar} {K : PV → Prop} (op : Op) (hs : acJ h h' env op) : bH T op env h K = bH T op env h' K := by
 cases op with
 | load t a =>
  have q := hs a avk
  simp only [bH]
  revert q
  generalize ev env a = v
  intro q
  cases v with
  | aL id g i o => simp only [sR, q id avy]
  | _ => rfl
 | convert s d x =>
  have q := hs x avk
  simp only [bH]
  revert q
  generalize ev env x = v
  intro q
  have e : ∀ K, rp v h K = rp v h' K := fun K => by
   cases v with
   | own id g i o => simp only [rp, q id avy]
   | _ => rfl
  generalize T.get s = ti
  generalize T.get d = td
  cases ti with
  | slice a b c z => cases td with
   | str => simp only [e]
   | _ => rfl
  | int k => cases td <;> cases v <;> rfl
  | _ => rfl
 | nilCheck x =>
  have q := hs x avk
  simp only [bH]
  revert q
  generalize ev env x = v
  intro q
  cases v with
  | aL id g i o => simp only [q id avy]
  | _ => rfl
 | fieldAddr s x k =>
  have q := hs x avk
  simp only [bH]
  revert q
  generalize ev env x = v
  intro q
  cases v with
  | aL id g i o => simp only [q id avy]
  | _ => rfl
 | indexAddr t x i =>
  have q := hs x avk
  simp only [bH]
  revert q
  generalize ev env x = v
  generalize ev env i = u
  generalize T.get t = ti
  intro q
  cases ti with
  | slice e sz b z => cases v with
   | own id g o l => cases u with
    | int k n => simp only [q id avy]
    | _ => rfl
   | eG a b c => cases u <;> rfl
   | _ => rfl
  | _ => rfl
 | lookup t x i ok =>
  have q := hs x avk
  simp only [bH]
  revert q
  generalize ev env x = v
  generalize T.get t = ti
  intro q
  cases ti with
  | map k e z => cases v with
   | lj id => simp only [q id avy]
   | _ => rfl
  | _ => cases v <;> rfl
 | slice t x lo hi mx =>
  have q := hs x avk
  simp only [bH]
  revert q
  generalize ev env x = v
  generalize T.get t = ti
  intro q
  cases ti with
  | slice e sz b z => cases v with
   | own id g o l => simp only [q id avy]
   | _ => rfl
  | str => cases v <;> rfl
  | _ => rfl
 | call c =>
  obtain ⟨callee, args, ts⟩ := c
  cases callee with
  | builtin b =>
   cases b with
   | len =>
    simp only [bH]
    split
    ·rename_i x t hx ht
     have q := hs x (by simp [Op.operands, Call.operands]; have : x ∈ args.toList := (by rw [hx]; simp); simpa using this)
     revert q
     generalize ev env x = v
     generalize T.get t = ti
     intro q
     cases ti with
     | slice e sz b z => cases v with
      | own id g o l => simp only [q id avy]
      | _ => rfl
     | map k e z => cases v with
      | lj id => simp only [q id avy]
      | _ => rfl
     | str => cases v <;> rfl
     | _ => rfl
    ·rfl
   | _ => rfl
  | _ => rfl
 | _ => rfl
def One (F : (PV → Prop) → Prop) : Prop := ∀ K, F K → ∃ v, K v ∧ ∀ K', K' v → F K'
theorem nP (v : PV) : One (force v) := fun K h => ⟨v, bw h, fun K' hk => hZ hk⟩
theorem aP (v : PV) : One (fun K => K v) := fun K h => ⟨v, h, fun _ hk => hk⟩
theorem cj {A : Prop} {F : (PV → Prop) → Prop} (h : One F) : One (fun K => A ∧ F K) := fun K hk =>
 let ⟨v, h1, h2⟩ := h K hk.2
 ⟨v, h1, fun K' qw => ⟨hk.1, h2 K' qw⟩⟩
theorem fx {b : Bool} {F : (PV → Prop) → Prop} (h : One F) : One (fun K => cK b (F K)) := fun K hk => by
 cases b with
 | true => exact h K hk
 | false => exact hk.elim
theorem p8 {α : Type} {A : α → Prop} {F : α → (PV → Prop) → Prop} (h : ∀ c, One (F c)) : One (fun K => ∃ c, A c ∧ F c K) := fun K ⟨c, ha, hk⟩ =>
 let ⟨v, h1, h2⟩ := h c K hk
 ⟨v, h1, fun K' qw => ⟨c, ha, h2 K' qw⟩⟩
theorem xJ {F : (PV → Prop) → Prop} (h : One F) : One (fun K => F (Cs K)) := fun K hk => by
 obtain ⟨v, h1, h2⟩ := h _ hk
 cases v with
 | eG sz n f =>
  obtain ⟨n', f', e1, e2, hK⟩ := h1
  exact ⟨.eG sz n' f', hK, fun K' qw => h2 _ ⟨n', f', e1, e2, qw⟩⟩
 | own id g off n =>
  obtain ⟨o', n', e1, e2, hK⟩ := h1
  exact ⟨.own id g o' n', hK, fun K' qw => h2 _ ⟨o', n', e1, e2, qw⟩⟩
 | str s =>
  obtain ⟨s', e1, hK⟩ := h1
  exact ⟨.str s', hK, fun K' qw => h2 _ ⟨s', e1, qw⟩⟩
 | _ => exact ⟨_, h1, fun K' qw => h2 _ qw⟩
theorem uw {K : List PV → Prop} : ∀ (n : Nat) (l acc : List PV), n ≤ l.length → K (acc.reverse ++ l.take n) → zu K n l acc
 | 0, l, acc, _, h => by unfold zu; simpa using h
 | n + 1, [], acc, hl, _ => by simp at hl
 | n + 1, c :: r, acc, hl, h => hZ (uw n r (c :: acc) avN avx)
theorem xK (T : lO) (t : Nat) (cells : List PV) : One (tV T t cells) := fun K hk => by
 unfold tV at hk ⊢
 generalize T.get t = q1 at hk ⊢
 cases q1 with
 | struct sz fl z =>
  obtain ⟨h1, h2⟩ := l7 _ _ _ hk
  exact ⟨_, h2, fun K' qw => uw _ _ _ h1 qw⟩
 | other => exact hk.elim
 | _ =>
  cases cells with
  | nil => exact hk.elim
  | cons c r => exact nP c K hk
theorem Iq (T : lO) (t : Nat) (a : PV) (h : List ar) : One (sR T t a h) := fun K hk => by
 cases a with
 | eh cells => exact xK T t cells K hk
 | aL id gen i off =>
  simp only [sR] at hk ⊢
  generalize bV h id = q2 at hk ⊢
  cases q2 with
  | row g sz n e f => exact cj (p8 (fun c => xK T t _)) K hk
  | dead => exact hk.elim
 | _ => exact hk.elim
theorem OI (ti : TI) (bo : BinOp) (x y : PV) : One (GM ti bo x y) := fun K hk => by
 cases x with
 | int k a => cases y with
  | int k' b =>
   cases bo with
   | shl => exact cj (aP _) K hk
   | shr => exact cj (aP _) K hk
   | quo => exact fx (cj (aP _)) K hk
   | rem => exact fx (cj (aP _)) K hk
   | _ => exact fx (aP _) K hk
  | _ => exact hk.elim
 | bool a => cases y with
  | bool b => cases ti with
   | bool => cases bo with
    | eql => exact aP _ K hk
    | neq => exact aP _ K hk
    | _ => exact hk.elim
   | _ => exact hk.elim
  | _ => exact hk.elim
 | str a => cases y with
  | str b => cases bo with
   | add => exact cj (p8 fun c => aP _) K hk
   | eql => exact aP _ K hk
   | neq => exact aP _ K hk
   | lss => exact aP _ K hk
   | leq => exact aP _ K hk
   | gtr => exact aP _ K hk
   | geq => exact aP _ K hk
   | _ => exact hk.elim
  | _ => exact hk.elim
 | agg xs => cases y with
  | agg ys => cases ti with
   | struct sz fl z =>
    simp only [GM] at hk ⊢
    generalize uL z = fz at hk ⊢
    cases fz with
    | false => exact hk.elim
    | true =>
     simp only [cK] at hk ⊢
     generalize yW z xs ys = q at hk ⊢
     cases q with
     | none => exact hk.elim
     | some b => cases bo <;> first | exact hk.elim | exact p8 (fun c => aP _) K hk
   | _ => exact hk.elim
  | _ => exact hk.elim
 | _ => exact hk.elim
theorem rN (x : PV) (lo hi : Option PV) : One (w4 x lo hi) := fun K hk => by
 cases x with
 | eG sz n f =>
  cases lo with
  | none => cases hi with
   | none => exact aP _ K hk
   | some u => cases u <;> first | exact hk.elim | exact cj (aP _) K hk
  | some l => cases l with
   | int k l => cases hi with
    | none => exact cj (aP _) K hk
    | some u => cases u <;> first | exact hk.elim | exact cj (aP _) K hk
   | _ => cases hi <;> exact hk.elim
 | own id gen off len =>
  cases lo with
  | none => cases hi with
   | none => exact aP _ K hk
   | some u => cases u <;> first | exact hk.elim | exact cj (aP _) K hk
  | some l => cases l with
   | int k l => cases hi with
    | none => exact cj (aP _) K hk
    | some u => cases u <;> first | exact hk.elim | exact cj (aP _) K hk
   | _ => cases hi <;> exact hk.elim
 | str s =>
  cases lo with
  | none => cases hi with
   | none => exact aP _ K hk
   | some u => cases u <;> first | exact hk.elim | exact cj (aP _) K hk
  | some l => cases l with
   | int k l => cases hi with
    | none => exact cj (aP _) K hk
    | some u => cases u <;> first | exact hk.elim | exact cj (aP _) K hk
   | _ => cases hi <;> exact hk.elim
 | _ => exact hk.elim
theorem EN (v : PV) (h : List ar) : One (fun K => rp v h (fun s => K (.str s))) := fun K hk => by
 cases v with
 | bm => exact aP _ K hk
 | eG sz n f => exact fx (p8 fun s => cj (aP _)) K hk
 | own id gen off n =>
  simp only [rp] at hk ⊢
  generalize bV h id = q3 at hk ⊢
  cases q3 with
  | row g sz n e f => exact cj (fx (p8 fun s => cj (aP _))) K hk
  | dead => exact hk.elim
 | _ => exact hk.elim
theorem xL (env : Env) (sz : Nat) (fl : List (Nat × Nat × Bool)) : ∀ (l : List (Nat × Operand)) (acc : List PV), One (fun K => l8 env sz fl (fun cs => K (.agg cs)) l acc)
 | [], acc => aP _
 | (k, x) :: r, acc => fun K hk => by
  unfold l8 at hk ⊢
  generalize fl[k]? = q4 at hk ⊢
  cases q4 with
  | none => exact hk.elim
  | some p =>
   obtain ⟨o, size, b⟩ := p
   have h1 := bw hk
   obtain ⟨v, h2, h3⟩ := fx (xL env sz fl r _) K h1
   exact ⟨v, h2, fun K' qw => hZ (h3 K' qw)⟩
theorem zx {env : Env} (f : Nat) : ∀ (l : List Operand) (acc : List (Nat × Nat)), One (fun K => pI env (fun bs => K (.lv f bs)) l acc)
 | [], _ => aP _
 | x :: r, acc => fun K hk => by
  unfold pI at hk ⊢
  generalize ev env x = v at hk ⊢
  split at hk
  ·exact zx f r _ K hk
  ·exact hk.elim
theorem OJ (ti : TI) (n : Nat) (f : Nat → List PV) (kv zv : PV) (ok : Bool) : One (fun K => cK (kN ti kv kv).isSome (∃ r b, WX ti f n kv zv r b ∧ match ok with
  | true => K (.aV [r, .bool b])
  | false => force r K)) := fx (fun K hk => by
 obtain ⟨r, b, hm, hK⟩ := hk
 cases ok with
 | true => exact ⟨_, hK, fun K' qw => ⟨r, b, hm, qw⟩⟩
 | false => exact ⟨_, bw hK, fun K' qw => ⟨r, b, hm, hZ qw⟩⟩)
theorem C7 (T : lO) (op : Op) (env : Env) (h : List ar) : One (bH T op env h) := fun K hk => by
 cases op with
 | move x => exact nP _ K hk
 | assign x => exact nP _ K hk
 | pick c a b =>
  simp only [bH] at hk ⊢
  generalize ev env c = v at hk ⊢
  cases v with
  | bool t =>
   obtain ⟨h1, h2⟩ := jo hk
   cases t with
   | true => exact ⟨_, bw (h1 rfl), fun K' qw => .mk (fun _ => hZ qw) (fun h => by cases h)⟩
   | false => exact ⟨_, bw (h2 rfl), fun K' qw => .mk (fun h => by cases h) (fun _ => hZ qw)⟩
  | _ => exact hk.elim
 | binOp bo t x y t' => exact OI _ _ _ _ K hk
 | unOp u t x =>
  simp only [bH] at hk ⊢
  generalize ev env x = v at hk ⊢
  cases u <;> cases v <;> first | exact hk.elim | exact aP _ K hk
 | load t a => exact Iq _ _ _ _ K hk
 | convert s d x =>
  simp only [bH] at hk ⊢
  generalize ev env x = v at hk ⊢
  generalize T.get s = ti at hk ⊢
  generalize T.get d = td at hk ⊢
  cases ti with
  | int k => cases td with
   | int k' => cases v <;> first | exact hk.elim | exact aP _ K hk
   | _ => cases v <;> exact hk.elim
  | slice e sz b z => cases td with
   | str =>
    simp only at hk ⊢
    generalize T.get e = q5 at hk ⊢
    cases q5 with
    | int k => cases k <;> first | exact hk.elim | exact EN _ _ K hk
    | _ => exact hk.elim
   | _ => cases v <;> exact hk.elim
  | _ => cases td <;> cases v <;> exact hk.elim
 | nilCheck x =>
  simp only [bH] at hk ⊢
  generalize ev env x = v at hk ⊢
  cases v with
  | eh cs => exact aP _ K hk
  | aL id gen i off =>
   simp only at hk ⊢
   generalize bV h id = q6 at hk ⊢
   cases q6 with
   | row g sz n e f => exact cj (aP _) K hk
   | dead => exact hk.elim
  | _ => exact hk.elim
 | fieldAddr s x k =>
  simp only [bH] at hk ⊢
  generalize ev env x = v at hk ⊢
  generalize T.get s = q7 at hk ⊢
  cases q7 with
  | struct sz fl z =>
   simp only at hk ⊢
   generalize fl[k]? = q8 at hk ⊢
   cases q8 with
   | none => exact hk.elim
   | some p =>
    obtain ⟨o, a, b⟩ := p
    cases v with
    | eh cs => exact aP _ K hk
    | aL id gen i off =>
     simp only at hk ⊢
     generalize bV h id = q9 at hk ⊢
     cases q9 with
     | row g sz n e f => exact cj (aP _) K hk
     | dead => exact hk.elim
    | _ => exact hk.elim
  | _ => exact hk.elim
 | field s x k =>
  simp only [bH] at hk ⊢
  generalize ev env x = v at hk ⊢
  generalize T.get s = q7 at hk ⊢
  cases q7 with
  | struct sz fl z =>
   simp only at hk ⊢
   generalize fl[k]? = q8 at hk ⊢
   cases q8 with
   | none => exact hk.elim
   | some p =>
    obtain ⟨o, a, b⟩ := p
    cases v with
    | agg cs =>
     cases b with
     | true =>
      obtain ⟨h1, h2⟩ := l7 _ _ _ hk
      exact ⟨_, h2, fun K' qw => uw _ _ _ h1 qw⟩
     | false =>
      simp only at hk ⊢
      generalize cs.drop o = q9 at hk ⊢
      cases q9 with
      | nil => exact hk.elim
      | cons c r => exact nP c K hk
    | _ => exact hk.elim
  | _ => exact hk.elim
 | build t parts =>
  simp only [bH] at hk ⊢
  generalize T.get t = q10 at hk ⊢
  cases q10 with
  | struct sz fl z => exact xL _ _ _ _ _ K hk
  | _ => exact hk.elim
 | indexAddr t x i =>
  simp only [bH] at hk ⊢
  generalize ev env x = v at hk ⊢
  generalize ev env i = u at hk ⊢
  generalize T.get t = q11 at hk ⊢
  cases q11 with
  | slice e sz b z => cases v with
   | eG bx n f => cases u <;> first | exact hk.elim | exact fx (cj (p8 fun c => aP _)) K hk
   | own id gen off len => cases u with
    | int k n =>
     simp only at hk ⊢
     generalize bV h id = q12 at hk ⊢
     cases q12 with
     | row g sz n e f => exact cj (fx (cj (p8 fun j => aP _))) K hk
     | dead => exact hk.elim
    | _ => exact hk.elim
   | _ => cases u <;> exact hk.elim
  | _ => cases v <;> cases u <;> exact hk.elim
 | index t x i =>
  simp only [bH] at hk ⊢
  generalize ev env x = v at hk ⊢
  generalize ev env i = u at hk ⊢
  generalize T.get t = q13 at hk ⊢
  cases q13 with
  | str => cases v with
   | str s => cases u <;> first | exact hk.elim | exact cj (p8 fun c => aP _) K hk
   | _ => cases u <;> exact hk.elim
  | _ => cases v <;> cases u <;> exact hk.elim
 | extract x i =>
  simp only [bH] at hk ⊢
  generalize ev env x = v at hk ⊢
  cases v with
  | aV vs =>
   simp only at hk ⊢
   generalize vs[i]? = q14 at hk ⊢
   cases q14 with
   | none => exact hk.elim
   | some u => exact nP _ K hk
  | _ => exact hk.elim
 | makeFunc fn first captured =>
  cases fn with
  | func f => exact fx (zx f _ _) K hk
  | _ => exact hk.elim
 | lookup t x i ok =>
  simp only [bH] at hk ⊢
  generalize ev env x = v at hk ⊢
  generalize T.get t = q19 at hk ⊢
  cases q19 with
  | map kt et zv => cases v with
   | lj id =>
    simp only at hk ⊢
    generalize bV h id = q20 at hk ⊢
    cases q20 with
    | row g sz n e f =>
     obtain ⟨u, h2, h3⟩ := OJ (T.get kt) n f (ev env i) zv ok K (bw hk)
     exact ⟨u, h2, fun K' qw => hZ (h3 K' qw)⟩
    | dead => exact hk.elim
   | _ => exact hk.elim
  | _ => cases v <;> exact hk.elim
 | slice t x lo hi mx =>
  simp only [bH] at hk ⊢
  generalize ev env x = v at hk ⊢
  generalize T.get t = q15 at hk ⊢
  cases q15 with
  | slice e sz b z => cases v with
   | eG bx n f => exact fx (cj (xJ (rN _ _ _))) K hk
   | own id gen off len =>
    simp only at hk ⊢
    generalize bV h id = q16 at hk ⊢
    cases q16 with
    | row g sz n e f => exact cj (fx (cj (xJ (rN _ _ _)))) K hk
    | dead => exact hk.elim
   | _ => exact hk.elim
  | str => cases v with
   | str s => exact fx (xJ (rN _ _ _)) K hk
   | _ => exact hk.elim
  | _ => cases v <;> exact hk.elim
 | call c =>
  obtain ⟨callee, args, ts⟩ := c
  cases callee with
  | builtin b =>
   cases b with
   | len =>
    simp only [bH] at hk ⊢
    split at hk
    ·rename_i x t hx ht
     generalize ev env x = v at hk ⊢
     generalize T.get t = q17 at hk ⊢
     cases q17 with
     | slice e sz b z => cases v with
      | eG a n f => exact aP _ K hk
      | bm => exact aP _ K hk
      | own id gen off n =>
       simp only at hk ⊢
       generalize bV h id = q18 at hk ⊢
       cases q18 with
       | row g sz n e f => exact cj (aP _) K hk
       | dead => exact hk.elim
      | _ => exact hk.elim
     | str => cases v <;> first | exact hk.elim | exact aP _ K hk
     | map kt et zv => cases v with
      | lj id =>
       simp only at hk ⊢
       generalize bV h id = q18 at hk ⊢
       cases q18 with
       | row g sz n e f => exact aP _ K hk
       | dead => exact hk.elim
      | _ => exact hk.elim
     | _ => cases v <;> exact hk.elim
    ·exact hk.elim
   | _ => exact hk.elim
  | _ => exact hk.elim
 | _ => exact hk.elim
theorem mn {v : PV} {K K' : PV → Prop} (hk : ∀ v, K v → K' v) (h : force v K) : force v K' := hZ (hk _ (bw h))
theorem dz {b : Bool} {K K' : Prop} (hk : K → K') (h : cK b K) : cK b K' := by cases b; exact h; exact hk h
theorem uU {env : Env} {sz : Nat} {K K' : List (List PV) → Prop} (hk : ∀ l, K l → K' l) : ∀ (l : List (Nat × Operand)) (acc : List (List PV)), nn env sz K l acc → nn env sz K' l acc
 | [], acc, h => hk _ h
 | (k, x) :: r, acc, h => mn (fun v h => dz (uU hk r _) h) h
theorem ux {x : PV} {h : List ar} {sz : Nat} {K K' : Nat → (Nat → List PV) → Prop} (hk : ∀ n g, K n g → K' n g) (hp : CT x h sz K) : CT x h sz K' := by
 cases x with
 | bm => exact hk _ _ hp
 | eG bx m g => exact dz (hk _ _) hp
 | own id gen off m =>
  simp only [CT] at hp ⊢
  generalize bV h id = q at hp ⊢
  cases q with
  | row g bx n e f => exact ⟨hp.1, hp.2.1, dz (hk _ _) hp.2.2⟩
  | dead => exact hp
 | str s => exact dz (hk _ _) hp
 | _ => exact hp
theorem Ba {e sz bytes : Nat} {s x : PV} {h : List ar} {K K' : PV → List ar → Prop} (hk : ∀ v h', K v h' → K' v h') (hp : mM e sz bytes s x h K) : mM e sz bytes s x h K' := by
 cases s with
 | bm =>
  simp only [mM] at hp ⊢
  exact ux (fun m g ⟨h, n', f', e1, e2, h2⟩ => ⟨h, n', f', e1, e2, hk _ _ h2⟩) hp
 | own id gen off len =>
  simp only [mM] at hp ⊢
  generalize bV h id = q at hp ⊢
  cases q with
  | row g bx n e' f => exact ⟨hp.1, dz (ux (fun m g ⟨h, n', f', e1, e2, h2⟩ => ⟨h, n', f', e1, e2, hk _ _ h2⟩)) hp.2⟩
  | dead => exact hp
 | _ => exact hp
theorem EO {e sz : Nat} {s x : PV} {h : List ar} {K K' : PV → List ar → Prop} (hk : ∀ v h', K v h' → K' v h') (hp : xo e sz s x h K) : xo e sz s x h K' := by
 cases s with
 | own id gen off len =>
  simp only [xo] at hp ⊢
  generalize bV h id = q at hp ⊢
  cases q with
  | row g bx n e' f => exact ⟨hp.1, dz (ux (fun m g ⟨h, f', e2, h2⟩ => ⟨h, f', e2, hk _ _ h2⟩)) hp.2⟩
  | dead => exact hp
 | _ => exact hp
theorem nQ {T : lO} {op : Op} {env : Env} {h : List ar} {K K' : PV → Prop} (hk : ∀ v, K v → K' v) (hp : bH T op env h K) : bH T op env h K' :=
 let ⟨v, h1, h2⟩ := C7 T op env h K hp
 h2 K' (hk v h1)
theorem OK {P : Program} {T : lO} {env : Env} {h : List ar} {K K' : PV → List ar → Prop} (hk : ∀ v h', K v h' → K' v h') (op : Op) (hp : pop P T op env h K) : pop P T op env h K' := by
 cases op with
 | store t a x =>
  simp only [pop] at hp ⊢
  generalize ev env a = v at hp ⊢
  cases v with
  | aL id gen i off =>
   simp only at hp ⊢
   generalize bV h id = q at hp ⊢
   cases q with
   | row g sz n e f => exact ⟨hp.1, mn (fun v h => dz (fun ⟨c, f', e1, e2, h2⟩ => ⟨c, f', e1, e2, hk _ _ h2⟩) h) hp.2⟩
   | dead => exact hp
  | _ => exact hp
 | box t x =>
  simp only [pop] at hp ⊢
  exact mn (fun v h => dz (hk _ _) h) hp
 | alloc t =>
  simp only [pop] at hp ⊢
  generalize wS (T.get t) = q at hp ⊢
  cases q <;> first | exact hp | exact hk _ _ hp
 | makeSlice t l c =>
  simp only [pop] at hp ⊢
  generalize T.get t = q at hp ⊢
  generalize ev env l = u at hp ⊢
  generalize ev env c = v at hp ⊢
  cases q with
  | slice e sz b z => cases u with
   | int k n => cases v with
    | int k' m => (obtain ⟨h, n', f', e1, e2, h2⟩ := hp; exact ⟨h, n', f', e1, e2, hk _ _ h2⟩)
    | _ => exact hp
   | _ => cases v <;> exact hp
  | _ => cases u <;> cases v <;> exact hp
 | buildSlice t len parts =>
  simp only [pop] at hp ⊢
  generalize T.get t = q at hp ⊢
  cases q with
  | slice e sz b z => exact dz (uU (fun _ ⟨f', e1, h2⟩ => ⟨f', e1, hk _ _ h2⟩) _ _) hp
  | _ => exact hp
 | convert s d x =>
  simp only [pop] at hp ⊢
  split at hp
  ·split at hp
   ·exact let ⟨f', e1, h2⟩ := hp; ⟨f', e1, hk _ _ h2⟩
   ·exact hp
  ·exact nQ (fun v => hk v h) hp
 | binOp bo t x y ty =>
  simp only [pop] at hp ⊢
  split at hp
  ·exact ⟨fun h0 => hk _ _ (hp.1 h0), hk _ _ hp.2⟩
  ·exact nQ (fun v => hk v h) hp
 | makeMap t r =>
  cases r with
  | none =>
   simp only [pop] at hp ⊢
   generalize T.get t = q at hp ⊢
   cases q with
   | map k e z => exact let ⟨f', h2⟩ := hp; ⟨f', hk _ _ h2⟩
   | _ => exact hp
  | some r => exact hp
 | mapUpdate t m k x =>
  simp only [pop] at hp ⊢
  generalize T.get t = q at hp ⊢
  generalize ev env m = v at hp ⊢
  cases q with
  | map kt et z => cases v with
   | lj id =>
    simp only at hp ⊢
    generalize bV h id = q2 at hp ⊢
    cases q2 with
    | row g sz n e f => exact mn (fun kv h => mn (fun vv h => dz (fun ⟨n', f', e1, h2⟩ => ⟨n', f', e1, hk _ _ h2⟩) h) h) hp
    | dead => exact hp
   | _ => exact hp
  | _ => cases v <;> exact hp
 | call c =>
  obtain ⟨callee, args, ts⟩ := c
  cases callee with
  | value fo =>
   simp only [pop] at hp ⊢
   generalize ev env fo = v at hp ⊢
   cases v with
   | fn f => exact dz (fun ⟨R, h1, h2⟩ => ⟨R, h1, fun res h' hr => hk _ _ (h2 res h' hr)⟩) hp
   | lv f bs => exact dz (fun ⟨R, h1, h2⟩ => ⟨R, h1, fun res h' hr => hk _ _ (h2 res h' hr)⟩) hp
   | _ => exact hp
  | builtin b =>
   cases b with
   | append =>
    simp only [pop] at hp ⊢
    split at hp
    ·rename_i s x t tx ha ht
     generalize T.get t = q at hp ⊢
     generalize T.get tx = qx at hp ⊢
     cases q with
     | slice e sz b z => cases qx <;> first | exact hp | exact Ba hk hp
     | _ => cases qx <;> exact hp
    ·exact hp
   | copy =>
    simp only [pop] at hp ⊢
    split at hp
    ·rename_i s x t tx ha ht
     generalize T.get t = q at hp ⊢
     generalize T.get tx = qx at hp ⊢
     cases q with
     | slice e sz b z => cases qx <;> first | exact hp | exact EO hk hp
     | _ => cases qx <;> exact hp
    ·exact hp
   | len => (simp only [pop] at hp ⊢; exact nQ (fun v => hk v h) hp)
   | _ => exact hp
  | _ => exact hp
 | _ => (simp only [pop] at hp ⊢; exact nQ (fun v => hk v h) hp)
theorem OL {env env' : Env} {args : Array Operand} (hs : ∀ x, x ∈ args.toList → ev env x = ev env' x) : args.toList.map (ev env) = args.toList.map (ev env') :=
 List.map_congr_left hs
theorem R4 {env env' : Env} {l : List Operand} (hs : ∀ x, x ∈ l → ev env x = ev env' x) : l.all (fun x => kI (ev env x)) = l.all (fun x => kI (ev env' x)) := by
 induction l with
 | nil => rfl
 | cons a r ih => simp only [asL, hs a avj, ih (fun x hx => hs x (asO _ hx))]
theorem R5 {P : Program} {T : lO} {env env' : Env} {h : List ar} {K : PV → List ar → Prop} (op : Op) (hs : EL env env' op) : pop P T op env h K = pop P T op env' h K := by
 cases op with
 | store t a x => simp only [pop, hs a avk, hs x avk]
 | box t x => simp only [pop, hs x avk]
 | alloc t => rfl
 | makeSlice t l c => simp only [pop, hs l avk, hs c avk]
 | buildSlice t len parts =>
  have e : ∀ sz (K : List (List PV) → Prop) z, nn env sz K parts.toList z = nn env' sz K parts.toList z := fun sz K z => xI _ _ (fun p hp => hs p.2 avQ)
  simp only [pop, e]
 | convert s d x => simp only [pop, bH, hs x avk]
 | binOp bo t x y ty => simp only [pop, bH, hs x avk, hs y avk]
 | makeMap t r => cases r <;> rfl
 | mapUpdate t m k x => simp only [pop, hs m avk, hs k avk, hs x avk]
 | call c =>
  obtain ⟨callee, args, ts⟩ := c
  cases callee with
  | value fo =>
   have e0 := hs fo (by simp [Op.operands, Call.operands])
   have e1 : ∀ x, x ∈ args.toList → ev env x = ev env' x := fun x hx => hs x (by simp [Op.operands, Call.operands]; right; simpa using hx)
   simp only [pop, e0, OL e1, R4 e1]
  | builtin b =>
   have e1 : ∀ x, x ∈ args.toList → ev env x = ev env' x := fun x hx => hs x (by simp [Op.operands, Call.operands]; simpa using hx)
   cases b with
   | append =>
    simp only [pop]
    split
    ·rename_i s x t tx ha ht
     rw [e1 s (by rw [ha]; simp), e1 x (by rw [ha]; simp)]
    ·rfl
   | copy =>
    simp only [pop]
    split
    ·rename_i s x t tx ha ht
     rw [e1 s (by rw [ha]; simp), e1 x (by rw [ha]; simp)]
    ·rfl
   | len => (simp only [pop]; exact tv _ hs)
   | _ => rfl
  | _ => rfl
 | _ => (simp only [pop]; exact tv _ hs)
section
variable {P : Program} {T : lO}
def fs (P : Program) (T : lO) (all : List Oper) (st : Bool) (o : Oper) (G : PV → List ar → Prop) (env : Env) (h : List ar) : Prop :=
 match o.guard with
 | none => yz P T st o.op env h G
 | some (j, want) => match (all[j]?).bind (·.dst) with
  | some t => match env t with
   | .bool b => match b == want with
    | true => yz P T st o.op env h G
    | false => G (.aV []) h
   | .aV [] => G (.aV []) h
   | _ => False
  | none => False
theorem vK {env : Env} {t : Nat} {v : PV} (h : env t = v) : my env t v = env := by
 funext j
 unfold my
 cases hb : Nat.beq j t with
 | true => rw [Of hb, ← h]; rfl
 | false => rfl
theorem zy {st : Bool} {op : Op} {env : Env} {h : List ar} {G G' : PV → List ar → Prop} (hk : ∀ v h', G v h' → G' v h') (hp : yz P T st op env h G) : yz P T st op env h G' := by
 cases st with
 | true => exact nQ (fun v => hk v h) hp
 | false => exact OK hk _ hp
theorem cx {all : List Oper} {st : Bool} {o : Oper} {env : Env} {h : List ar} {G G' : PV → List ar → Prop} (hk : ∀ v h', G v h' → G' v h') (hp : fs P T all st o G env h) : fs P T all st o G' env h := by
 unfold fs at hp ⊢
 generalize o.guard = g at hp ⊢
 cases g with
 | none => exact zy hk hp
 | some q =>
  obtain ⟨j, want⟩ := q
  simp only at hp ⊢
  generalize (all[j]?).bind (·.dst) = d at hp ⊢
  cases d with
  | none => exact hp
  | some t =>
   simp only at hp ⊢
   generalize env t = v at hp ⊢
   cases v with
   | bool b =>
    simp only at hp ⊢
    generalize (b == want) = c at hp ⊢
    cases c with
    | true => exact zy hk hp
    | false => exact hk _ _ hp
   | aV l => cases l with
    | nil => exact hk _ _ hp
    | cons a r => exact hp
   | _ => exact hp
theorem kg {all : List Oper} {st : Bool} {o : Oper} {F : Env → PV → List ar → Prop} {env : Env} {h : List ar} (hp : mP P T all st o F env h) : fs P T all st o (F env) env h := by
 unfold mP at hp
 unfold fs
 generalize o.guard = g at hp ⊢
 cases g with
 | none => exact hp
 | some q =>
  obtain ⟨j, want⟩ := q
  simp only at hp ⊢
  generalize (all[j]?).bind (·.dst) = d at hp ⊢
  cases d with
  | none => exact hp
  | some t =>
   simp only at hp ⊢
   generalize hv : env t = v at hp ⊢
   cases v with
   | bool b =>
    simp only at hp ⊢
    obtain ⟨h1, h2⟩ := jo hp
    cases b with
    | true =>
     have h1 := h1 rfl
     rw [vK hv] at h1
     cases want <;> exact h1
    | false =>
     have h2 := h2 rfl
     rw [vK hv] at h2
     cases want <;> exact h2
   | aV l => cases l with
    | nil => exact hp
    | cons a r => exact hp
   | _ => exact hp
theorem qk {env env' : Env} {o : Oper} {ops : Array Oper} (hl : ∀ t, t ∈ o.looksAt ops → env t = env' t) : EL env env' o.op := fun x hx => by
 cases x with
 | tmp t => exact hl t (by unfold Oper.looksAt; rw [asF]; left; rw [List.mem_filterMap]; exact ⟨_, hx, rfl⟩)
 | _ => rfl
theorem oF {env env' : Env} {o : Oper} {ops : Array Oper} (hl : ∀ t, t ∈ o.looksAt ops → env t = env' t) {j : Nat} {w : Bool} (hg : o.guard = some (j, w)) {t : Nat} (ht : (ops.toList[j]?).bind (·.dst) = some t) : env t = env' t :=
 hl t (by
  unfold Oper.looksAt
  rw [asF, hg]
  right
  have : ops.toList[j]? = ops[j]? := by simp
  rw [this] at ht
  show t ∈ ((ops[j]?).bind (·.dst)).toList
  rw [ht]
  simp)
theorem EP {ops : Array Oper} {st : Bool} {o : Oper} {G : PV → List ar → Prop} {env env' : Env} {h : List ar} (hl : ∀ t, t ∈ o.looksAt ops → env t = env' t) (hp : fs P T ops.toList st o G env h) : fs P T ops.toList st o G env' h := by
 have hr : yz P T st o.op env h G = yz P T st o.op env' h G := by
  cases st with
  | true => exact tv _ (qk hl)
  | false => exact R5 _ (qk hl)
 unfold fs at hp ⊢
 cases hg : o.guard with
 | none => rw [hg] at hp; simp only at hp ⊢; rw [← hr]; exact hp
 | some q =>
  obtain ⟨j, want⟩ := q
  rw [hg] at hp
  simp only at hp ⊢
  cases hd : (ops.toList[j]?).bind (·.dst) with
  | none => rw [hd] at hp; exact hp
  | some t =>
   rw [hd] at hp
   simp only at hp ⊢
   rw [← oF hl hg hd, ← hr]
   exact hp
theorem tw {α β : Type} {f g : α → List β} : ∀ (l : List α), (∀ x, x ∈ l → f x = g x) → l.flatMap f = l.flatMap g
 | [], _ => rfl
 | a :: r, h => by rw [asZ, asZ, h a avj, tw r (fun x hx => h x (asO _ hx))]
theorem xM (env : Env) (op : Op) : (∃ x, op = .move x) ∨ iR env op = op.operands.toList.flatMap (fun x => oM (ev env x)) := by
 cases op <;> first | exact .inl ⟨_, rfl⟩ | exact .inr rfl
theorem ER {T : lO} {env : Env} {h h' : List ar} {K : PV → Prop} {op : Op} (hi : ∀ id, id ∈ iR env op → bV h id = bV h' id) : bH T op env h K = bH T op env h' K := by
 rcases xM env op with ⟨x, rfl⟩ | e
 ·rfl
 ·exact Ip op (fun x hx id hid => hi id (by rw [e, List.mem_flatMap]; exact ⟨x, hx, hid⟩))
theorem rO {env env' : Env} {op : Op} (hs : ∀ x, x ∈ op.operands.toList → ev env x = ev env' x) : iR env' op = iR env op := by
 rcases xM env op with ⟨x, rfl⟩ | e
 ·rfl
 ·rcases xM env' op with ⟨x, rfl⟩ | e'
  ·rfl
  ·rw [e, e']
   exact tw _ (fun x hx => by rw [hs x hx])
theorem uy {ops : Array Oper} {o : Oper} {G : PV → List ar → Prop} {env : Env} {h : List ar} (hp : fs P T ops.toList true o G env h) :
  ∃ v, G v h ∧ ∀ (env' : Env) (h' : List ar) (G' : PV → List ar → Prop), (∀ t, t ∈ o.looksAt ops → env t = env' t) → (∀ id, id ∈ iR env o.op → bV h id = bV h' id) → G' v h' → fs P T ops.toList true o G' env' h' := by
 have run : bH T o.op env h (fun v => G v h) → ∃ v, G v h ∧ ∀ (env' : Env) (h' : List ar) (G' : PV → List ar → Prop), (∀ t, t ∈ o.looksAt ops → env t = env' t) → (∀ id, id ∈ iR env o.op → bV h id = bV h' id) → G' v h' → bH T o.op env' h' (fun v => G' v h') := fun hs => by
  obtain ⟨v, h1, h2⟩ := C7 T o.op env h _ hs
  refine ⟨v, h1, fun env' h' G' hl hi hg => ?_⟩
  rw [← tv o.op (qk hl), ← ER (op := o.op) hi]
  exact h2 _ hg
 unfold fs at hp
 cases hg : o.guard with
 | none =>
  rw [hg] at hp
  obtain ⟨v, h1, h2⟩ := run hp
  refine ⟨v, h1, fun env' h' G' hl hi hk => ?_⟩
  unfold fs
  rw [hg]
  exact h2 env' h' G' hl hi hk
 | some q =>
  obtain ⟨j, want⟩ := q
  rw [hg] at hp
  simp only at hp
  cases hd : (ops.toList[j]?).bind (·.dst) with
  | none => rw [hd] at hp; exact hp.elim
  | some t =>
   rw [hd] at hp
   simp only at hp
   cases hv : env t with
   | bool b =>
    rw [hv] at hp
    simp only at hp
    cases hc : (b == want) with
    | true =>
     rw [hc] at hp
     obtain ⟨v, h1, h2⟩ := run hp
     refine ⟨v, h1, fun env' h' G' hl hi hk => ?_⟩
     unfold fs
     rw [hg]; simp only; rw [hd]; simp only; rw [← oF hl hg hd, hv]; simp only; rw [hc]
     exact h2 env' h' G' hl hi hk
    | false =>
     rw [hc] at hp
     refine ⟨_, hp, fun env' h' G' hl hi hk => ?_⟩
     unfold fs
     rw [hg]; simp only; rw [hd]; simp only; rw [← oF hl hg hd, hv]; simp only; rw [hc]
     exact hk
   | aV l =>
    rw [hv] at hp
    cases l with
    | nil =>
     refine ⟨_, hp, fun env' h' G' hl hi hk => ?_⟩
     unfold fs
     rw [hg]; simp only; rw [hd]; simp only; rw [← oF hl hg hd, hv]
     exact hk
    | cons a r => exact hp.elim
   | _ => rw [hv] at hp; exact hp.elim
def yA (P : Program) (T : lO) (all : List Oper) (t : List (Nat × List Nat)) (K : Env → List ar → Prop) : List (Nat × Bool) → List (Nat × List Nat) → Env → List ar → Prop
 | [], _, env, h => K env h
 | (i, st) :: r, a6, env, h => ∃ o, all[i]? = some o ∧ fs P T all st o (fun v h' => match st with
   | true => yA P T all t K r ((i, iR env o.op) :: a6) (cy env o.dst v) h'
   | false => (∀ j ids, (j, ids) ∈ a6 → je (cd t i) j = false → ∀ id, id ∈ ids → bV h id = bV h' id) ∧ yA P T all t K r a6 (cy env o.dst v) h') env h
theorem tz {h h' : List ar} {K : Prop} : ∀ (ids : List Nat), A9 h h' K ids → (∀ id, id ∈ ids → bV h id = bV h' id) ∧ K
 | [], hk => ⟨fun id hid => by simp at hid, hk⟩
 | a :: r, hk => by
  obtain ⟨h1, h2⟩ := tz r hk.2
  refine ⟨fun id hid => ?_, h2⟩
  simp only [asI] at hid
  rcases hid with rfl | hid
  ·exact hk.1
  ·exact h1 id hid
theorem kL {anc : List Nat} {h h' : List ar} {K : Prop} : ∀ (a6 : List (Nat × List Nat)), k7 anc h h' K a6 → (∀ j ids, (j, ids) ∈ a6 → je anc j = false → ∀ id, id ∈ ids → bV h id = bV h' id) ∧ K
 | [], hk => ⟨fun j ids hj => by simp at hj, hk⟩
 | (a, l) :: r, hk => by
  unfold k7 at hk
  cases ha : je anc a with
  | true =>
   rw [ha] at hk
   obtain ⟨h1, h2⟩ := kL r hk
   refine ⟨fun j ids hj hn => ?_, h2⟩
   simp only [asI] at hj
   rcases hj with hj | hj
   ·injection hj with e1 e2; subst e1; rw [ha] at hn; cases hn
   ·exact h1 j ids hj hn
  | false =>
   rw [ha] at hk
   obtain ⟨q1, q2⟩ := tz l hk
   obtain ⟨h1, h2⟩ := kL r q2
   refine ⟨fun j ids hj hn => ?_, h2⟩
   simp only [asI] at hj
   rcases hj with hj | hj
   ·injection hj with e1 e2; subst e2; exact q1
   ·exact h1 j ids hj hn
theorem kf {all : List Oper} {t : List (Nat × List Nat)} {K : Env → List ar → Prop} : ∀ (l : List (Nat × Bool)) (a6 : List (Nat × List Nat)) (env : Env) (h : List ar), fw P T all t K l a6 env h → yA P T all t K l a6 env h
 | [], _, _, _, hp => hp
 | (i, true) :: r, a6, env, h, hp => by
  have hp : (match all[i]? with
   | some o => mP P T all true o (fun env' v h' => fw P T all t K r ((i, iR env' o.op) :: a6) (cy env' o.dst v) h') env h
   | none => False) := hp
  cases ho : all[i]? with
  | none => rw [ho] at hp; exact hp.elim
  | some o =>
   rw [ho] at hp
   exact ⟨o, ho, cx (fun v h' hk => kf r _ _ _ hk) (kg hp)⟩
 | (i, false) :: r, a6, env, h, hp => by
  have hp : (match all[i]? with
   | some o => mP P T all false o (fun env' v h' => k7 (cd t i) h h' (fw P T all t K r a6 (cy env' o.dst v) h') a6) env h
   | none => False) := hp
  cases ho : all[i]? with
  | none => rw [ho] at hp; exact hp.elim
  | some o =>
   rw [ho] at hp
   refine ⟨o, ho, cx (fun v h' hk => ?_) (kg hp)⟩
   obtain ⟨h1, h2⟩ := kL _ hk
   exact ⟨h1, kf r _ _ _ h2⟩
theorem nR {all : List Oper} {t : List (Nat × List Nat)} {K : Env → List ar → Prop} : ∀ (l : List (Nat × Bool)) (a6 lu : List (Nat × List Nat)) (env : Env) (h : List ar), (∀ x, x ∈ lu → x ∈ a6) → yA P T all t K l a6 env h → yA P T all t K l lu env h
 | [], _, _, _, _, _, hp => hp
 | (i, st) :: r, a6, lu, env, h, hs, hp => by
  obtain ⟨o, ho, hp⟩ := hp
  refine ⟨o, ho, cx (fun v h' hk => ?_) hp⟩
  cases st with
  | true => exact nR r _ _ _ _ (fun x hx => by simp only [asI] at hx ⊢; exact hx.imp id (hs x)) hk
  | false => exact ⟨fun j ids hj => hk.1 j ids (hs _ hj), nR r _ _ _ _ hs hk.2⟩
theorem uz {env : Env} {d e : Option Nat} {u v : PV} (nS : ∀ x, d = some x → e ≠ some x) : cy (cy env d u) e v = cy (cy env e v) d u := by
 cases d with
 | none => rfl
 | some x =>
  cases e with
  | none => rfl
  | some y =>
   have hxy : x ≠ y := fun he => nS x rfl (by rw [he])
   funext j
   simp only [cy, my]
   cases h1 : Nat.beq j y with
   | true =>
    have := Of h1
    subst this
    cases h2 : Nat.beq j x with
    | true => exact absurd (Of h2).symm hxy
    | false => rfl
   | false => cases h2 : Nat.beq j x <;> rfl
theorem lP {env : Env} {d : Option Nat} {v : PV} {l : List Nat} (hn : ∀ x, d = some x → x ∉ l) : ∀ t, t ∈ l → env t = cy env d v t := fun t ht => by
 cases d with
 | none => rfl
 | some x =>
  have : t ≠ x := fun he => hn x rfl (he ▸ ht)
  simp only [cy, my]
  cases h2 : Nat.beq t x with
  | true => exact absurd (Of h2) this
  | false => rfl
theorem tt {ops : Array Oper} {t : List (Nat × List Nat)} {K : Env → List ar → Prop} {i : Nat} {st : Bool} {oi : Oper} (rQ : ops.toList[i]? = some oi) :
  ∀ (l1 l2 : List (Nat × Bool)) (a6 : List (Nat × List Nat)) (env : Env) (h : List ar), (∀ p, p ∈ l1 → p.2 = true ∧ je (cd t i) p.1 = false ∧ mN ops p.1 i = true) → yA P T ops.toList t K (l1 ++ (i, st) :: l2) a6 env h →
   fs P T ops.toList st oi (fun v h' => (st = true → h' = h) ∧ (st = false → ∀ j ids, (j, ids) ∈ a6 → je (cd t i) j = false → ∀ id, id ∈ ids → bV h id = bV h' id) ∧ yA P T ops.toList t K (l1 ++ l2) a6 (cy env oi.dst v) h') env h
 | [], l2, a6, env, h, _, hp => by
  obtain ⟨o, ho, hp⟩ := hp
  rw [rQ] at ho
  injection ho with ho
  subst ho
  cases st with
  | true =>
   obtain ⟨v, h1, h2⟩ := uy hp
   exact h2 env h _ (fun _ _ => rfl) (fun _ _ => rfl) ⟨fun _ => rfl, fun hc => Bool.noConfusion hc, nR _ _ _ _ _ (fun x hx => asO _ hx) h1⟩
  | false => exact cx (fun v h' hk => ⟨fun hc => Bool.noConfusion hc, fun _ => hk.1, hk.2⟩) hp
 | (a, sa) :: l1, l2, a6, env, h, lk, hp => by
  obtain ⟨h1, h2, h3⟩ := lk (a, sa) avj
  simp only at h1 h2 h3
  subst h1
  obtain ⟨o, ho, hp⟩ := hp
  have hap : Oper.apart ops o oi = true := by
   unfold mN at h3
   have e1 : ops[a]? = some o := by simpa using ho
   have e2 : ops[i]? = some oi := by simpa using rQ
   rw [e1, e2] at h3
   exact h3
  obtain ⟨a1, a2, a3⟩ := Oper.apart_spec hap
  obtain ⟨u, k1, k2⟩ := uy hp
  have ih := tt rQ l1 l2 _ _ h (fun p hp => lk p (asO _ hp)) k1
  have ih' := EP (env' := env) (fun x hx => (lP (fun d hd => a1 d hd) x hx).symm) ih
  refine cx (fun v h' hk => ⟨hk.1, fun hc j ids hj => hk.2.1 hc j ids (asO _ hj), ?_⟩) ih'
  have OM : ∀ id, id ∈ iR env o.op → bV h id = bV h' id := fun id hid => by
   cases st with
   | true => rw [hk.1 rfl]
   | false => exact hk.2.1 rfl a _ avj h2 id hid
  have uV : ∀ x, x ∈ o.looksAt ops → env x = cy env oi.dst v x := lP (fun d hd => a3 d hd)
  refine ⟨o, ho, k2 _ h' _ uV OM ?_⟩
  have ON : iR (cy env oi.dst v) o.op = iR env o.op := by
   exact rO (qk uV)
  simp only
  rw [ON, uz (fun x hx => (fun he => a2 x he hx) : ∀ x, oi.dst = some x → o.dst ≠ some x)]
  exact hk.2.2
def uv (P : Program) (T : lO) (all : List Oper) (t : List (Nat × List Nat)) (A0 B0 : List (Nat × Bool)) (K : Env → List ar → Prop) : List (Nat × Bool) → List (Nat × List Nat) → Env → List ar → Prop
 | [], a6, env, h => yA P T all t K A0 a6 env h ∧ yA P T all t K B0 a6 env h
 | (i, st) :: r, a6, env, h => ∃ o, all[i]? = some o ∧ fs P T all st o (fun v h' => match st with
   | true => uv P T all t A0 B0 K r ((i, iR env o.op) :: a6) (cy env o.dst v) h'
   | false => (∀ j ids, (j, ids) ∈ a6 → je (cd t i) j = false → ∀ id, id ∈ ids → bV h id = bV h' id) ∧ uv P T all t A0 B0 K r a6 (cy env o.dst v) h') env h
theorem p6 {all : List Oper} {t : List (Nat × List Nat)} {A0 B0 : List (Nat × Bool)} {K : Env → List ar → Prop} : ∀ (l : List (Nat × Bool)) (a6 : List (Nat × List Nat)) (env : Env) (h : List ar), fw2 P T all t A0 B0 K l a6 env h → uv P T all t A0 B0 K l a6 env h
 | [], _, _, _, hp => ⟨kf _ _ _ _ hp.1, kf _ _ _ _ hp.2⟩
 | (i, true) :: r, a6, env, h, hp => by
  have hp : (match all[i]? with
   | some o => mP P T all true o (fun env' v h' => fw2 P T all t A0 B0 K r ((i, iR env' o.op) :: a6) (cy env' o.dst v) h') env h
   | none => False) := hp
  cases ho : all[i]? with
  | none => rw [ho] at hp; exact hp.elim
  | some o =>
   rw [ho] at hp
   exact ⟨o, ho, cx (fun v h' hk => p6 r _ _ _ hk) (kg hp)⟩
 | (i, false) :: r, a6, env, h, hp => by
  have hp : (match all[i]? with
   | some o => mP P T all false o (fun env' v h' => k7 (cd t i) h h' (fw2 P T all t A0 B0 K r a6 (cy env' o.dst v) h') a6) env h
   | none => False) := hp
  cases ho : all[i]? with
  | none => rw [ho] at hp; exact hp.elim
  | some o =>
   rw [ho] at hp
   refine ⟨o, ho, cx (fun v h' hk => ?_) (kg hp)⟩
   obtain ⟨h1, h2⟩ := kL _ hk
   exact ⟨h1, p6 r _ _ _ h2⟩
theorem uA {all : List Oper} {t : List (Nat × List Nat)} {A0 B0 : List (Nat × Bool)} {K : Env → List ar → Prop} : ∀ (l : List (Nat × Bool)) (a6 lu : List (Nat × List Nat)) (env : Env) (h : List ar), (∀ x, x ∈ lu → x ∈ a6) → uv P T all t A0 B0 K l a6 env h → uv P T all t A0 B0 K l lu env h
 | [], a6, lu, _, _, hs, hp => ⟨nR _ a6 lu _ _ hs hp.1, nR _ a6 lu _ _ hs hp.2⟩
 | (i, st) :: r, a6, lu, env, h, hs, hp => by
  obtain ⟨o, ho, hp⟩ := hp
  refine ⟨o, ho, cx (fun v h' hk => ?_) hp⟩
  cases st with
  | true => exact uA r _ _ _ _ (fun x hx => by simp only [asI] at hx ⊢; exact hx.imp id (hs x)) hk
  | false => exact ⟨fun j ids hj => hk.1 j ids (hs _ hj), uA r _ _ _ _ hs hk.2⟩
theorem zm {ops : Array Oper} {t : List (Nat × List Nat)} {A0 B0 : List (Nat × Bool)} {K : Env → List ar → Prop} {i : Nat} {st : Bool} {oi : Oper} (rQ : ops.toList[i]? = some oi) :
  ∀ (l1 l2 : List (Nat × Bool)) (a6 : List (Nat × List Nat)) (env : Env) (h : List ar), (∀ p, p ∈ l1 → p.2 = true ∧ je (cd t i) p.1 = false ∧ mN ops p.1 i = true) → uv P T ops.toList t A0 B0 K (l1 ++ (i, st) :: l2) a6 env h →
   fs P T ops.toList st oi (fun v h' => (st = true → h' = h) ∧ (st = false → ∀ j ids, (j, ids) ∈ a6 → je (cd t i) j = false → ∀ id, id ∈ ids → bV h id = bV h' id) ∧ uv P T ops.toList t A0 B0 K (l1 ++ l2) a6 (cy env oi.dst v) h') env h
 | [], l2, a6, env, h, _, hp => by
  obtain ⟨o, ho, hp⟩ := hp
  rw [rQ] at ho
  injection ho with ho
  subst ho
  cases st with
  | true =>
   obtain ⟨v, h1, h2⟩ := uy hp
   exact h2 env h _ (fun _ _ => rfl) (fun _ _ => rfl) ⟨fun _ => rfl, fun hc => Bool.noConfusion hc, uA _ _ _ _ _ (fun x hx => asO _ hx) h1⟩
  | false => exact cx (fun v h' hk => ⟨fun hc => Bool.noConfusion hc, fun _ => hk.1, hk.2⟩) hp
 | (a, sa) :: l1, l2, a6, env, h, lk, hp => by
  obtain ⟨h1, h2, h3⟩ := lk (a, sa) avj
  simp only at h1 h2 h3
  subst h1
  obtain ⟨o, ho, hp⟩ := hp
  have hap : Oper.apart ops o oi = true := by
   unfold mN at h3
   have e1 : ops[a]? = some o := by simpa using ho
   have e2 : ops[i]? = some oi := by simpa using rQ
   rw [e1, e2] at h3
   exact h3
  obtain ⟨a1, a2, a3⟩ := Oper.apart_spec hap
  obtain ⟨u, k1, k2⟩ := uy hp
  have ih := zm rQ l1 l2 _ _ h (fun p hp => lk p (asO _ hp)) k1
  have ih' := EP (env' := env) (fun x hx => (lP (fun d hd => a1 d hd) x hx).symm) ih
  refine cx (fun v h' hk => ⟨hk.1, fun hc j ids hj => hk.2.1 hc j ids (asO _ hj), ?_⟩) ih'
  have OM : ∀ id, id ∈ iR env o.op → bV h id = bV h' id := fun id hid => by
   cases st with
   | true => rw [hk.1 rfl]
   | false => exact hk.2.1 rfl a _ avj h2 id hid
  have uV : ∀ x, x ∈ o.looksAt ops → env x = cy env oi.dst v x := lP (fun d hd => a3 d hd)
  refine ⟨o, ho, k2 _ h' _ uV OM ?_⟩
  have ON : iR (cy env oi.dst v) o.op = iR env o.op := by
   exact rO (qk uV)
  simp only
  rw [ON, uz (fun x hx => (fun he => a2 x he hx) : ∀ x, oi.dst = some x → o.dst ≠ some x)]
  exact hk.2.2
theorem EH {all : List Oper} {t : List (Nat × List Nat)} {A0 B0 : List (Nat × Bool)} {K : Env → List ar → Prop} : ∀ (l : List (Nat × Bool)) (a6 : List (Nat × List Nat)) (env : Env) (h : List ar), uv P T all t A0 B0 K l a6 env h → yA P T all t K (l ++ A0) a6 env h
 | [], _, _, _, hp => hp.1
 | (i, st) :: r, a6, env, h, hp => by
  obtain ⟨o, ho, hp⟩ := hp
  refine ⟨o, ho, cx (fun v h' hk => ?_) hp⟩
  cases st with
  | true => exact EH r _ _ _ hk
  | false => exact ⟨hk.1, EH r _ _ _ hk.2⟩
theorem EI {all : List Oper} {t : List (Nat × List Nat)} {A0 B0 : List (Nat × Bool)} {K : Env → List ar → Prop} : ∀ (l : List (Nat × Bool)) (a6 : List (Nat × List Nat)) (env : Env) (h : List ar), uv P T all t A0 B0 K l a6 env h → yA P T all t K (l ++ B0) a6 env h
 | [], _, _, _, hp => hp.2
 | (i, st) :: r, a6, env, h, hp => by
  obtain ⟨o, ho, hp⟩ := hp
  refine ⟨o, ho, cx (fun v h' hk => ?_) hp⟩
  cases st with
  | true => exact EI r _ _ _ hk
  | false => exact ⟨hk.1, EI r _ _ _ hk.2⟩
def k4 (P : Program) (T : lO) (all : List Oper) (t : List (Nat × List Nat)) (E : List (Nat × List Nat) → Env → List ar → Prop) : List (Nat × Bool) → List (Nat × List Nat) → Env → List ar → Prop
 | [], a6, env, h => E a6 env h
 | (i, st) :: r, a6, env, h => ∃ o, all[i]? = some o ∧ fs P T all st o (fun v h' => match st with
   | true => k4 P T all t E r ((i, iR env o.op) :: a6) (cy env o.dst v) h'
   | false => (∀ j ids, (j, ids) ∈ a6 → je (cd t i) j = false → ∀ id, id ∈ ids → bV h id = bV h' id) ∧ k4 P T all t E r a6 (cy env o.dst v) h') env h
def p4 (E : List (Nat × List Nat) → Env → List ar → Prop) : Prop := ∀ (a6 lu : List (Nat × List Nat)) (env : Env) (h : List ar), (∀ x, x ∈ lu → x ∈ a6) → E a6 env h → E lu env h
theorem ql {all : List Oper} {t : List (Nat × List Nat)} {E : List (Nat × List Nat) → Env → List ar → Prop} (hE : p4 E) : ∀ (l : List (Nat × Bool)) (a6 lu : List (Nat × List Nat)) (env : Env) (h : List ar), (∀ x, x ∈ lu → x ∈ a6) → k4 P T all t E l a6 env h → k4 P T all t E l lu env h
 | [], a6, lu, _, _, hs, hp => hE a6 lu _ _ hs hp
 | (i, st) :: r, a6, lu, env, h, hs, hp => by
  obtain ⟨o, ho, hp⟩ := hp
  refine ⟨o, ho, cx (fun v h' hk => ?_) hp⟩
  cases st with
  | true => exact ql hE r _ _ _ _ (fun x hx => by simp only [asI] at hx ⊢; exact hx.imp id (hs x)) hk
  | false => exact ⟨fun j ids hj => hk.1 j ids (hs _ hj), ql hE r _ _ _ _ hs hk.2⟩
theorem qi {ops : Array Oper} {t : List (Nat × List Nat)} {E : List (Nat × List Nat) → Env → List ar → Prop} (hE : p4 E) {i : Nat} {st : Bool} {oi : Oper} (rQ : ops.toList[i]? = some oi) :
  ∀ (l1 l2 : List (Nat × Bool)) (a6 : List (Nat × List Nat)) (env : Env) (h : List ar), (∀ p, p ∈ l1 → p.2 = true ∧ je (cd t i) p.1 = false ∧ mN ops p.1 i = true) → k4 P T ops.toList t E (l1 ++ (i, st) :: l2) a6 env h →
   fs P T ops.toList st oi (fun v h' => (st = true → h' = h) ∧ (st = false → ∀ j ids, (j, ids) ∈ a6 → je (cd t i) j = false → ∀ id, id ∈ ids → bV h id = bV h' id) ∧ k4 P T ops.toList t E (l1 ++ l2) a6 (cy env oi.dst v) h') env h
 | [], l2, a6, env, h, _, hp => by
  obtain ⟨o, ho, hp⟩ := hp
  rw [rQ] at ho
  injection ho with ho
  subst ho
  cases st with
  | true =>
   obtain ⟨v, h1, h2⟩ := uy hp
   exact h2 env h _ (fun _ _ => rfl) (fun _ _ => rfl) ⟨fun _ => rfl, fun hc => Bool.noConfusion hc, ql hE _ _ _ _ _ (fun x hx => asO _ hx) h1⟩
  | false => exact cx (fun v h' hk => ⟨fun hc => Bool.noConfusion hc, fun _ => hk.1, hk.2⟩) hp
 | (a, sa) :: l1, l2, a6, env, h, lk, hp => by
  obtain ⟨h1, h2, h3⟩ := lk (a, sa) avj
  simp only at h1 h2 h3
  subst h1
  obtain ⟨o, ho, hp⟩ := hp
  have hap : Oper.apart ops o oi = true := by
   unfold mN at h3
   have e1 : ops[a]? = some o := by simpa using ho
   have e2 : ops[i]? = some oi := by simpa using rQ
   rw [e1, e2] at h3
   exact h3
  obtain ⟨a1, a2, a3⟩ := Oper.apart_spec hap
  obtain ⟨u, k1, k2⟩ := uy hp
  have ih := qi hE rQ l1 l2 _ _ h (fun p hp => lk p (asO _ hp)) k1
  have ih' := EP (env' := env) (fun x hx => (lP (fun d hd => a1 d hd) x hx).symm) ih
  refine cx (fun v h' hk => ⟨hk.1, fun hc j ids hj => hk.2.1 hc j ids (asO _ hj), ?_⟩) ih'
  have OM : ∀ id, id ∈ iR env o.op → bV h id = bV h' id := fun id hid => by
   cases st with
   | true => rw [hk.1 rfl]
   | false => exact hk.2.1 rfl a _ avj h2 id hid
  have uV : ∀ x, x ∈ o.looksAt ops → env x = cy env oi.dst v x := lP (fun d hd => a3 d hd)
  refine ⟨o, ho, k2 _ h' _ uV OM ?_⟩
  have ON : iR (cy env oi.dst v) o.op = iR env o.op := by
   exact rO (qk uV)
  simp only
  rw [ON, uz (fun x hx => (fun he => a2 x he hx) : ∀ x, oi.dst = some x → o.dst ≠ some x)]
  exact hk.2.2
theorem pZ {all : List Oper} {t : List (Nat × List Nat)} {E : List (Nat × List Nat) → Env → List ar → Prop} {l' : List (Nat × Bool)} : ∀ (l : List (Nat × Bool)) (a6 : List (Nat × List Nat)) (env : Env) (h : List ar), k4 P T all t (fun a6 env h => k4 P T all t E l' a6 env h) l a6 env h → k4 P T all t E (l ++ l') a6 env h
 | [], _, _, _, hp => hp
 | (i, st) :: r, a6, env, h, hp => by
  obtain ⟨o, ho, hp⟩ := hp
  refine ⟨o, ho, cx (fun v h' hk => ?_) hp⟩
  cases st with
  | true => exact pZ r _ _ _ hk
  | false => exact ⟨hk.1, pZ r _ _ _ hk.2⟩
theorem tu {all : List Oper} {t : List (Nat × List Nat)} {E E' : List (Nat × List Nat) → Env → List ar → Prop} (hi : ∀ a6 env h, E a6 env h → E' a6 env h) : ∀ (l : List (Nat × Bool)) (a6 : List (Nat × List Nat)) (env : Env) (h : List ar), k4 P T all t E l a6 env h → k4 P T all t E' l a6 env h
 | [], _, _, _, hp => hi _ _ _ hp
 | (i, st) :: r, a6, env, h, hp => by
  obtain ⟨o, ho, hp⟩ := hp
  refine ⟨o, ho, cx (fun v h' hk => ?_) hp⟩
  cases st with
  | true => exact tu hi r _ _ _ hk
  | false => exact ⟨hk.1, tu hi r _ _ _ hk.2⟩
theorem pW {all : List Oper} {t : List (Nat × List Nat)} {K : Env → List ar → Prop} {l' : List (Nat × Bool)} : ∀ (l : List (Nat × Bool)) (a6 : List (Nat × List Nat)) (env : Env) (h : List ar), k4 P T all t (fun a6 env h => yA P T all t K l' a6 env h) l a6 env h → yA P T all t K (l ++ l') a6 env h
 | [], _, _, _, hp => hp
 | (i, st) :: r, a6, env, h, hp => by
  obtain ⟨o, ho, hp⟩ := hp
  refine ⟨o, ho, cx (fun v h' hk => ?_) hp⟩
  cases st with
  | true => exact pW r _ _ _ hk
  | false => exact ⟨hk.1, pW r _ _ _ hk.2⟩
theorem mO {all : List Oper} {t : List (Nat × List Nat)} {E E' : List (Nat × List Nat) → Env → List ar → Prop} (hi : ∀ a6 env h, E a6 env h → E' a6 env h) : ∀ (l : List (Nat × Bool)) (a6 : List (Nat × List Nat)) (env : Env) (h : List ar), fwE P T all t E l a6 env h → k4 P T all t E' l a6 env h
 | [], _, _, _, hp => hi _ _ _ hp
 | (i, true) :: r, a6, env, h, hp => by
  have hp : (match all[i]? with
   | some o => mP P T all true o (fun env' v h' => fwE P T all t E r ((i, iR env' o.op) :: a6) (cy env' o.dst v) h') env h
   | none => False) := hp
  cases ho : all[i]? with
  | none => rw [ho] at hp; exact hp.elim
  | some o =>
   rw [ho] at hp
   exact ⟨o, ho, cx (fun v h' hk => mO hi r _ _ _ hk) (kg hp)⟩
 | (i, false) :: r, a6, env, h, hp => by
  have hp : (match all[i]? with
   | some o => mP P T all false o (fun env' v h' => k7 (cd t i) h h' (fwE P T all t E r a6 (cy env' o.dst v) h') a6) env h
   | none => False) := hp
  cases ho : all[i]? with
  | none => rw [ho] at hp; exact hp.elim
  | some o =>
   rw [ho] at hp
   refine ⟨o, ho, cx (fun v h' hk => ?_) (kg hp)⟩
   obtain ⟨h1, h2⟩ := kL _ hk
   exact ⟨h1, mO hi r _ _ _ h2⟩
theorem nO {all : List Oper} {t : List (Nat × List Nat)} {K : Env → List ar → Prop} (l : List (Nat × Bool)) : p4 (fun a6 env h => yA P T all t K l a6 env h) := fun a6 lu env h hs hp => nR l a6 lu env h hs hp
theorem ml {all : List Oper} {t : List (Nat × List Nat)} {E : List (Nat × List Nat) → Env → List ar → Prop} (hE : p4 E) (l : List (Nat × Bool)) : p4 (fun a6 env h => k4 P T all t E l a6 env h) := fun a6 lu env h hs hp => ql hE l a6 lu env h hs hp
theorem zn {E E' : List (Nat × List Nat) → Env → List ar → Prop} (h1 : p4 E) (h2 : p4 E') : p4 (fun a6 env h => E a6 env h ∧ E' a6 env h) := fun a6 lu env h hs hp => ⟨h1 a6 lu env h hs hp.1, h2 a6 lu env h hs hp.2⟩
end
theorem aF.mono {S S' : Nat → Prop} {w w' : World} (hw : ∀ b, S b → w'.heap[b]? = w.heap[b]?) (hS : ∀ b, S b → S' b) {pv : PV} {v : Value} (h : aF S w pv v) : aF S' w' pv v := by
 induction h with
 | int k n => exact .int k n
 | bool b => exact .bool b
 | str s => exact .str s
 | bm => exact .bm
 | dA => exact .dA
 | fn f => exact .fn f
 | mr sz f a c => exact .mr sz f a c
 | eG sz n f b off c vf h1 h2 h3 h4 _ ih =>
  exact .eG sz n f b off c vf (hS b h1) h2 h3 (fun i j pv hi hj => (World.cell?_of_block (w := w) (hw b h1)).trans (h4 i j pv hi hj)) ih
 | eh cs b off vf h1 h4 _ ih =>
  exact .eh cs b off vf (hS b h1) (fun j pv hj => (World.cell?_of_block (w := w) (hw b h1)).trans (h4 j pv hj)) ih
theorem iJ.of_same {w w' : World} {b k : Nat} (h : w'.heap[b]? = w.heap[b]?) (hc : iJ w b k) : iJ w' b k := by
 obtain ⟨cur, e, z, h1, h2⟩ := hc
 exact ⟨cur, e, z, h.trans h1, h2⟩
theorem iJ.least {w : World} {b k : Nat} (h : iJ w b k) : iJ w b 0 := by
 obtain ⟨cur, e, z, h1, h2⟩ := h
 exact ⟨cur, e, z, h1, atS _⟩
theorem jZ.mono {S S' : Nat → Prop} {w w' : World} (hw : ∀ b, S b → w'.heap[b]? = w.heap[b]?) (hS : ∀ b, S b → S' b) {pv : PV} {v : Value} (h : jZ S w pv v) :
  (∀ sz n e f F, pv = .fJ sz n e f F → ∀ b, F b → w'.heap[b]? = w.heap[b]?) → jZ S' w' pv v := by
 induction h with
 | nil sz e f F hF => exact fun _ => .nil sz e f F hF
 | wG sz n e f F b off c a cur vf hF hb hlen hc ha dZ aJ kV sW yy CY ih =>
  intro hk
  have hk := hk _ _ _ _ _ rfl
  exact .wG sz n e f F b off c a cur vf hF ((hk b hF).trans hb) hlen hc ha dZ aJ (fun i j pv hi hj => (kV i j pv hi hj).imp_left (fun q => q.mono hw hS))
   (fun i j bx n' e' f' F' hi hj => ih i j bx n' e' f' F' hi hj (fun _ _ _ _ _ he b' kU => by
    injection he with _ _ _ _ he
    subst he
    exact hk b' (yy i j bx n' e' f' _ hi hj b' kU).1)) yy CY
inductive OG (G : PV → Prop) : PV → Prop
 | mk (sz n : Nat) (e : TypeId) (f : Nat → List PV) (F : Nat → Prop) (h1 : ∀ (i j : Nat) (pv : PV), i < n → (f i)[j]? = some pv → eL pv = false → G pv)
   (h2 : ∀ (i j bx n' : Nat) (e' : TypeId) (f' : Nat → List PV) (F' : Nat → Prop), i < n → (f i)[j]? = some (.fJ bx n' e' f' F') → OG G (.fJ bx n' e' f' F')) : OG G (.fJ sz n e f F)
theorem jZ.og {S S' : Nat → Prop} {w : World} {G : PV → Prop} (hG : ∀ pv v, G pv → aF S w pv v → aF S' w pv v) {pv : PV} {v : Value} (h : jZ S w pv v) : OG G pv → jZ S' w pv v := by
 induction h with
 | nil sz e f F hF => exact fun _ => .nil sz e f F hF
 | wG sz n e f F b off c a cur vf hF hb hlen hc ha dZ aJ kV sW yy CY ih =>
  intro hg
  cases hg with
  | mk _ _ _ _ _ h1 h2 =>
   exact .wG sz n e f F b off c a cur vf hF hb hlen hc ha dZ aJ (fun i j pv hi hj => by
    cases hx : eL pv with
    | false => exact (kV i j pv hi hj).imp_left (fun q => hG pv _ (h1 i j pv hi hj hx) q)
    | true => exact .inr (by cases pv <;> first | exact ⟨_, _, _, _, _, rfl⟩ | cases hx)) (fun i j bx n' e' f' F' hi hj => ih i j bx n' e' f' F' hi hj (h2 i j bx n' e' f' F' hi hj)) yy CY
theorem jZ.all {S : Nat → Prop} {w : World} {pv : PV} {v : Value} (h : jZ S w pv v) : OG (fun _ => True) pv := by
 induction h with
 | nil sz e f F hF => exact .mk sz 0 e f F (fun _ _ _ _ _ _ => trivial) (fun i j _ _ _ _ _ hi => absurd hi (atq _))
 | wG sz n e f F b off c a cur vf hF hb hlen hc ha dZ aJ kV sW yy CY ih => exact .mk sz n e f F (fun _ _ _ _ _ _ => trivial) ih
theorem jZ.one {S : Nat → Prop} {w : World} {pv : PV} {v : Value} (h : jZ S w pv v) : v.oneCell' = true := by cases h <;> rfl
section
variable {μ μ' : Mu} {h h' : List ar} {S S' : Nat → Prop} {w w' : World}
theorem bq.jy {pv : PV} {v : Value} (hp : aF S w pv v) : bq μ h S w pv v := by
 cases hp <;> first | exact .int _ _ | exact .bool _ | exact .str _ | exact .bm | exact .dA | exact .fn _ | exact .mr _ _ _ _ | (rename_i h1 h2 h3 h4 h5 _; first | exact .eG _ _ _ _ _ _ _ ‹_› ‹_› ‹_› ‹_› ‹_›) | exact .eh _ _ _ _ ‹_› ‹_› ‹_›
theorem bq.fr (hf : Fr μ h S w μ' h' S' w') (hm : n7 μ h S w) {pv : PV} {v : Value} (hc : bq μ h S w pv v) : bq μ' h' S' w' pv v := by
 have hS : ∀ b, S b → w'.heap[b]? = w.heap[b]? := fun b hb => hf.blocks b (hm.slt b hb) (fun ho => hm.apart b ho hb)
 have p7 : ∀ (id gen i off : Nat) (v : Value), ba μ h w id gen i off v → ba μ' h' w' id gen i off v := fun id gen i off v hc => by
  unfold ba at hc ⊢
  obtain ⟨hv0, hc⟩ := hc
  refine ⟨hv0, ?_⟩
  cases ho : h[id]? with
  | none => rw [ho] at hc; exact hc.elim
  | some o =>
   cases o with
   | dead => rw [hf.dead id ho]; trivial
   | row g sz n e f =>
    rw [ho] at hc
    have hg := hf.xe id g sz n e f ho
    cases Ix : h'[id]? with
    | none => rw [Ix] at hg; exact hg
    | some o' =>
     cases o' with
     | dead => trivial
     | row g' bx n' e' f' =>
      rw [Ix] at hg
      obtain ⟨hle, iN⟩ := hg
      obtain ⟨acK, hc⟩ := hc
      refine ⟨att acK hle, fun he => ?_⟩
      have heq : g' = g := by omega
      obtain ⟨hμ, rfl, rfl, rfl⟩ := iN heq
      obtain ⟨h1, h2⟩ := hc avh
      refine ⟨h1, ?_⟩
      rw [hμ]
      obtain ⟨b, base, q1, q2, q3⟩ := h2
      exact ⟨b, base, q1, ⟨hf.bs b _ (.inl ⟨id, g, _, _, _, _, base, ho, q1⟩) q2.1, q2.2⟩, q3⟩
 cases pv with
 | own id gen off len =>
  have hc : aW μ h w id gen off len v := hc
  show aW μ' h' w' id gen off len v
  unfold aW at hc ⊢
  obtain ⟨hv0, hc⟩ := hc
  refine ⟨hv0, ?_⟩
  cases ho : h[id]? with
  | none => rw [ho] at hc; exact hc.elim
  | some o =>
   cases o with
   | dead => rw [hf.dead id ho]; trivial
   | row g sz n e f =>
    rw [ho] at hc
    have hg := hf.xe id g sz n e f ho
    cases Ix : h'[id]? with
    | none => rw [Ix] at hg; exact hg
    | some o' =>
     cases o' with
     | dead => trivial
     | row g' bx n' e' f' =>
      rw [Ix] at hg
      obtain ⟨hle, iN⟩ := hg
      obtain ⟨acK, hc⟩ := hc
      refine ⟨att acK hle, fun he => ?_⟩
      have heq : g' = g := by omega
      obtain ⟨hμ, rfl, rfl, rfl⟩ := iN heq
      obtain ⟨h1, h2⟩ := hc avh
      refine ⟨h1, ?_⟩
      rw [hμ]
      cases eg : μ id with
      | none => rw [eg] at h2; exact h2
      | some p =>
       obtain ⟨b, base⟩ := p
       rw [eg] at h2
       obtain ⟨a, cap, h3, h4, h5, h6⟩ := h2
       exact ⟨a, cap, h3, h4, h5, hf.bs b _ (.inl ⟨id, g, _, _, _, _, base, ho, eg⟩) h6⟩
 | aL id gen i off => exact p7 _ _ _ _ _ hc
 | lv f bs => exact oQ.mono (show lC μ h w f bs v from hc) (fun id g u hu => p7 _ _ _ _ _ hu)
 | lj id =>
  have hc : eH μ h w id v := hc
  show eH μ' h' w' id v
  unfold eH at hc ⊢
  obtain ⟨hv0, hc⟩ := hc
  refine ⟨hv0, ?_⟩
  cases ho : h[id]? with
  | none => rw [ho] at hc; exact hc.elim
  | some o =>
   cases o with
   | dead => rw [hf.dead id ho]; trivial
   | row g sz n e f =>
    rw [ho] at hc
    obtain ⟨b, base, q1, q2, q3⟩ := hc
    obtain ⟨r1, r2⟩ := hf.maps id g sz n e f b base ho q1 q2
    rcases r2 with r2 | ⟨⟨g', bx, n', e', f', r2⟩, r3⟩
    ·rw [r2]; trivial
    ·rw [r2]; exact ⟨b, base, r3, r1, q3⟩
 | gv => exact hc
 | fJ sz n e f F => exact hc
 | agg cs => exact hc.elim
 | aV cs => exact hc.elim
 | int k n => exact aF.mono hS hf.sub hc
 | bool b => exact aF.mono hS hf.sub hc
 | str s => exact aF.mono hS hf.sub hc
 | bm => exact aF.mono hS hf.sub hc
 | dA => exact aF.mono hS hf.sub hc
 | eG sz n f => exact aF.mono hS hf.sub hc
 | eh cs => exact aF.mono hS hf.sub hc
 | fn f => exact aF.mono hS hf.sub hc
theorem gJ.fr (hf : Fr μ h S w μ' h' S' w') (hm : n7 μ h S w) {pv : PV} {v : Value} (hc : gJ μ h S w pv v) : gJ μ' h' S' w' pv v := by
 cases pv with
 | agg cs =>
  obtain ⟨vs, h1, h2, h3⟩ := hc
  exact ⟨vs, h1, h2, fun j pv hj => let ⟨u, hu, hr⟩ := h3 j pv hj; ⟨u, hu, hr.fr hf hm⟩⟩
 | int k n => exact bq.fr (pv := .int k n) hf hm hc
 | bool b => exact bq.fr (pv := .bool b) hf hm hc
 | str s => exact bq.fr (pv := .str s) hf hm hc
 | bm  => exact bq.fr (pv := .bm ) hf hm hc
 | dA => exact bq.fr (pv := .dA ) hf hm hc
 | eG sz n f => exact bq.fr (pv := .eG sz n f) hf hm hc
 | eh cs => exact bq.fr (pv := .eh cs) hf hm hc
 | own id gen off len => exact bq.fr (pv := .own id gen off len) hf hm hc
 | aL id gen i off => exact bq.fr (pv := .aL id gen i off) hf hm hc
 | lj id => exact bq.fr (pv := .lj id) hf hm hc
 | lv f bs => exact bq.fr (pv := .lv f bs) hf hm hc
 | fn f => exact bq.fr (pv := .fn f) hf hm hc
 | gv => trivial
 | fJ sz n e f F => exact bq.fr (pv := .fJ sz n e f F) hf hm hc
 | aV cs => exact (show False from hc).elim
theorem aZ.fr (hf : Fr μ h S w μ' h' S' w') (hm : n7 μ h S w) {pv : PV} {v : Value} (hc : aZ μ h S w pv v) : aZ μ' h' S' w' pv v := by
 cases pv with
 | aV cs =>
  obtain ⟨vs, h1, h2, h3⟩ := hc
  exact ⟨vs, h1, h2, fun j pv hj => let ⟨u, hu, hr⟩ := h3 j pv hj; ⟨u, hu, hr.fr hf hm⟩⟩
 | int k n => exact gJ.fr (pv := .int k n) hf hm hc
 | bool b => exact gJ.fr (pv := .bool b) hf hm hc
 | str s => exact gJ.fr (pv := .str s) hf hm hc
 | bm  => exact gJ.fr (pv := .bm ) hf hm hc
 | dA => exact gJ.fr (pv := .dA ) hf hm hc
 | eG sz n f => exact gJ.fr (pv := .eG sz n f) hf hm hc
 | eh cs => exact gJ.fr (pv := .eh cs) hf hm hc
 | own id gen off len => exact gJ.fr (pv := .own id gen off len) hf hm hc
 | aL id gen i off => exact gJ.fr (pv := .aL id gen i off) hf hm hc
 | lj id => exact gJ.fr (pv := .lj id) hf hm hc
 | lv f bs => exact gJ.fr (pv := .lv f bs) hf hm hc
 | fn f => exact gJ.fr (pv := .fn f) hf hm hc
 | gv => trivial
 | fJ sz n e f F => exact gJ.fr (pv := .fJ sz n e f F) hf hm hc
 | agg cs => exact gJ.fr (pv := .agg cs) hf hm hc
theorem aF.one {pv : PV} {v : Value} (hp : aF S w pv v) : v.oneCell' = true := by cases hp <;> rfl
theorem bq.one {pv : PV} {v : Value} (hc : bq μ h S w pv v) : v.oneCell' = true := by
 cases pv with
 | own id gen off len =>
  obtain ⟨⟨a, l, c, rfl⟩, _⟩ := (show aW μ h w id gen off len v from hc)
  rfl
 | aL id gen i off =>
  obtain ⟨⟨a, rfl⟩, _⟩ := (show ba μ h w id gen i off v from hc)
  rfl
 | lj id =>
  obtain ⟨⟨a, rfl⟩, _⟩ := (show eH μ h w id v from hc)
  rfl
 | lv f bs =>
  obtain ⟨vs, rfl, _⟩ := (show lC μ h w f bs v from hc)
  rfl
 | gv => exact hc
 | fJ sz n e f F => exact hc
 | agg cs => exact (show False from hc).elim
 | aV cs => exact (show False from hc).elim
 | int k n => exact aF.one (show aF S w _ v from hc)
 | bool b => exact aF.one (show aF S w _ v from hc)
 | str s => exact aF.one (show aF S w _ v from hc)
 | bm => exact aF.one (show aF S w _ v from hc)
 | dA => exact aF.one (show aF S w _ v from hc)
 | eG sz n f => exact aF.one (show aF S w _ v from hc)
 | eh cs => exact aF.one (show aF S w _ v from hc)
 | fn f => exact aF.one (show aF S w _ v from hc)
theorem lz.c {pv : PV} {v : Value} (hc : lz μ h S w pv v) : bq μ h S w pv v := by
 cases pv with
 | fJ sz n e f F => exact jZ.one (show jZ S w (.fJ sz n e f F) v from hc)
 | _ => exact hc
theorem bq.k {pv : PV} {v : Value} (hc : bq μ h S w pv v) (ho : eL pv = false) : lz μ h S w pv v := by
 cases pv with
 | fJ sz n e f F => cases ho
 | _ => exact hc
theorem lz.fr (hf : Fr μ h S w μ' h' S' w') (hm : n7 μ h S w) {pv : PV} {v : Value} (hF : ∀ sz n e f F, pv = .fJ sz n e f F → ∀ b, F b → w'.heap[b]? = w.heap[b]?) (hc : lz μ h S w pv v) : lz μ' h' S' w' pv v := by
 cases pv with
 | fJ sz n e f F => exact jZ.mono (fun b hb => hf.blocks b (hm.slt b hb) (fun ho => hm.apart b ho hb)) hf.sub (show jZ S w (.fJ sz n e f F) v from hc) hF
 | _ => exact (bq.fr hf hm (lz.c hc)).k rfl
theorem sw {id i j b : Nat} : ¬ cH [] id i j b := fun ⟨_, _, _, _, _, _, _, _, _, _, h1, _⟩ => by simp at h1
theorem jz {μ : Mu} {b : Nat} : ¬ bP μ [] b := fun h => by
 rcases h with ⟨id, g, sz, n, e, f, base, h1, _⟩ | ⟨_, _, _, h1⟩
 ·simp at h1
 ·exact sw h1
theorem Fr.refl : Fr μ h S w μ h S w where
 len := asA _
 blocks _ _ _ := rfl
 sub _ hb := hb
 new _ hb := .inl hb
 own _ hb := .inl hb
 size := asA _
 os := rfl
 tape := rfl
 output := rfl
 xe id g sz n e f hh := by rw [hh]; exact ⟨asA _, fun _ => ⟨rfl, rfl, rfl, rfl⟩⟩
 dead _ hh := hh
 bs _ _ _ hc := hc
 maps id g sz n e f b base ho hm hb := ⟨hb, .inr ⟨⟨g, sz, n, e, f, ho⟩, hm⟩⟩
 qE b id i j hh hb := hb
theorem Fr.trans {μ'' : Mu} {RT : List ar} {S'' : Nat → Prop} {L9 : World} (a : Fr μ h S w μ' h' S' w') (b : Fr μ' h' S' w' μ'' RT S'' L9) : Fr μ h S w μ'' RT S'' L9 where
 len := att a.len b.len
 blocks k hk hn := (b.blocks k (asY hk a.size) (fun ho => by
  rcases a.own k ho with h1 | h1
  ·exact hn h1
  ·omega)).trans (a.blocks k hk hn)
 sub k hk := b.sub k (a.sub k hk)
 new k hk := by
  rcases b.new k hk with h1 | h1 | h1
  ·exact a.new k h1
  ·rcases a.own k h1 with h2 | h2
   ·exact .inr (.inl h2)
   ·exact .inr (.inr h2)
  ·exact .inr (.inr (att a.size h1))
 own k hk := by
  rcases b.own k hk with h1 | h1
  ·exact a.own k h1
  ·exact .inr (att a.size h1)
 size := att a.size b.size
 os := b.os.trans a.os
 tape := b.tape.trans a.tape
 output := b.output.trans a.output
 xe id g sz n e f hh := by
  have h1 := a.xe id g sz n e f hh
  cases Ix : h'[id]? with
  | none => rw [Ix] at h1; exact h1.elim
  | some o' =>
   cases o' with
   | dead => rw [b.dead id Ix]; trivial
   | row g' bx n' e' f' =>
    rw [Ix] at h1
    have h2 := b.xe id g' bx n' e' f' Ix
    cases ho'' : RT[id]? with
    | none => rw [ho''] at h2; exact h2
    | some o'' =>
     cases o'' with
     | dead => trivial
     | row g'' sz'' n'' e'' f'' =>
      rw [ho''] at h2
      refine ⟨att h1.1 h2.1, fun he => ?_⟩
      have e1 : g' = g := by have := h1.1; have := h2.1; omega
      have e2 : g'' = g' := by omega
      obtain ⟨x1, x2, x3, x4⟩ := h1.2 e1
      obtain ⟨y1, y2, y3, y4⟩ := h2.2 e2
      exact ⟨y1.trans x1, y2.trans x2, y3.trans x3, y4.trans x4⟩
 dead id hh := b.dead id (a.dead id hh)
 bs k c ho hc := by
  have h1 := a.bs k c ho hc
  by_cases h2 : bP μ' h' k
  ·exact b.bs k c h2 h1
  ·refine iJ.of_same (b.blocks k ?_ h2) h1
   obtain ⟨cur, e, z, h3, _⟩ := h1
   exact (asC.1 h3).1
 maps id g sz n e f k base ho hm hb := by
  obtain ⟨h1, h2⟩ := a.maps id g sz n e f k base ho hm hb
  rcases h2 with h2 | ⟨⟨g', bx, n', e', f', h2⟩, h3⟩
  ·refine ⟨?_, .inl (b.dead id h2)⟩
   by_cases h4 : bP μ' h' k
   ·rcases h4 with ⟨j, g', bx, n', e', f', j6, j1, j2⟩ | ⟨j, x, y, h4⟩
    ·exact (b.maps j g' bx n' e' f' k j6 j1 j2 h1).1
    ·exact b.qE k j x y h4 h1
   ·obtain ⟨es, c, h5⟩ := h1
    exact ⟨es, c, (b.blocks k (asC.1 h5).1 h4).trans h5⟩
  ·exact b.maps id g' bx n' e' f' k base h2 h3 h1
 qE k id i j hh hb := by
  have h1 := a.qE k id i j hh hb
  by_cases h4 : bP μ' h' k
  ·rcases h4 with ⟨j, g', bx, n', e', f', j6, j1, j2⟩ | ⟨j, x, y, h4⟩
   ·exact (b.maps j g' bx n' e' f' k j6 j1 j2 h1).1
   ·exact b.qE k j x y h4 h1
  ·obtain ⟨es, c, h5⟩ := h1
   exact ⟨es, c, (b.blocks k (asC.1 h5).1 h4).trans h5⟩
structure bK (w w' : World) : Prop where
 blocks : ∀ b, b < w.heap.size → w'.heap[b]? = w.heap[b]?
 size : w.heap.size ≤ w'.heap.size
 os : w'.os = w.os
 tape : w'.tape = w.tape
 output : w'.output = w.output
theorem bK.refl (w : World) : bK w w := ⟨fun _ _ => rfl, asA _, rfl, rfl, rfl⟩
theorem bK.trans {a b c : World} (x : bK a b) (y : bK b c) : bK a c :=
 ⟨fun k hk => (y.blocks k (asY hk x.size)).trans (x.blocks k hk), att x.size y.size, y.os.trans x.os, y.tape.trans x.tape, y.output.trans x.output⟩
theorem bK.cell {w w' : World} (h : bK w w') {a : Addr} {u : Value} (hc : w.cell? a = some u) : w'.cell? a = some u :=
 (World.cell?_of_block (w := w) (h.blocks a.block (World.block_lt_of_cell? _ _ hc))).trans hc
theorem bK.drew (w : World) : bK w w.drew := ⟨fun _ _ => rfl, asA _, rfl, rfl, rfl⟩
theorem bK.drewN (w : World) (n : Nat) : bK w (w.drewN n) := ⟨fun _ _ => rfl, asA _, rfl, rfl, rfl⟩
theorem iJ.lt {b k : Nat} (h : iJ w b k) : b < w.heap.size := by
 obtain ⟨cur, e, z, h1, _⟩ := h
 exact (asC.1 h1).1
theorem Fr.sh (ha : bK w w') : Fr μ h S w μ h S w' where
 len := asA _
 blocks b hb _ := ha.blocks b hb
 sub _ hb := hb
 new _ hb := .inl hb
 own _ hb := .inl hb
 size := ha.size
 os := ha.os
 tape := ha.tape
 output := ha.output
 xe id g sz n e f hh := by rw [hh]; exact ⟨asA _, fun _ => ⟨rfl, rfl, rfl, rfl⟩⟩
 dead _ hh := hh
 bs b k _ hc := iJ.of_same (ha.blocks b hc.lt) hc
 maps id g sz n e f b base ho hm hb := ⟨let ⟨es, c, h5⟩ := hb; ⟨es, c, (ha.blocks b (asC.1 h5).1).trans h5⟩, .inr ⟨⟨g, sz, n, e, f, ho⟩, hm⟩⟩
 qE b id i j _ hb := let ⟨es, c, h5⟩ := hb; ⟨es, c, (ha.blocks b (asC.1 h5).1).trans h5⟩
theorem n7.xd (hm : n7 μ h S w) (hF : Fr μ h S w μ' h' S' w') : OR S' w' :=
 hm.known.PM (fun b hb => hF.blocks b (hm.slt b hb) (fun ho => hm.apart b ho hb)) hF.sub
theorem n7.agree (ha : bK w w') (hm : n7 μ h S w) : n7 μ h S w' :=
 ⟨hm.apart, fun b hb => asY (hm.lt b hb) ha.size, fun b hb => asY (hm.slt b hb) ha.size, hm.inj, hm.known.PM (fun b hb => ha.blocks b (hm.slt b hb)) (fun _ hb => hb), hm.hv, hm.hh⟩
theorem bA.agree (ha : bK w w') (hm : n7 μ h S w) (hh : bA μ h S w) : bA μ h S w' := by
 intro id g sz n e f ho
 obtain ⟨h1, h2⟩ := hh id g sz n e f ho
 refine ⟨h1, ?_⟩
 cases eg : μ id with
 | none => rw [eg] at h2; exact h2
 | some p =>
  obtain ⟨b, base⟩ := p
  rw [eg] at h2
  obtain ⟨o, h3, h4⟩ := h2
  have cM : b < w.heap.size := (asC.1 h3).1
  exact ⟨o, (ha.blocks b cM).trans h3, h4.mono (fun i j pv v hi hj hr => hr.fr (Fr.sh ha) hm (fun bx n' e' f' F' he b' kU => ha.blocks b' (hm.lt b' (.inr ⟨id, i, j, g, sz, n, e, f, bx, n', e', f', F', ho, hi, by rw [hj, he], kU⟩))))⟩
end
end Go.Am
