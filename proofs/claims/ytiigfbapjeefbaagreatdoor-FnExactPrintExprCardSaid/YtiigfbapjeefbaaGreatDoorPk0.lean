/- Texts of the proof, joined and shortened. -/
import Derived.WalkKit
import Derived.Deep.Draws
import Derived.Deep.Quiet
namespace Go.Am
open Go Go.RowKit
set_option linter.unusedVariables false
abbrev an := @List.length_cons
abbrev mg := @List.length_nil
abbrev An := @List.length_append
abbrev As := @Bool.and_eq_true
abbrev At := @List.getElem?_eq_some_iff
abbrev No := @Nat.eq_of_beq_eq_true
abbrev Of := @List.getElem?_eq_getElem
abbrev adr := @List.map_cons
abbrev amb := @List.append_assoc
abbrev aqP := @Nat.le_refl
abbrev aqQ := @List.nil_append
abbrev aqR := @List.cons_append
abbrev aqS := @List.map_nil
abbrev aqT := @Array.getElem?_eq_some_iff
abbrev aqU := @List.drop_eq_nil_of_le
abbrev aqV := @List.mem_append
abbrev aqW := @List.all_eq_true
abbrev aqX := @List.drop_eq_getElem_cons
abbrev aqY := @List.mem_cons
abbrev aqZ := @Bool.false_eq_true
abbrev ara := @List.drop_zero
abbrev arb := @List.getElem_mem
abbrev arc := @List.getD_eq_getElem?_getD
abbrev ard := @Nat.zero_add
abbrev are := @List.all_cons
abbrev arf := @List.mem_cons_of_mem
abbrev arh := @List.mem_of_getElem?
abbrev ari := @Nat.mul_le_mul_right
abbrev arj := @List.mem_map
abbrev ark := @List.getElem?_map
abbrev arl := @Array.getElem?_eq_getElem
abbrev arn := @List.getElem?_append_right
abbrev aro := @Array.getElem?_toList
abbrev arp := @Nat.le_of_ble_eq_true
abbrev arq := @Nat.add_mul
abbrev ars := @Nat.lt_of_lt_of_le
abbrev art := @List.getElem?_append_left
abbrev aru := @Bool.or_false
abbrev arv := @List.contains_cons
abbrev arw := @List.contains_nil
abbrev arx := @List.map_append
abbrev ary := @Bool.false_or
abbrev arz := @Bool.and_true
abbrev arA := @List.getElem?_eq_none
abbrev arB := @List.all_nil
abbrev arC := @Bool.or_eq_true
abbrev arD := @List.flatMap_cons
abbrev arE := @Bool.not_eq_true'
abbrev arF := @List.getElem?_set_ne
abbrev arG := @Option.some.inj
abbrev arH := @Nat.lt_succ_self
abbrev arI := @Array.getElem?_append_left
abbrev arJ := @Bool.and_false
abbrev arK := @Nat.not_lt_zero
abbrev arL := @Bool.or_true
abbrev arM := @Array.length_toList
abbrev arN := @Nat.le_trans
abbrev arO := @Nat.lt_or_ge
abbrev arP := @Nat.eq_zero_or_pos
abbrev arQ := @Bool.true_or
abbrev arR := @Nat.add_zero
abbrev arS := @Nat.sub_self
abbrev arT := @List.getElem?_drop
abbrev arU := @Array.getElem?_modify
abbrev arV := @Bool.false_and
abbrev arW := @List.mem_iff_getElem
abbrev arX := @Array.eq_empty_of_size_eq_zero
abbrev arY := @Nat.beq_refl
abbrev arZ := @List.mem_append_left
abbrev asa := @Ne.symm
abbrev asb := @List.getElem?_set_self
abbrev asc := @List.append_nil
abbrev asd := @Array.getElem?_setIfInBounds_ne
abbrev ase := @Bool.true_and
abbrev asf := @Bool.eq_iff_iff
abbrev ash := @List.mem_range
abbrev asi := @BEq.rfl
abbrev asj := @List.eq_nil_or_concat
abbrev asl := @List.concat_eq_append
abbrev asm := @Nat.zero_le
abbrev asn := @List.length_map
abbrev aso := @List.length_set
abbrev asp := @Nat.zero_lt_one
abbrev asq := @List.getElem?_take
abbrev asr := @Array.getElem?_map
abbrev ass := @Array.empty_append
abbrev ast := @List.getElem_append_left
abbrev asu := @Nat.add_sub_cancel_left
abbrev asv := @List.getElem?_set
abbrev asw := @List.getElem_cons_zero
abbrev asx := @List.map_toArray
abbrev asy := @List.getElem?_toArray
abbrev asz := @List.getLast?_concat
abbrev asA := @List.dropLast_concat
abbrev asB := @List.append_of_mem
abbrev asC := @Nat.add_assoc
abbrev asD := @Array.size_append
abbrev asE := @List.reverse_nil
abbrev asF := @Option.getD_some
abbrev asG := @Option.bind_some
abbrev asH := @List.not_mem_nil
abbrev asI := @Nat.max_eq_right
theorem asJ {p : Prop} (h : p := by
  obtain rfl := si h
  replace h := gL
  exact eB h) : p := h
theorem asK {p : Prop} (h : p := by
  obtain rfl := si h
  replace h := cz
  exact eB h) : p := h
theorem asL {p : Prop} (h : p := by
  obtain rfl := si h
  replace h := eH
  exact eB h) : p := h
theorem asM {p : Prop} (h : p := by
  obtain rfl := si h
  replace h := tz
  exact eB h) : p := h
theorem asN {p : Prop} (h : p := by
  obtain rfl := si h
  replace h := lf
  exact eS h) : p := h
theorem asO {p : Prop} (h : p := by
  obtain rfl := si h
  replace h := iM
  exact eS h) : p := h
theorem asP {p : Prop} (h : p := by
  obtain rfl := si h
  replace h := ma
  exact eB h) : p := h
theorem asQ {p : Prop} (h : p := by
  rintro _ _ ⟨y1, rfl, rfl, rfl⟩
  replace h := uH
  exact .d (eI h)) : p := h
theorem asR {p : Prop} (h : p := by
  obtain rfl := si h
  replace h := tE
  exact eB h) : p := h
theorem asS {p : Prop} (h : p := by
  obtain rfl := si h
  replace h := xC
  exact eB h) : p := h
theorem asT {p : Prop} (h : p := by
  obtain ⟨dst, op, ty, pos, after, guard⟩ := o
  subst hg
  exact hp) : p := h
theorem asU {p : Prop} (h : p := by
  intro F0 F1 lu lv a0 y5 y6 o h
  exact .mk F0 lu F1 lv a0 y5 y6 o h) : p := h
theorem asV {p : Prop} (h : p := by
  obtain ⟨e, he, hb, rfl⟩ := (kC qW).1 qc
  exact (U3 _ (jU i pG _ qc).1).1 (BT e he hb)) : p := h
theorem asW {p : Prop} (h : p := by exact ct ⟨_, si h, rfl, rfl⟩ (tk [0] ⟨.p, .i, .i, .b, ⟨⟩⟩ ⟨(cF rfl), ⟨⟩⟩)) : p := h
theorem asX {p : Prop} (h : p := by exact ct ⟨_, si h, rfl, rfl⟩ (tk [0] ⟨.p, .b, .b, .i, .b, ⟨⟩⟩ ⟨(cF rfl), ⟨⟩⟩)) : p := h
theorem asY {p : Prop} (h : p := by exact hp.elim) : p := h
theorem asZ {p : Prop} (h : p := by exact ct ⟨si h, rfl, rfl⟩ (tk [] ⟨⟩ ⟨⟩)) : p := h
theorem ata {p : Prop} (h : p := by exact .d (eI h)) : p := h
theorem atb {p : Prop} (h : p := by exact ct ⟨_, si h, rfl, rfl⟩ (tk [0] ⟨.p, .i, .b, .b, .i, .b, ⟨⟩⟩ ⟨(cF rfl), ⟨⟩⟩)) : p := h
theorem atc {p : Prop} (h : p := by exact ct ⟨_, si h, rfl, rfl⟩ (tk [] ⟨.i, .b, ⟨⟩⟩ ⟨⟩)) : p := h
theorem atd {p : Prop} (h : p := by exact .d (eB h)) : p := h
theorem ate {p : Prop} (h : p := by exact ct ⟨_, si h, rfl, rfl⟩ (tk [0] ⟨.p, .i, .b, ⟨⟩⟩ ⟨(cF rfl), ⟨⟩⟩)) : p := h
theorem atf {p : Prop} (h : p := by exact ct ⟨_, si h, rfl, rfl⟩ (tk [0] ⟨.p, .i, .b, .i, .b, ⟨⟩⟩ ⟨(cF rfl), ⟨⟩⟩)) : p := h
theorem atg {p : Prop} (h : p := by exact ⟨_, hu, rfl, h1, No h2, h4, fun u => by rw [show 9999 = 9998 + 1 from rfl, Instr.checkKey]; simp [run_underlying hu]⟩) : p := h
theorem ath {p : Prop} (h : p := by exact ct ⟨_, si h, rfl, rfl⟩ (tk [] ⟨.i, ⟨⟩⟩ ⟨⟩)) : p := h
theorem ati {p : Prop} (h : p := by exact ct ⟨_, si h, rfl, rfl⟩ (tk [0] ⟨.p, .l, .s, ⟨⟩⟩ ⟨(cF rfl), ⟨⟩⟩)) : p := h
theorem atj {p : Prop} (h : p := by exact ct ⟨_, si h, rfl, rfl⟩ (tk [0] ⟨.b, .b, .p, .l, .i, .i, ⟨⟩⟩ ⟨(cF rfl), ⟨⟩⟩)) : p := h
theorem atk {p : Prop} (h : p := by exact ct ⟨_, si h, rfl, rfl⟩ (tk [] ⟨.s, ⟨⟩⟩ ⟨⟩)) : p := h
theorem atl {p : Prop} (h : p := by exact .f (.f (.f (eB h)))) : p := h
theorem atm {p : Prop} (h : p := by exact .inr (.inl h)) : p := h
theorem atn {p : Prop} (h : p := by exact lg (HO _ _ _ h rfl) (tk [] ⟨.l, .b, .b, .i, .i, ⟨⟩⟩ ⟨⟩)) : p := h
theorem ato {p : Prop} (h : p := by exact ⟨aqP _, fun _ => ⟨rfl, rfl, rfl, rfl⟩⟩) : p := h
theorem atp {p : Prop} (h : p := by exact ct ⟨_, si h, rfl, rfl⟩ (tk [0] ⟨.o, ⟨⟩⟩ ⟨nw, ⟨⟩⟩)) : p := h
theorem atq {p : Prop} (h : p := by exact ⟨_, _, _, _, _, _, _, _, _, _, q1, q2, q3, q4⟩) : p := h
theorem atr {p : Prop} (h : p := by exact .f (.f (.f (.f (.f (.f (.f (.f (eB h))))))))) : p := h
theorem ats {p : Prop} (h : p := by exact .inr ⟨_, _, _, q⟩) : p := h
theorem att {p : Prop} (h : p := by omega) : p := h
theorem atu {p : Prop} (h : p := by simp only [bK, aK, adr, aqS, List.drop, an, mg, iR, iP]; rfl) : p := h
theorem atv {p : Prop} (h : p := by simp) : p := h
theorem atw {p : Prop} (h : p := by simp [Op.operands]) : p := h
theorem atx {p : Prop} (h : p := by simp; omega) : p := h
theorem aty {p : Prop} (h : p := by simp only [An, an, mg]; omega) : p := h
theorem atz {p : Prop} (h : p := by simp only [an]; omega) : p := h
theorem atA {p : Prop} (h : p := by simp [Region.wanted, hg, hy]) : p := h
theorem atB {p : Prop} (h : p := by decide) : p := h
theorem atC {p : Prop} (h : p := by simpa using hj) : p := h
theorem atD {p : Prop} (h : p := by kernel_rfl) : p := h
theorem atE {p : Prop} (h : p := by simp only [an, mg]; omega) : p := h
theorem atF {p : Prop} (h : p := by have := dU hx; have := dU hy; omega) : p := h
theorem atG {p : Prop} (h : p := by simp [hx]) : p := h
theorem atH {p : Prop} (h : p := by have := dU hx; omega) : p := h
theorem atI {p : Prop} (h : p := by have := ff hx; have := ff hy; omega) : p := h
theorem atJ {p : Prop} (h : p := by simpa using h) : p := h
theorem atK {p : Prop} (h : p := by simp [n9]) : p := h
theorem atL {p : Prop} (h : p := by rw [← hf i hi]; exact hj) : p := h
theorem atM {p : Prop} (h : p := by simpa using hy) : p := h
theorem atN {p : Prop} (h : p := by simpa using h2) : p := h
theorem atO {p : Prop} (h : p := by simpa using h1) : p := h
theorem atP {p : Prop} (h : p := by simp [Region.wanted, hg, nQ hs hj he]) : p := h
theorem atQ {p : Prop} (h : p := by rw [he]; exact hu) : p := h
theorem atS {p : Prop} (h : p := by have := ff hx; omega) : p := h
theorem atT {p : Prop} (h : p := by simpa using hb) : p := h
theorem atU {p : Prop} (h : p := by simpa using fv) : p := h
theorem atV {p : Prop} (h : p := by simp at hx ⊢; exact .inr hx) : p := h
theorem atW {p : Prop} (h : p := by subst hy; simp [Op.operands]) : p := h
theorem atX {p : Prop} (h : p := by rw [ara, decide_eq_true rfl]; simp only [An, an, mg]; omega) : p := h
theorem atY {p : Prop} (h : p := by simp only [arx, aqV]; exact .inl (arj.2 ⟨q, hq, rfl⟩)) : p := h
theorem atZ {p : Prop} (h : p := by simp [hy]) : p := h
theorem aua {p : Prop} (h : p := by rw [oB]; exact ns) : p := h
theorem aub {p : Prop} (h : p := by obtain ⟨h1, h2⟩ := At.1 uy; rw [← h2]; exact arb h1) : p := h
theorem auc {p : Prop} (h : p := by simp [Op.operands]; exact ⟨p.1, by simpa using hp⟩) : p := h
end Go.Am
set_option linter.unusedVariables false
set_option linter.unusedSimpArgs false
namespace Go.Am
open Go
def AJ : List Int := [1, 10, 100, 1000, 10000, 100000, 1000000, 10000000, 100000000, 1000000000, 10000000000, 100000000000, 1000000000000, 10000000000000, 100000000000000, 1000000000000000, 10000000000000000, 100000000000000000, 1000000000000000000, 10000000000000000000]
def yI : List (Nat × Array Value) := [(1, (AJ.map fun z => Value.int .u64 z).toArray)]
def Bf : List Nat := []
def yJ : List Nat := [0]
def Nb : Nat := 51
end Go.Am
namespace Go.Am
open Go Go.RowKit
inductive PV where
 | int (k : IntKind) (n : Int)
 | bool (b : Bool)
 | str (s : List UInt8)
 | bf
 | dt
 | eu (sz n : Nat) (f : Nat → List PV)
 | dY (cells : List PV)
 | own (id gen off len : Nat)
 | aM (id gen i off : Nat)
 | kP (id : Nat)
 | kX (f : Nat) (bp : List (Nat × Nat))
 | fn (f : Nat)
 | agg (cs : List PV)
 | aU (vs : List PV)
 | fO
 | fm (sz n : Nat) (e : TypeId) (f : Nat → List PV) (F : Nat → Prop)
 deriving Inhabited
abbrev Env := Nat → PV
inductive ak where
 | row (gen sz n : Nat) (e : TypeId) (f : Nat → List PV)
 | dead
 deriving Inhabited
inductive TI where
 | int (k : IntKind)
 | bool
 | str
 | slice (e sz bytes : Nat) (zero : List PV)
 | struct (sz : Nat) (fields : List (Nat × Nat × Bool)) (zero : List PV)
 | ptr (e : Nat)
 | map (k e : Nat) (zero : PV)
 | other
 deriving Inhabited
structure lq where
 get : Nat → TI
def l7 (env : Env) (t : Nat) (v : PV) : Env := fun j => bif Nat.beq j t then v else env j
def cp (env : Env) (d : Option Nat) (v : PV) : Env := match d with | some t => l7 env t v | none => env
def tm (env : Env) : List (Nat × PV) → Env
 | [] => env
 | (t, v) :: r => l7 (tm env r) t v
inductive eA (b : Bool) (T F : Prop) : Prop
 | mk (ht : b = true → T) (hf : b = false → F) : eA b T F
theorem iV {b : Bool} {T F : Prop} (h : eA b T F) : (b = true → T) ∧ (b = false → F) := by cases h with | mk a b => exact ⟨a, b⟩
def cC (b : Bool) (K : Prop) : Prop := match b with | true => K | false => False
theorem aR {b : Bool} {K : Prop} (h : cC b K) : b = true ∧ K := by cases b; exact h.elim; exact ⟨rfl, h⟩
def mC : IntKind → IntKind → Bool
 | .i8, .i8 => true
 | .i16, .i16 => true
 | .i32, .i32 => true
 | .i64, .i64 => true
 | .u8, .u8 => true
 | .u16, .u16 => true
 | .u32, .u32 => true
 | .u64, .u64 => true
 | _, _ => false
theorem dq {k k' : IntKind} (h : mC k k' = true) : k = k' := by cases k <;> cases k' <;> first | rfl | cases h
def Zv : Value → Option PV
 | .int k n => some (.int k n)
 | .bool b => some (.bool b)
 | .string s => some (.str s.data.toList)
 | .slice none 0 0 => some .bf
 | .pointer none => some .dt
 | _ => none
def Fi : List Value → Option (List PV)
 | [] => some []
 | v :: r => match Zv v, Fi r with
  | some p, some l => some (p :: l)
  | _, _ => none
def ang : Option (List PV) → PV
 | some l => .agg l
 | none => .fO
def ofValue : Value → PV
 | .int k n => .int k n
 | .bool b => .bool b
 | .string s => .str s.data.toList
 | .slice none 0 0 => .bf
 | .pointer none => .dt
 | .agg vs => ang (Fi vs.toList)
 | _ => .fO
inductive G8 : PV → PV → Prop
 | same (a : PV) : G8 a a
 | nil (sz : Nat) (f : Nat → List PV) : G8 .bf (.eu sz 0 f)
 | Fs (sz : Nat) (e : TypeId) (f : Nat → List PV) : G8 .bf (.fm sz 0 e f (fun _ => False))
def mm : List PV → List PV → Prop
 | [], [] => True
 | a :: l, b :: r => G8 a b ∧ mm l r
 | _, _ => False
def ev (env : Env) : Operand → PV
 | .tmp t => env t
 | .const v => ofValue v
 | .func f => .fn f
 | .global _ => .fO
abbrev Mu := Nat → Option (Nat × Nat)
inductive aE (S : Nat → Prop) (w : World) : PV → Value → Prop
 | int (k : IntKind) (n : Int) : aE S w (.int k n) (.int k n)
 | bool (b : Bool) : aE S w (.bool b) (.bool b)
 | str (s : List UInt8) : aE S w (.str s) (.string ⟨⟨s⟩⟩)
 | bf : aE S w .bf (.slice none 0 0)
 | dt : aE S w .dt (.pointer none)
 | fn (f : Nat) : aE S w (.fn f) (.func (.func f) #[] #[])
 | lV (sz : Nat) (f : Nat → List PV) (a : Option Addr) (c : Nat) : aE S w (.eu sz 0 f) (.slice a 0 c)
 | eu (sz n : Nat) (f : Nat → List PV) (b off c : Nat) (vf : Nat → Nat → Value) (hS : S b) (hlen : ∀ i, i < n → (f i).length = sz) (hc : n ≤ c)
   (aI : ∀ (i j : Nat) (pv : PV), i < n → (f i)[j]? = some pv → w.cell? ⟨b, off + i * sz + j, none⟩ = some (vf i j))
   (ku : ∀ (i j : Nat) (pv : PV), i < n → (f i)[j]? = some pv → aE S w pv (vf i j)) : aE S w (.eu sz n f) (.slice (some ⟨b, off, none⟩) n c)
 | dY (cs : List PV) (b off : Nat) (vf : Nat → Value) (hS : S b)
   (aI : ∀ (j : Nat) (pv : PV), cs[j]? = some pv → w.cell? ⟨b, off + j, none⟩ = some (vf j))
   (ku : ∀ (j : Nat) (pv : PV), cs[j]? = some pv → aE S w pv (vf j)) : aE S w (.dY cs) (.pointer (some ⟨b, off, none⟩))
inductive jH (S : Nat → Prop) (w : World) : PV → Value → Prop
 | nil (sz : Nat) (e : TypeId) (f : Nat → List PV) (F : Nat → Prop) (hF : ∀ b, ¬ F b) : jH S w (.fm sz 0 e f F) (.slice none 0 0)
 | vh (sz n : Nat) (e : TypeId) (f : Nat → List PV) (F : Nat → Prop) (b off c : Nat) (a : Addr) (cur : Array Value) (vf : Nat → Nat → Value) (hF : F b) (hb : w.heap[b]? = some (.cells cur e (0, 0))) (hlen : ∀ i, i < n → (f i).length = sz) (hc : n ≤ c)
   (ha : 0 < c → a = ⟨b, off, none⟩) (dT : off + c * sz ≤ cur.size)
   (aI : ∀ (i j : Nat) (pv : PV), i < n → (f i)[j]? = some pv → cur[off + i * sz + j]? = some (vf i j))
   (ku : ∀ (i j : Nat) (pv : PV), i < n → (f i)[j]? = some pv → aE S w pv (vf i j) ∨ ∃ bs n' e' f' F', pv = .fm bs n' e' f' F')
   (rS : ∀ (i j bs n' : Nat) (e' : TypeId) (f' : Nat → List PV) (F' : Nat → Prop), i < n → (f i)[j]? = some (.fm bs n' e' f' F') → jH S w (.fm bs n' e' f' F') (vf i j))
   (xl : ∀ (i j bs n' : Nat) (e' : TypeId) (f' : Nat → List PV) (F' : Nat → Prop), i < n → (f i)[j]? = some (.fm bs n' e' f' F') → ∀ b', F' b' → F b' ∧ b' ≠ b)
   (BP : ∀ (i j bs n' : Nat) (e' : TypeId) (f' : Nat → List PV) (F' : Nat → Prop) (i2 j2 lh n2 : Nat) (e2 : TypeId) (f2 : Nat → List PV) (F2 : Nat → Prop), i < n → (f i)[j]? = some (.fm bs n' e' f' F') → i2 < n → (f i2)[j2]? = some (.fm lh n2 e2 f2 F2) →
    ∀ b', F' b' → F2 b' → i = i2 ∧ j = j2) : jH S w (.fm sz n e f F) (.slice (some a) n c)
def iq (w : World) (b k : Nat) : Prop := ∃ cur e z, w.heap[b]? = some (.cells cur e z) ∧ k ≤ cur.size
def aV (μ : Mu) (h : List ak) (w : World) (id gen off len : Nat) (v : Value) : Prop :=
 (∃ a l c, v = .slice a l c) ∧ match h[id]? with
 | some (ak.row g sz n _ _) => gen ≤ g ∧ (gen = g → off + len ≤ n ∧ match μ id with
  | none => v = .slice none 0 0
  | some (b, base) => ∃ a cap, v = .slice (some a) len cap ∧ len ≤ cap ∧ (0 < cap → a = ⟨b, base + off * sz, none⟩) ∧ iq w b (base + (off + cap) * sz))
 | some ak.dead => True
 | none => False
def a6 (μ : Mu) (h : List ak) (w : World) (id gen i off : Nat) (v : Value) : Prop :=
 (∃ a, v = .pointer a) ∧ match h[id]? with
 | some (ak.row g sz n e _) => gen ≤ g ∧ (gen = g → i < n ∧ ∃ b base, μ id = some (b, base) ∧ (iq w b 0 ∧ (Nat.beq e Nb = true → base = 0)) ∧ v = .pointer (some ⟨b, base + i * sz + off, none⟩))
 | some ak.dead => True
 | none => False
def my (w : World) (b : Nat) : Prop := ∃ es clock, w.heap[b]? = some (.map es clock)
def ew (μ : Mu) (h : List ak) (w : World) (id : Nat) (v : Value) : Prop :=
 (∃ a, v = .map a) ∧ match h[id]? with
 | some (ak.row _ _ _ _ _) => ∃ b base, μ id = some (b, base) ∧ my w b ∧ v = .map (some b)
 | some ak.dead => True
 | none => False
def oh (O : Nat → Nat → Value → Prop) (f : Nat) (bp : List (Nat × Nat)) (v : Value) : Prop :=
 ∃ vs : Array Value, v = .func (.func f) #[] vs ∧ vs.size = bp.length ∧ ∀ (j : Nat) (p : Nat × Nat), bp[j]? = some p → ∃ u : Value, vs[j]? = some u ∧ O p.1 p.2 u
theorem oh.mono {O O' : Nat → Nat → Value → Prop} {f : Nat} {bp : List (Nat × Nat)} {v : Value} (h : oh O f bp v) (hO : ∀ id g u, O id g u → O' id g u) : oh O' f bp v := by
 obtain ⟨vs, h1, h2, h3⟩ := h
 exact ⟨vs, h1, h2, fun j p hj => let ⟨u, q1, q2⟩ := h3 j p hj; ⟨u, q1, hO _ _ _ q2⟩⟩
def nT (σ : Nat → Nat) (bp : List (Nat × Nat)) : List (Nat × Nat) := bp.map fun p => (σ p.1, p.2)
theorem oh.map {O : Nat → Nat → Value → Prop} {σ : Nat → Nat} {f : Nat} {bp : List (Nat × Nat)} {v : Value} (h : oh (fun id g u => O (σ id) g u) f bp v) : oh O f (nT σ bp) v := by
 obtain ⟨vs, h1, h2, h3⟩ := h
 refine ⟨vs, h1, by unfold nT; rw [asn]; exact h2, fun j p hj => ?_⟩
 unfold nT at hj
 rw [ark] at hj
 cases hx : bp[j]? with
 | none => rw [hx] at hj; cases hj
 | some q =>
  rw [hx] at hj
  injection hj with hj
  subst hj
  exact h3 j q hx
theorem oh.anf {O : Nat → Nat → Value → Prop} {σ : Nat → Nat} {f : Nat} {bp : List (Nat × Nat)} {v : Value} (h : oh O f (nT σ bp) v) : oh (fun id g u => O (σ id) g u) f bp v := by
 obtain ⟨vs, h1, h2, h3⟩ := h
 refine ⟨vs, h1, by unfold nT at h2; rw [asn] at h2; exact h2, fun j p hj => ?_⟩
 obtain ⟨u, q1, q2⟩ := h3 j (σ p.1, p.2) (by unfold nT; rw [ark, hj]; rfl)
 exact ⟨u, q1, q2⟩
def k6 (μ : Mu) (h : List ak) (w : World) (f : Nat) (bp : List (Nat × Nat)) (v : Value) : Prop := oh (fun id g u => a6 μ h w id g 0 0 u) f bp v
def oX : PV → Bool
 | .int _ _ => true
 | .bool _ => true
 | .str _ => true
 | .fO => true
 | _ => false
def ir : PV → Bool
 | .agg cs => cs.all oX
 | v => oX v
def nY : PV → Value → Prop
 | .int k n, v => v = .int k n
 | .bool b, v => v = .bool b
 | .str s, v => v = .string ⟨⟨s⟩⟩
 | _, v => v.oneCell' = true
def mD : PV → Value → Prop
 | .agg cs, v => ∃ vs : Array Value, v = .agg vs ∧ vs.size = cs.length ∧ ∀ (j : Nat) (pv : PV), cs[j]? = some pv → ∃ u : Value, vs[j]? = some u ∧ nY pv u
 | .fO, _ => True
 | pv, v => nY pv v
def qC (C : PV → Value → Prop) (base sz n : Nat) (e : TypeId) (f : Nat → List PV) : Obj → Prop
 | .cells cur e' z => e' = e ∧ z = (0, 0) ∧ base + n * sz ≤ cur.size ∧ ∀ (i j : Nat) (pv : PV), i < n → (f i)[j]? = some pv → ∃ v : Value, cur[base + i * sz + j]? = some v ∧ C pv v
 | .map es _ => es.size = n ∧ ∀ i, i < n → ∃ (kp vp : PV) (en : MapEntry), f i = [kp, vp] ∧ ir kp = true ∧ ir vp = true ∧ es[i]? = some en ∧ mD kp en.key ∧ mD vp en.val
 | _ => False
theorem qC.mono {C C' : PV → Value → Prop} {base sz n : Nat} {e : TypeId} {f : Nat → List PV} {o : Obj} (h : qC C base sz n e f o) (hc : ∀ (i j : Nat) (pv : PV) (v : Value), i < n → (f i)[j]? = some pv → C pv v → C' pv v) : qC C' base sz n e f o := by
 cases o with
 | cells cur e' z =>
  obtain ⟨h1, h2, h3, h4⟩ := h
  exact ⟨h1, h2, h3, fun i j pv hi hj => let ⟨v, q1, q2⟩ := h4 i j pv hi hj; ⟨v, q1, hc i j pv v hi hj q2⟩⟩
 | map es c => exact h
 | _ => exact h.elim
def bm (μ : Mu) (h : List ak) (S : Nat → Prop) (w : World) : PV → Value → Prop
 | .own id gen off len, v => aV μ h w id gen off len v
 | .aM id gen i off, v => a6 μ h w id gen i off v
 | .kP id, v => ew μ h w id v
 | .kX f bp, v => k6 μ h w f bp v
 | .fO, v => v.oneCell' = true
 | .fm _ _ _ _ _, v => v.oneCell' = true
 | .agg _, _ => False
 | .aU _, _ => False
 | pv, v => aE S w pv v
def k4 (μ : Mu) (h : List ak) (S : Nat → Prop) (w : World) : PV → Value → Prop
 | .fm sz n e f F, v => jH S w (.fm sz n e f F) v
 | pv, v => bm μ h S w pv v
def gn (μ : Mu) (h : List ak) (S : Nat → Prop) (w : World) : PV → Value → Prop
 | .agg cs, v => ∃ vs : Array Value, v = .agg vs ∧ vs.size = cs.length ∧ ∀ (j : Nat) (pv : PV), cs[j]? = some pv → ∃ u : Value, vs[j]? = some u ∧ bm μ h S w pv u
 | .fO, _ => True
 | pv, v => bm μ h S w pv v
def aY (μ : Mu) (h : List ak) (S : Nat → Prop) (w : World) : PV → Value → Prop
 | .aU ps, v => ∃ vs : Array Value, v = .tuple vs ∧ vs.size = ps.length ∧ ∀ (j : Nat) (pv : PV), ps[j]? = some pv → ∃ u : Value, vs[j]? = some u ∧ gn μ h S w pv u
 | pv, v => gn μ h S w pv v
def bw (μ : Mu) (h : List ak) (S : Nat → Prop) (w : World) : Prop :=
 ∀ (id g sz n : Nat) (e : TypeId) (f : Nat → List PV), h[id]? = some (ak.row g sz n e f) → (∀ i, i < n → (f i).length = sz) ∧ match μ id with
  | none => n = 0
  | some (b, base) => ∃ o : Obj, w.heap[b]? = some o ∧ qC (k4 μ h S w) base sz n e f o
theorem bw.cells {μ : Mu} {h : List ak} {S : Nat → Prop} {w : World} {b base k sz n : Nat} {e : TypeId} {f : Nat → List PV} (hc : iq w b k) (ho : ∃ o : Obj, w.heap[b]? = some o ∧ qC (k4 μ h S w) base sz n e f o) :
  ∃ cur : Array Value, w.heap[b]? = some (.cells cur e (0, 0)) ∧ base + n * sz ≤ cur.size ∧
    ∀ (i j : Nat) (pv : PV), i < n → (f i)[j]? = some pv → ∃ v : Value, cur[base + i * sz + j]? = some v ∧ k4 μ h S w pv v := by
 obtain ⟨cur, e', z, h1, _⟩ := hc
 obtain ⟨o, h2, h3⟩ := ho
 obtain rfl := arG (h1.symm.trans h2)
 obtain ⟨rfl, rfl, q1, q2⟩ := h3
 exact ⟨cur, h1, q1, q2⟩
theorem bw.Br {C : PV → Value → Prop} {w : World} {b base sz n : Nat} {e : TypeId} {f : Nat → List PV} (ho : ∃ cur : Array Value, w.heap[b]? = some (.cells cur e (0, 0)) ∧ base + n * sz ≤ cur.size ∧
    ∀ (i j : Nat) (pv : PV), i < n → (f i)[j]? = some pv → ∃ v : Value, cur[base + i * sz + j]? = some v ∧ C pv v) : ∃ o : Obj, w.heap[b]? = some o ∧ qC C base sz n e f o := by
 obtain ⟨cur, h1, h2, h3⟩ := ho
 exact ⟨_, h1, rfl, rfl, h2, h3⟩
def w8 (μ : Mu) (h : List ak) (b : Nat) : Prop := ∃ (id g sz n : Nat) (e : TypeId) (f : Nat → List PV) (base : Nat), h[id]? = some (ak.row g sz n e f) ∧ μ id = some (b, base)
def cA (h : List ak) (id i j b : Nat) : Prop := ∃ (g sz n : Nat) (e : TypeId) (f : Nat → List PV) (bs n' : Nat) (e' : TypeId) (f' : Nat → List PV) (F : Nat → Prop), h[id]? = some (ak.row g sz n e f) ∧ i < n ∧ (f i)[j]? = some (.fm bs n' e' f' F) ∧ F b
def bH (μ : Mu) (h : List ak) (b : Nat) : Prop := w8 μ h b ∨ ∃ id i j, cA h id i j b
def Nn (S : Nat → Prop) (w : World) : Prop := (∀ p, p ∈ yI → S p.1 ∧ ∃ t z, w.heap[p.1]? = some (.cells p.2 t z)) ∧ (∀ g, g ∈ Bf → S g ∧ ∃ tp p t z, w.heap[g]? = some (.cells #[.iface tp p] t z)) ∧
 ∀ g, g ∈ yJ → S g ∧ ∃ m t z, w.heap[g]? = some (.cells #[.int .i64 m] t z)
theorem Nn.Og {S S' : Nat → Prop} {w w' : World} (h : Nn S w) (hb : ∀ b, S b → w'.heap[b]? = w.heap[b]?) (hs : ∀ b, S b → S' b) : Nn S' w' :=
 ⟨fun p hp => ⟨hs _ (h.1 p hp).1, by rw [hb _ (h.1 p hp).1]; exact (h.1 p hp).2⟩, fun g hg => ⟨hs _ (h.2.1 g hg).1, by rw [hb _ (h.2.1 g hg).1]; exact (h.2.1 g hg).2⟩,
  fun g hg => ⟨hs _ (h.2.2 g hg).1, by rw [hb _ (h.2.2 g hg).1]; exact (h.2.2 g hg).2⟩⟩
structure nC (μ : Mu) (h : List ak) (S : Nat → Prop) (w : World) : Prop where
 apart : ∀ b, bH μ h b → ¬ S b
 lt : ∀ b, bH μ h b → b < w.heap.size
 slt : ∀ b, S b → b < w.heap.size
 inj : ∀ (i j g sz n : Nat) (e : TypeId) (f : Nat → List PV) (g' bs n' : Nat) (e' : TypeId) (f' : Nat → List PV) (b o o' : Nat), h[i]? = some (ak.row g sz n e f) → h[j]? = some (ak.row g' bs n' e' f') → μ i = some (b, o) → μ j = some (b, o') → i = j
 known : Nn S w
 hv : ∀ b, w8 μ h b → ∀ id i j, ¬ cA h id i j b
 hh : ∀ b id i j id' i' j', cA h id i j b → cA h id' i' j' b → id = id' ∧ i = i' ∧ j = j'
structure Fr (μ : Mu) (h : List ak) (S : Nat → Prop) (w : World) (μ' : Mu) (h' : List ak) (S' : Nat → Prop) (w' : World) : Prop where
 len : h.length ≤ h'.length
 blocks : ∀ b, b < w.heap.size → ¬ bH μ h b → w'.heap[b]? = w.heap[b]?
 sub : ∀ b, S b → S' b
 new : ∀ b, S' b → S b ∨ bH μ h b ∨ w.heap.size ≤ b
 own : ∀ b, bH μ' h' b → bH μ h b ∨ w.heap.size ≤ b
 size : w.heap.size ≤ w'.heap.size
 os : w'.os = w.os
 tape : w'.tape = w.tape
 output : w'.output = w.output
 vK : ∀ (id g sz n : Nat) (e : TypeId) (f : Nat → List PV), h[id]? = some (ak.row g sz n e f) → match h'[id]? with
  | some (ak.row g' bs n' e' _) => g ≤ g' ∧ (g' = g → μ' id = μ id ∧ bs = sz ∧ n' = n ∧ e' = e)
  | some ak.dead => True
  | none => False
 dead : ∀ id : Nat, h[id]? = some ak.dead → h'[id]? = some ak.dead
 bp : ∀ b k, bH μ h b → iq w b k → iq w' b k
 maps : ∀ (id g sz n : Nat) (e : TypeId) (f : Nat → List PV) (b base : Nat), h[id]? = some (ak.row g sz n e f) → μ id = some (b, base) → my w b →
  my w' b ∧ (h'[id]? = some ak.dead ∨ ((∃ g' bs n' e' f', h'[id]? = some (ak.row g' bs n' e' f')) ∧ μ' id = some (b, base)))
 p8 : ∀ b id i j, cA h id i j b → my w b → my w' b
def af4 (P : Program) (f : FuncId) : Prop := ∃ fn c, P.funcs[f]? = some fn ∧ fn.body = some c ∧ (fn.name == "runtime.NumGoroutine") = false
def ACall (P : Program) (f : FuncId) (args : List PV) (h : List ak) (R : PV → List ak → Prop) : Prop :=
 af4 P f ∧ ∀ (w : World) (vs : Array Value) (μ : Mu) (S : Nat → Prop), bw μ h S w → nC μ h S w → vs.size = args.length →
  (∀ (j : Nat) (pv : PV), args[j]? = some pv → ∃ v : Value, vs[j]? = some v ∧ gn μ h S w pv v) →
  Calls P f vs w (fun e w' => ∃ (v : Value) (res : PV) (h' : List ak) (μ' : Mu) (S' : Nat → Prop), e = .returned v ∧ R res h' ∧ aY μ' h' S' w' res v ∧ bw μ' h' S' w' ∧ nC μ' h' S' w' ∧ Fr μ h S w μ' h' S' w')
def bZ : PV → Bool
 | .int _ _ => true
 | .bool _ => true
 | .str _ => true
 | .bf => true
 | .dt => true
 | .eu _ _ _ => true
 | .dY _ => true
 | .fn _ => true
 | _ => false
def eC : PV → Bool
 | .fm _ _ _ _ _ => true
 | _ => false
inductive vO : PV → PV → Prop
 | mk (sz n : Nat) (e : TypeId) (f f' : Nat → List PV) (F : Nat → Prop) (hl : ∀ i, i < n → (f' i).length = (f i).length) (hf : ∀ (i j : Nat) (pv eg : PV), i < n → (f i)[j]? = some pv → (f' i)[j]? = some eg → eC pv = false → eg = pv) (ho : ∀ (i j : Nat) (pv eg : PV), i < n → (f i)[j]? = some pv → (f' i)[j]? = some eg → eC pv = true → vO pv eg)
   (hp : ∀ (i j : Nat) (eg : PV), i < n → (f' i)[j]? = some eg → bZ eg = true) : vO (.fm sz n e f F) (.eu sz n f')
inductive Fz (h η : List ak) (k : List Nat) : PV → PV → Prop
 | int (k' : IntKind) (n : Int) : Fz h η k (.int k' n) (.int k' n)
 | bool (b : Bool) : Fz h η k (.bool b) (.bool b)
 | str (s : List UInt8) : Fz h η k (.str s) (.str s)
 | bf : Fz h η k .bf .bf
 | dt : Fz h η k .dt .dt
 | UT (sz : Nat) (f : Nat → List PV) : Fz h η k .bf (.eu sz 0 f)
 | amR (id id' g' bs : Nat) (e' : TypeId) (f' : Nat → List PV) (hk : k[id']? = some id) (ho : h[id]? = none) (hη : η[id']? = some (ak.row g' bs 0 e' f')) : Fz h η k .bf (.own id' g' 0 0)
 | fn (f : Nat) : Fz h η k (.fn f) (.fn f)
 | eu (sz n : Nat) (f f' : Nat → List PV) (hf : ∀ i, i < n → f' i = f i) : Fz h η k (.eu sz n f) (.eu sz n f')
 | dY (cs : List PV) : Fz h η k (.dY cs) (.dY cs)
 | fO (pv : PV) : Fz h η k pv .fO
 | fm (sz n : Nat) (e : TypeId) (f : Nat → List PV) (F : Nat → Prop) : Fz h η k (.fm sz n e f F) (.fm sz n e f F)
 | Fs (sz : Nat) (e : TypeId) (f : Nat → List PV) : Fz h η k .bf (.fm sz 0 e f (fun _ => False))
 | own (id id' g g' sz bs n n' off len : Nat) (e e' : TypeId) (f f' : Nat → List PV) (hk : k[id']? = some id) (ho : h[id]? = some (ak.row g sz n e f)) (hη : η[id']? = some (ak.row g' bs n' e' f')) (hn : off + len ≤ n') : Fz h η k (.own id g off len) (.own id' g' off len)
 | aM (id id' g g' sz bs n n' i off : Nat) (e e' : TypeId) (f f' : Nat → List PV) (hk : k[id']? = some id) (ho : h[id]? = some (ak.row g sz n e f)) (hη : η[id']? = some (ak.row g' bs n' e' f')) (hn : i < n') : Fz h η k (.aM id g i off) (.aM id' g' i off)
 | kP (id id' g g' sz bs n n' : Nat) (e e' : TypeId) (f f' : Nat → List PV) (hk : k[id']? = some id) (ho : h[id]? = some (ak.row g sz n e f)) (hη : η[id']? = some (ak.row g' bs n' e' f')) : Fz h η k (.kP id) (.kP id')
 | kX (f : Nat) (bp BQ : List (Nat × Nat)) (hl : BQ.length = bp.length) (hc : ∀ (j : Nat) (p p' : Nat × Nat), bp[j]? = some p → BQ[j]? = some p' → k[p'.1]? = some p.1 ∧ (∃ sz n e f, h[p.1]? = some (ak.row p.2 sz n e f)) ∧ ∃ sz n e f, η[p'.1]? = some (ak.row p'.2 sz n e f) ∧ 0 < n) : Fz h η k (.kX f bp) (.kX f BQ)
 | frz (id g sz n off len : Nat) (e : TypeId) (f f' : Nat → List PV) (hk : id ∉ k) (ho : h[id]? = some (ak.row g sz n e f)) (hl : ∀ i, i < len → (f' i).length = (f (off + i)).length)
   (hp : ∀ (i j : Nat) (eg : PV), i < len → (f' i)[j]? = some eg → bZ eg = true)
   (hf : ∀ (i j : Nat) (pv eg : PV), i < len → (f (off + i))[j]? = some pv → (f' i)[j]? = some eg → ¬ vO pv eg → Fz h η k pv eg) : Fz h η k (.own id g off len) (.eu sz len f')
 | agg (cs sJ : List PV) (hl : sJ.length = cs.length) (hc : ∀ (j : Nat) (pv eg : PV), cs[j]? = some pv → sJ[j]? = some eg → Fz h η k pv eg) : Fz h η k (.agg cs) (.agg sJ)
 | aU (cs sJ : List PV) (hl : sJ.length = cs.length) (hc : ∀ (j : Nat) (pv eg : PV), cs[j]? = some pv → sJ[j]? = some eg → Fz h η k pv eg) : Fz h η k (.aU cs) (.aU sJ)
def um (h η : List ak) (k : List Nat) : List PV → List PV → Prop
 | [], [] => True
 | a :: l, b :: r => Fz h η k a b ∧ um h η k l r
 | _, _ => False
def GU : List Nat → Nat → Bool
 | [], _ => false
 | a :: r, x => match Nat.beq a x with
  | true => true
  | false => GU r x
def k8 : List Nat → Bool
 | [] => true
 | a :: r => match GU r a with
  | true => false
  | false => k8 r
def kU : List ak → List Nat → List Nat
 | .row _ _ _ _ _ :: r, i :: is => i :: kU r is
 | .dead :: r, _ :: is => kU r is
 | _, _ => []
def vN (h η : List ak) (k : List Nat) (m : Nat) (o : ak) (id' id : Nat) : Prop :=
 match o, h[id]? with
 | .row g' bs n' e' f', some (ak.row g sz n e f) => (id' < m → id' = id ∧ g' = g) ∧ bs = sz ∧ (n' = n ∨ m ≤ id' ∧ sz ≠ 2 ∧ n' ≤ n) ∧ e' = e ∧
   ∀ i, i < n' → um h η k (f i) (f' i)
 | .dead, _ => True
 | .row _ _ n' _ _, none => m ≤ id' ∧ n' = 0
 | _, _ => False
def gr (l : List PV) (off : Nat) : List PV → List PV
 | [] => l
 | c :: r => gr (l.set off c) (off + 1) r
def cellsOf : PV → List PV
 | .agg cs => cs
 | v => [v]
def bP (h : List ak) (id : Nat) : ak := h.getD id .dead
def force (v : PV) (K : PV → Prop) : Prop :=
 match v with
 | .int k n => K (.int k n)
 | .bool b => K (.bool b)
 | .str s => K (.str s)
 | .bf => K .bf
 | .dt => K .dt
 | .eu sz n f => K (.eu sz n f)
 | .dY cs => K (.dY cs)
 | .own id gen off len => K (.own id gen off len)
 | .aM id gen i off => K (.aM id gen i off)
 | .kP id => K (.kP id)
 | .kX f bp => K (.kX f bp)
 | .fn f => K (.fn f)
 | .agg cs => K (.agg cs)
 | .aU vs => K (.aU vs)
 | .fO => K .fO
 | .fm sz n e f F => K (.fm sz n e f F)
theorem br {v : PV} {K : PV → Prop} (h : force v K) : K v := by cases v <;> exact h
def ym (K : List PV → Prop) : Nat → List PV → List PV → Prop
 | 0, _, acc => K acc.reverse
 | _ + 1, [], _ => False
 | n + 1, c :: r, acc => force c fun v => ym K n r (v :: acc)
theorem lI {K : List PV → Prop} : ∀ (n : Nat) (l acc : List PV), ym K n l acc → n ≤ l.length ∧ K (acc.reverse ++ l.take n)
 | 0, l, acc, h => ⟨asm _, by simp only [List.take_zero, asc]; exact h⟩
 | _ + 1, [], _, h => h.elim
 | n + 1, c :: r, acc, h => by
  obtain ⟨h1, h2⟩ := lI n r (c :: acc) (br h)
  exact ⟨by simp; omega, by simpa using h2⟩
def sS (T : lq) (t : Nat) (cells : List PV) (K : PV → Prop) : Prop :=
 match T.get t with
 | .struct sz _ _ => ym (fun l => K (.agg l)) sz cells []
 | .other => False
 | _ => match cells with
  | c :: _ => force c K
  | [] => False
def rO (T : lq) (t : Nat) (a : PV) (h : List ak) (K : PV → Prop) : Prop :=
 match a with
 | .dY cells => sS T t cells K
 | .aM id gen i off => match bP h id with
  | .row g _ _ _ f => g = gen ∧ ∃ c, f i = c ∧ sS T t (c.drop off) K
  | .dead => False
 | _ => False
def sW (f : Nat → List PV) (i : Nat) (l : List PV) : Nat → List PV := fun k => bif Nat.beq k i then l else f k
def tJ : List PV → Bool
 | [] => true
 | .int _ _ :: r => tJ r
 | .bool _ :: r => tJ r
 | .str _ :: r => tJ r
 | _ => false
def Bi (g : Bool) (q : Bool) : Option Bool → Option Bool
 | some c => match g with
  | true => some (q && c)
  | false => none
 | none => none
def xM : List PV → List PV → List PV → Option Bool
 | [], [], [] => some true
 | .int k _ :: z, .int k1 a :: r, .int k2 b :: r' => Bi (mC k k1 && mC k k2) (a == b) (xM z r r')
 | .bool _ :: z, .bool a :: r, .bool b :: r' => Bi true (a == b) (xM z r r')
 | .str _ :: z, .str a :: r, .str b :: r' => Bi true (a == b) (xM z r r')
 | _, _, _ => none
def kl (ti : TI) (a b : PV) : Option Bool :=
 match ti, a, b with
 | .int k, .int k1 x, .int k2 y => Bi (mC k k1 && mC k k2) (x == y) (some true)
 | .str, .str x, .str y => some (x == y)
 | .struct _ _ z, .agg xs, .agg ys => match tJ z with
  | true => xM z xs ys
  | false => none
 | _, _, _ => none
def Bp (ti : TI) (f : Nat → List PV) (n : Nat) (kv : PV) : Prop := ∀ j, j < n → ∃ kp vp, f j = [kp, vp] ∧ kl ti kv kp = some false
def MAt (ti : TI) (f : Nat → List PV) (n : Nat) (kv : PV) (i : Nat) (r : PV) : Prop := i < n ∧ Bp ti f i kv ∧ ∃ kp, f i = [kp, r] ∧ kl ti kv kp = some true
def Vh (ti : TI) (f : Nat → List PV) (n : Nat) (kv zv r : PV) (b : Bool) : Prop := (b = true ∧ ∃ i, MAt ti f n kv i r) ∨ (b = false ∧ r = zv ∧ Bp ti f n kv)
def aqG (ti : TI) (f : Nat → List PV) (n : Nat) (kv vv : PV) (n' : Nat) (f' : Nat → List PV) : Prop :=
 (∃ i r, MAt ti f n kv i r ∧ n' = n ∧ f' i = [kv, vv] ∧ ∀ j, j < n → j ≠ i → f' j = f j) ∨ (Bp ti f n kv ∧ n' = n + 1 ∧ f' n = [kv, vv] ∧ ∀ j, j < n → f' j = f j)
def Fk (ti : TI) (bo : BinOp) (x y : PV) (K : PV → Prop) : Prop :=
 match x, y with
 | .int k a, .int k' b =>
  match bo with
  | .shl => 0 ≤ b ∧ K (.int k (k.wrap (a * 2 ^ min b.toNat k.bits)))
  | .shr => 0 ≤ b ∧ K (.int k (a.fdiv (2 ^ min b.toNat k.bits)))
  | _ => cC (mC k k') <| match bo with
  | .and => K (.int k (bits .and k a b))
  | .or => K (.int k (bits .or k a b))
  | .xor => K (.int k (bits .xor k a b))
  | .andNot => K (.int k (bits .andNot k a b))
  | .add => K (.int k (k.wrap (a + b)))
  | .sub => K (.int k (k.wrap (a - b)))
  | .mul => K (.int k (k.wrap (a * b)))
  | .quo => b ≠ 0 ∧ K (.int k (k.wrap (a.tdiv b)))
  | .rem => b ≠ 0 ∧ K (.int k (a.tmod b))
  | .eql => K (.bool (a == b))
  | .neq => K (.bool (a != b))
  | .lss => K (.bool (decide (a < b)))
  | .leq => K (.bool (decide (a ≤ b)))
  | .gtr => K (.bool (decide (a > b)))
  | .geq => K (.bool (decide (a ≥ b)))
  | _ => False
 | .bool a, .bool b => match ti, bo with
  | .bool, .eql => K (.bool (a == b))
  | .bool, .neq => K (.bool (!(a == b)))
  | _, _ => False
 | .str a, .str b => match bo with
  | .add => a.length + b.length ≤ 4611686018427387904 ∧ ∃ s, a ++ b = s ∧ K (.str s)
  | .eql => K (.bool (a == b))
  | .neq => K (.bool (!(a == b)))
  | .lss => K (.bool (Op.bytesLess a b))
  | .leq => K (.bool (Op.bytesLess a b || a == b))
  | .gtr => K (.bool !(Op.bytesLess a b || a == b))
  | .geq => K (.bool !(Op.bytesLess a b))
  | _ => False
 | .agg xs, .agg ys => match ti with
  | .struct _ _ z => cC (tJ z) (match xM z xs ys with
   | some b => match bo with
    | .eql => ∃ c, b = c ∧ K (.bool c)
    | .neq => ∃ c, b = c ∧ K (.bool !c)
    | _ => False
   | none => False)
  | _ => False
 | _, _ => False
def vz (x : PV) (lo hi : Option PV) (K : PV → Prop) : Prop :=
 match x with
 | .eu sz n f => match lo, hi with
  | none, none => K (.eu sz n f)
  | some (.int _ l), none => (0 ≤ l ∧ l ≤ n) ∧ K (.eu sz (n - l.toNat) (fun i => f (l.toNat + i)))
  | none, some (.int _ m) => (0 ≤ m ∧ m ≤ n) ∧ K (.eu sz m.toNat f)
  | some (.int _ l), some (.int _ m) => (0 ≤ l ∧ l ≤ m ∧ m ≤ n) ∧ K (.eu sz (m.toNat - l.toNat) (fun i => f (l.toNat + i)))
  | _, _ => False
 | .own id gen off len => match lo, hi with
  | none, none => K (.own id gen off len)
  | some (.int _ l), none => (0 ≤ l ∧ l ≤ len) ∧ K (.own id gen (off + l.toNat) (len - l.toNat))
  | none, some (.int _ m) => (0 ≤ m ∧ m ≤ len) ∧ K (.own id gen off m.toNat)
  | some (.int _ l), some (.int _ m) => (0 ≤ l ∧ l ≤ m ∧ m ≤ len) ∧ K (.own id gen (off + l.toNat) (m.toNat - l.toNat))
  | _, _ => False
 | .str s => match lo, hi with
  | none, none => K (.str s)
  | some (.int _ l), none => (0 ≤ l ∧ l ≤ s.length) ∧ K (.str (s.drop l.toNat))
  | none, some (.int _ m) => (0 ≤ m ∧ m ≤ s.length) ∧ K (.str (s.take m.toNat))
  | some (.int _ l), some (.int _ m) => (0 ≤ l ∧ l ≤ m ∧ m ≤ s.length) ∧ K (.str ((s.take m.toNat).drop l.toNat))
  | _, _ => False
 | _ => False
def Bk (K : PV → Prop) (v : PV) : Prop :=
 match v with
 | .eu sz n f => ∃ n' f', n' = n ∧ (∀ i, i < n' → f' i = f i) ∧ K (.eu sz n' f')
 | .str s => ∃ s', s = s' ∧ K (.str s')
 | .own id g off n => ∃ PZ n', PZ = off ∧ n' = n ∧ K (.own id g PZ n')
 | v => K v
def OV (n : Nat) (hi mx : Option PV) : Prop :=
 match mx with
 | none => True
 | some (.int _ q) => match hi with
  | some (.int _ m) => m ≤ q ∧ q ≤ n
  | _ => False
 | _ => False
def isByte : List PV → Bool
 | [.int .u8 _] => true
 | _ => false
def byteOf : List PV → UInt8
 | [.int _ v] => UInt8.ofNat v.toNat
 | _ => 0
def qA (v : PV) (h : List ak) (K : List UInt8 → Prop) : Prop :=
 match v with
 | .bf => K []
 | .eu sz n f => cC (Nat.beq sz 1) (∃ s : List UInt8, s.length = n ∧ (∀ i, i < n → f i = [.int .u8 (s.getD i 0).toNat]) ∧ K s)
 | .own id gen off n => match bP h id with
  | .row g sz _ _ f => g = gen ∧ cC (Nat.beq sz 1) (∃ s : List UInt8, s.length = n ∧ (∀ i, i < n → f (off + i) = [.int .u8 (s.getD i 0).toNat]) ∧ K s)
  | .dead => False
 | _ => False
def jN : PV → Bool
 | .agg _ => false
 | .aU _ => false
 | .fO => false
 | .fm _ _ _ _ _ => false
 | _ => true
def storable : PV → Bool
 | .agg cs => cs.all jN
 | v => jN v
def lJ (env : Env) (sz : Nat) (fl : List (Nat × Nat × Bool)) (K : List PV → Prop) : List (Nat × Operand) → List PV → Prop
 | [], acc => K acc
 | (k, x) :: r, acc => match fl[k]? with
  | some (o, size, _) => force (ev env x) fun v => cC (storable v && Nat.beq (cellsOf v).length size && Nat.ble (o + size) sz) (lJ env sz fl K r (gr acc o (cellsOf v)))
  | none => False
def oY (env : Env) (K : List (Nat × Nat) → Prop) : List Operand → List (Nat × Nat) → Prop
 | [], acc => K acc.reverse
 | x :: r, acc => match ev env x with
  | .aM id gen 0 0 => oY env K r ((id, gen) :: acc)
  | _ => False
def bE (T : lq) (op : Op) (env : Env) (h : List ak) (K : PV → Prop) : Prop :=
 match op with
 | .move x => force (ev env x) K
 | .assign x => force (ev env x) K
 | .pick c a b => match ev env c with
  | .bool t => eA t (force (ev env a) K) (force (ev env b) K)
  | _ => False
 | .binOp bo t x y _ => Fk (T.get t) bo (ev env x) (ev env y) K
 | .unOp u _ x => match u, ev env x with
  | .not, .bool b => K (.bool !b)
  | .neg, .int k n => K (.int k (k.wrap (0 - n)))
  | _, _ => False
 | .load t a => rO T t (ev env a) h K
 | .convert s d x => match T.get s, T.get d, ev env x with
  | .int _, .int k, .int _ n => K (.int k (k.wrap n))
  | .slice e _ _ _, .str, v => match T.get e with
   | .int .u8 => qA v h (fun s => K (.str s))
   | _ => False
  | _, _, _ => False
 | .nilCheck x => match ev env x with
  | .dY cs => K (.dY cs)
  | .aM id gen i off => match bP h id with
   | .row g _ _ _ _ => g = gen ∧ K (.aM id gen i off)
   | .dead => False
  | _ => False
 | .fieldAddr s x k => match T.get s with
  | .struct _ fl _ => match fl[k]? with
   | some (o, _, _) => match ev env x with
    | .dY cs => K (.dY (cs.drop o))
    | .aM id gen i off => match bP h id with
     | .row g _ _ _ _ => g = gen ∧ K (.aM id gen i (off + o))
     | .dead => False
    | _ => False
   | none => False
  | _ => False
 | .field s x k => match T.get s with
  | .struct _ fl _ => match fl[k]? with
   | some (o, size, ag) => match ev env x with
    | .agg cs => match ag with
     | true => ym (fun l => K (.agg l)) size (cs.drop o) []
     | false => match cs.drop o with
      | c :: _ => force c K
      | [] => False
    | _ => False
   | none => False
  | _ => False
 | .build t parts => match T.get t with
  | .struct sz fl z => lJ env sz fl (fun cs => K (.agg cs)) parts.toList z
  | _ => False
 | .indexAddr t x i => match T.get t, ev env x, ev env i with
  | .slice _ sz _ _, .eu bs n f, .int _ i => cC (Nat.beq sz bs) ((0 ≤ i ∧ i < n) ∧ ∃ c, f i.toNat = c ∧ K (.dY c))
  | .slice _ sz _ _, .own id gen off len, .int _ i => match bP h id with
   | .row g bs _ e' _ => g = gen ∧ cC (Nat.beq sz bs && !Nat.beq e' Nb) ((0 ≤ i ∧ i < len) ∧ ∃ j, off + i.toNat = j ∧ K (.aM id gen j 0))
   | .dead => False
  | _, _, _ => False
 | .index t x i => match T.get t, ev env x, ev env i with
  | .str, .str s, .int _ i => (0 ≤ i ∧ i < s.length) ∧ ∃ c, s.getD i.toNat 0 = c ∧ K (.int .u8 (c : UInt8).toNat)
  | _, _, _ => False
 | .lookup t x i ok => match T.get t, ev env x with
  | .map kt _ zv, .kP id => match bP h id with
   | .row _ _ n _ f => force (ev env i) fun kv => cC (kl (T.get kt) kv kv).isSome (∃ r b, Vh (T.get kt) f n kv zv r b ∧ match ok with
    | true => K (.aU [r, .bool b])
    | false => force r K)
   | .dead => False
  | _, _ => False
 | .makeFunc fn first captured => match fn with
  | .func f => cC first.isEmpty (oY env (fun bp => K (.kX f bp)) captured.toList [])
  | _ => False
 | .extract x i => match ev env x with
  | .aU vs => match vs[i]? with
   | some v => force v K
   | none => False
  | _ => False
 | .slice t x lo hi mx => match T.get t, ev env x with
  | .slice _ sz _ _, .eu bs n f => cC (Nat.beq sz bs) (OV n (hi.map (ev env)) (mx.map (ev env)) ∧ vz (.eu bs n f) (lo.map (ev env)) (hi.map (ev env)) (Bk K))
  | .slice _ sz _ _, .own id gen off len => match bP h id with
   | .row g bs _ _ _ => g = gen ∧ cC (Nat.beq sz bs) (OV len (hi.map (ev env)) (mx.map (ev env)) ∧ vz (.own id gen off len) (lo.map (ev env)) (hi.map (ev env)) (Bk K))
   | .dead => False
  | .str, .str s => cC mx.isNone (vz (.str s) (lo.map (ev env)) (hi.map (ev env)) (Bk K))
  | _, _ => False
 | .call ⟨.builtin .len, args, ts⟩ => match args.toList, ts.toList with
  | [x], [t] => match T.get t, ev env x with
   | .slice _ _ _ _, .eu _ n _ => K (.int .i64 n)
   | .slice _ _ _ _, .bf => K (.int .i64 0)
   | .slice _ _ _ _, .own id gen _ n => match bP h id with
    | .row g _ _ _ _ => g = gen ∧ K (.int .i64 n)
    | .dead => False
   | .str, .str s => K (.int .i64 s.length)
   | .map _ _ _, .kP id => match bP h id with
    | .row _ _ n _ _ => K (.int .i64 n)
    | .dead => False
   | _, _ => False
  | _, _ => False
 | _ => False
def jj : TI → Nat
 | .struct sz _ _ => sz
 | .other => 0
 | _ => 1
def vn : TI → Option (List PV)
 | .int k => some [.int k 0]
 | .bool => some [.bool false]
 | .str => some [.str []]
 | .slice _ _ _ _ => some [.bf]
 | .struct _ _ z => some z
 | _ => none
def tO (len : Nat) : Nat → List (Nat × Operand) → Bool
 | k, [] => Nat.beq k len
 | k, (i, _) :: r => Nat.beq i k && tO len (k + 1) r
def mK (env : Env) (sz : Nat) (K : List (List PV) → Prop) : List (Nat × Operand) → List (List PV) → Prop
 | [], acc => K acc.reverse
 | (_, x) :: r, acc => force (ev env x) fun v => cC (storable v && Nat.beq (cellsOf v).length sz) (mK env sz K r (cellsOf v :: acc))
theorem tP {env : Env} {sz : Nat} {K : List (List PV) → Prop} : ∀ (l : List (Nat × Operand)) (acc : List (List PV)), mK env sz K l acc →
  (∀ p ∈ l, storable (ev env p.2) = true ∧ Nat.beq (cellsOf (ev env p.2)).length sz = true) ∧ K (acc.reverse ++ l.map fun p => cellsOf (ev env p.2))
 | [], acc, h => ⟨fun p hp => by simp at hp, by simp only [aqS, asc]; exact h⟩
 | (i, x) :: r, acc, h => by
  obtain ⟨h1, h2⟩ := aR (br h)
  simp only [As] at h1
  obtain ⟨h3, h4⟩ := tP r _ h2
  refine ⟨fun p hp => ?_, by simpa using h4⟩
  simp only [aqY] at hp
  rcases hp with rfl | hp
  ·exact h1
  ·exact h3 p hp
def noO : List PV → Bool
 | [] => true
 | .fm _ _ _ _ _ :: _ => false
 | _ :: r => noO r
def BK (x : PV) (h : List ak) (sz : Nat) (K : Nat → (Nat → List PV) → Prop) : Prop :=
 match x with
 | .bf => K 0 (fun _ => [])
 | .eu bs m g => cC (Nat.beq sz bs) (K m g)
 | .own id gen off m => match bP h id with
  | .row g bs _ _ f => g = gen ∧ (∀ i, i < m → noO (f (off + i)) = true) ∧ cC (Nat.beq sz bs) (K m (fun i => f (off + i)))
  | .dead => False
 | .str s => cC (Nat.beq sz 1) <| K s.length (fun i => [.int .u8 (s.getD i 0).toNat])
 | _ => False
def mq (e sz bytes : Nat) (s x : PV) (h : List ak) (K : PV → List ak → Prop) : Prop :=
 match s with
 | .bf => BK x h sz fun m g => m * bytes ≤ 140737488355328 ∧ ∃ n' f', n' = m ∧ (∀ i, i < n' → mm (g i) (f' i)) ∧ K (.own h.length 0 0 n') (h ++ [.row 0 sz n' e f'])
 | .own id gen off len => match bP h id with
  | .row g bs _ e' f => g = gen ∧ cC (Nat.beq sz bs && Nat.beq e e') (BK x h sz fun m q => (len + m) * bytes ≤ 140737488355328 ∧ ∃ n' f', n' = len + m ∧
    (∀ i, i < n' → mm (bif Nat.blt i len then f (off + i) else q (i - len)) (f' i)) ∧
    K (.own id (gen + 1) 0 n') (h.set id (.row (gen + 1) sz n' e f')))
  | .dead => False
 | _ => False
def Qi (f : Nat → List PV) (off m : Nat) (q : Nat → List PV) : Nat → List PV := fun i => bif Nat.blt i off then f i else bif Nat.blt i (off + m) then q (i - off) else f i
def vY (e sz : Nat) (s x : PV) (h : List ak) (K : PV → List ak → Prop) : Prop :=
 match s with
 | .own id gen off len => match bP h id with
  | .row g bs n e' f => g = gen ∧ cC (Nat.beq sz bs && Nat.beq e e') (BK x h sz fun m q => m ≤ len ∧ ∃ f', (∀ i, i < n → mm (Qi f off m q i) (f' i)) ∧ K (.int .i64 m) (h.set id (.row g sz n e f')))
  | .dead => False
 | _ => False
def kg : PV → Bool
 | .aU _ => false
 | _ => true
inductive rA (P : Program) (f : FuncId) (args : List PV) (h : List ak) (K : PV → List ak → Prop) : Prop
 | mk (R : PV → List ak → Prop) (hA : ACall P f args h R) (hk : ∀ res h', R res h' → K res h')
def pop (P : Program) (T : lq) (op : Op) (env : Env) (h : List ak) (K : PV → List ak → Prop) : Prop :=
 match op with
 | .store t a x => match ev env a with
  | .aM id gen i off => match bP h id with
   | .row g sz n e f => g = gen ∧ force (ev env x) fun v => cC (storable v && Nat.ble 1 (jj (T.get t)) && Nat.beq (jj (T.get t)) (cellsOf v).length && Nat.ble (off + (cellsOf v).length) sz)
     (∃ c f', f i = c ∧ (∀ j, j < n → mm (sW f i (gr c off (cellsOf v)) j) (f' j)) ∧ K .fO (h.set id (.row g sz n e f')))
   | .dead => False
  | _ => False
 | .box t x => force (ev env x) fun v => cC (storable v && Nat.beq (cellsOf v).length (jj (T.get t))) (K (.aM h.length 0 0 0) (h ++ [.row 0 (jj (T.get t)) 1 t (fun _ => cellsOf v)]))
 | .alloc t => match vn (T.get t) with
  | some z => K (.aM h.length 0 0 0) (h ++ [.row 0 (jj (T.get t)) 1 t (fun _ => z)])
  | none => False
 | .makeSlice t l c => match T.get t, ev env l, ev env c with
  | .slice e sz bytes zero, .int _ n, .int _ m => (0 ≤ n ∧ n ≤ m ∧ m ≤ 4611686018427387904 ∧ m.toNat * bytes ≤ 140737488355328) ∧ ∃ n' f', n' = n.toNat ∧ (∀ i, i < n' → mm zero (f' i)) ∧ K (.own h.length 0 0 n') (h ++ [.row 0 sz n' e f'])
  | _, _, _ => False
 | .buildSlice t len parts => match T.get t with
  | .slice e sz _ _ => cC (tO len 0 parts.toList && Nat.ble (len * sz) 65536) (mK env sz (fun cs => ∃ f', (∀ i, i < len → mm (cs.getD i []) (f' i)) ∧ K (.own h.length 0 0 len) (h ++ [.row 0 sz len e f'])) parts.toList [])
  | _ => False
 | .convert s d x => match T.get s, T.get d, ev env x with
  | .str, .slice e _ _ _, .str b => match T.get e with
   | .int .u8 => ∃ f', (∀ i, i < b.length → f' i = [.int .u8 (b.getD i 0).toNat]) ∧ K (.eu 1 b.length f') h
   | _ => False
  | _, _, _ => bE T (.convert s d x) env h (fun v => K v h)
 | .binOp bo t x y ty => match bo, T.get t, ev env x, ev env y with
  | .eql, .slice _ _ _ _, .eu _ n _, .bf => (n = 0 → K (.bool true) h) ∧ K (.bool false) h
  | _, _, _, _ => bE T (.binOp bo t x y ty) env h (fun v => K v h)
 | .makeMap t none => match T.get t with
  | .map _ _ _ => ∃ f', K (.kP h.length) (h ++ [.row 0 2 0 t f'])
  | _ => False
 | .mapUpdate t m k x => match T.get t, ev env m with
  | .map kt _ _, .kP id => match bP h id with
   | .row g sz n e f => force (ev env k) fun kv => force (ev env x) fun vv => cC ((kl (T.get kt) kv kv).isSome && ir vv && storable vv && Nat.beq sz 2)
     (∃ n' f', aqG (T.get kt) f n kv vv n' f' ∧ K .fO (h.set id (.row (g + 1) 2 n' e f')))
   | .dead => False
  | _, _ => False
 | .call ⟨.builtin .append, args, ts⟩ => match args.toList, ts.toList with
  | [s, x], [t, tx] => match T.get t, T.get tx with
   | .slice e sz bytes _, .slice _ _ _ _ => mq e sz bytes (ev env s) (ev env x) h K
   | .slice e sz bytes _, .str => mq e sz bytes (ev env s) (ev env x) h K
   | _, _ => False
  | _, _ => False
 | .call ⟨.builtin .copy, args, ts⟩ => match args.toList, ts.toList with
  | [s, x], [t, tx] => match T.get t, T.get tx with
   | .slice e sz _ _, .slice _ _ _ _ => vY e sz (ev env s) (ev env x) h K
   | .slice e sz _ _, .str => vY e sz (ev env s) (ev env x) h K
   | _, _ => False
  | _, _ => False
 | .call ⟨.value fo, args, _⟩ => match ev env fo with
  | .fn f => cC (args.toList.all (fun x => kg (ev env x))) (rA P f (args.toList.map (ev env)) h K)
  | .kX f bp => cC (args.toList.all (fun x => kg (ev env x))) (rA P f (args.toList.map (ev env) ++ bp.map fun p => .aM p.1 p.2 0 0) h K)
  | _ => False
 | op => bE T op env h (fun v => K v h)
def mH (P : Program) (T : lq) (all : List Oper) (K : Env → List ak → Prop) (l : List Oper) : Env → List ak → Prop :=
 List.rec (motive := fun _ => Env → List ak → Prop) K (fun o _ ih env h => match o.guard with
  | none => pop P T o.op env h (fun v h' => ih (cp env o.dst v) h')
  | some (j, want) => match (all[j]?).bind (·.dst) with
   | some t => match env t with
    | .bool b => eA b
      (match want with
       | true => pop P T o.op (l7 env t (.bool true)) h (fun v h' => ih (cp (l7 env t (.bool true)) o.dst v) h')
       | false => ih (cp (l7 env t (.bool true)) o.dst (.aU [])) h)
      (match want with
       | true => ih (cp (l7 env t (.bool false)) o.dst (.aU [])) h
       | false => pop P T o.op (l7 env t (.bool false)) h (fun v h' => ih (cp (l7 env t (.bool false)) o.dst v) h'))
    | .aU [] => ih (cp env o.dst (.aU [])) h
    | _ => False
   | none => False) l
abbrev XQ := Exit → Env → List ak → Prop
def XQ.then (next : Env → List ak → Prop) (Q : XQ) : XQ
 | .normal, env, h => next env h
 | e, env, h => Q e env h
def XQ.inBlock (id : Nat) (Q : XQ) : XQ
 | .exit id', env, h => match Nat.beq id' id with
  | true => Q .normal env h
  | false => Q (.exit id') env h
 | e, env, h => Q e env h
def Ey (h η : List ak) (k : List Nat) (env : Env) : List (Nat × PV) → Prop
 | [] => True
 | (t, v) :: r => Fz h η k (env t) v ∧ Ey h η k env r
def lN (h η : List ak) (k : List Nat) (m : Nat) : Nat → List ak → List Nat → Prop
 | _, [], [] => True
 | i, o :: r, id :: r' => vN h η k m o i id ∧ lN h η k m (i + 1) r r'
 | _, _, _ => False
def pf (m : Nat) (env : Env) (h : List ak) (σ : List (Nat × PV)) (η : List ak) : Prop :=
 ∃ k : List Nat, k8 (kU η k) = true ∧ m ≤ k.length ∧ Ey h η k env σ ∧ lN h η k m 0 η k
def kG : Env := fun _ => .fO
def Dp (h h1 : List ak) : Prop := ∃ (id g sz n : Nat) (e : TypeId) (f : Nat → List PV) (i j bs n' : Nat) (e' : TypeId) (f' : Nat → List PV) (F : Nat → Prop) (f1 : Nat → List PV), h[id]? = some (ak.row g sz n e f) ∧ i < n ∧
 (f i)[j]? = some (.fm bs n' e' f' F) ∧ f1 i = (f i).set j (.own h.length 0 0 n') ∧ (∀ k, k < n → k ≠ i → f1 k = f k) ∧ h1 = h.set id (.row g sz n e f1) ++ [.row 0 bs n' e' f']
def Dq (h : List ak) (id i j sub : Nat) (F : Nat → Prop) (h1 : List ak) : Prop := ∃ (g sz n : Nat) (e : TypeId) (f : Nat → List PV) (g2 lh n2 : Nat) (e2 : TypeId) (f2 f1 : Nat → List PV), h[id]? = some (ak.row g sz n e f) ∧ h[sub]? = some (ak.row g2 lh n2 e2 f2) ∧
 id ≠ sub ∧ i < n ∧ (f i)[j]? = some (.own sub g2 0 n2) ∧ (∀ k, k < n2 → ∀ c, c ∈ f2 k → bZ c = true ∨ eC c = true) ∧ f1 i = (f i).set j (.fm lh n2 e2 f2 F) ∧ (∀ k, k < n → k ≠ i → f1 k = f k) ∧
 h1 = (h.set id (.row g sz n e f1)).set sub .dead
inductive mo (m : Nat) (body : (Env → List ak → Prop) → Env → List ak → Prop) : Env → List ak → Prop
 | take {env : Env} {h : List ak} (σ : List (Nat × PV)) (η : List ak) (ht : pf m env h σ η) (hk : mo m body (tm kG σ) η) : mo m body env h
 | step {env : Env} {h : List ak} (N : Env → List ak → Prop) (hN : ∀ e h', N e h' → mo m body e h') (hb : body N env h) : mo m body env h
 | ex {env : Env} {h : List ak} (h1 : List ak) (hx : Dp h h1) (hk : mo m body env h1) : mo m body env h
 | ab {env : Env} {h : List ak} (id i j sub : Nat) (h1 : (Nat → Prop) → List ak) (ha : ∀ F, Dq h id i j sub F (h1 F)) (hk : ∀ F, mo m body env (h1 F)) : mo m body env h
def aG (m : Nat) (body : (Env → List ak → Prop) → Env → List ak → Prop) (σ : List (Nat × PV)) (η : List ak) : Prop := mo m body (tm kG σ) η
inductive loopGo (m : Nat) (body : (Env → List ak → Prop) → Env → List ak → Prop) (env : Env) : List ak → Prop
 | mk {h : List ak} (σ : List (Nat × PV)) (η : List ak) (ht : pf m env h σ η) (hk : aG m body σ η) : loopGo m body env h
 | ex {h : List ak} (h1 : List ak) (hx : Dp h h1) (hk : loopGo m body env h1) : loopGo m body env h
 | ab {h : List ak} (id i j sub : Nat) (h1 : (Nat → Prop) → List ak) (ha : ∀ F, Dq h id i j sub F (h1 F)) (hk : ∀ F, loopGo m body env (h1 F)) : loopGo m body env h
theorem loopGo.to {m : Nat} {body : (Env → List ak → Prop) → Env → List ak → Prop} {env : Env} {h : List ak} (hg : loopGo m body env h) : mo m body env h := by
 induction hg with
 | mk σ η ht hk => exact .take σ η ht hk
 | ex h1 hx hk ih => exact .ex h1 hx ih
 | ab id i j sub h1 ha hk ih => exact .ab id i j sub h1 ha ih
theorem aG.enter {m : Nat} {body : (Env → List ak → Prop) → Env → List ak → Prop} {env : Env} {h : List ak} (σ : List (Nat × PV)) (η : List ak) (ht : pf m env h σ η) (hk : aG m body σ η) : mo m body env h := .take σ η ht hk
theorem aG.round {m : Nat} {body : (Env → List ak → Prop) → Env → List ak → Prop} {σ : List (Nat × PV)} {η : List ak} (hb : body (loopGo m body) (tm kG σ) η) : aG m body σ η :=
 .step (loopGo m body) (fun _ _ hg => hg.to) hb
inductive rY (m : Nat) (J : List (Nat × PV) → List ak → Prop) (env : Env) : List ak → Prop
 | mk {h : List ak} (σ : List (Nat × PV)) (η : List ak) (ht : pf m env h σ η) (hj : J σ η) : rY m J env h
 | ex {h : List ak} (h1 : List ak) (hx : Dp h h1) (hk : rY m J env h1) : rY m J env h
 | ab {h : List ak} (id i j sub : Nat) (h1 : (Nat → Prop) → List ak) (ha : ∀ F, Dq h id i j sub F (h1 F)) (hk : ∀ F, rY m J env (h1 F)) : rY m J env h
inductive pg (m : Nat) (A B : XQ → Env → List ak → Prop) (Q : XQ) (env : Env) : List ak → Prop
 | direct {h : List ak} (hd : A (XQ.then (B Q) Q) env h) : pg m A B Q env h
 | cut {h : List ak} (J : List (Nat × PV) → List ak → Prop) (ha : A (XQ.then (rY m J) Q) env h) (hb : ∀ σ η, J σ η → B Q (tm kG σ) η) : pg m A B Q env h
 | ex {h : List ak} (h1 : List ak) (hx : Dp h h1) (hk : pg m A B Q env h1) : pg m A B Q env h
 | ab {h : List ak} (id i j sub : Nat) (h1 : (Nat → Prop) → List ak) (ha : ∀ F, Dq h id i j sub F (h1 F)) (hk : ∀ F, pg m A B Q env (h1 F)) : pg m A B Q env h
def yh : Op → Bool
 | .call ⟨.value _, _, _⟩ => false
 | .call ⟨.builtin .append, _, _⟩ => false
 | .call ⟨.builtin .copy, _, _⟩ => false
 | .store _ _ _ => false
 | .box _ _ => false
 | .alloc _ => false
 | .makeSlice _ _ _ => false
 | .buildSlice _ _ _ => false
 | .makeMap _ _ => false
 | .mapUpdate _ _ _ _ => false
 | _ => true
def rp : PV → Bool
 | .int _ _ => true
 | .bool _ => true
 | .str _ => true
 | .bf => true
 | _ => false
def MR (P : Program) (fo : PV) (args : List PV) (h : List ak) (K : PV → Prop) : Prop :=
 match fo with
 | .fn f => cC (args.all kg) (∃ (jP : List PV) (v : PV), um h [] [] args jP ∧ jP.all kg = true ∧ ACall P f jP [] (fun res _ => res = v) ∧ cC (rp v) (K v))
 | _ => False
def qop (P : Program) (T : lq) (op : Op) (env : Env) (h : List ak) (K : PV → Prop) : Prop :=
 match op with
 | .call ⟨.value fo, args, _⟩ => MR P (ev env fo) (args.toList.map (ev env)) h K
 | op => bE T op env h K
def qO (P : Program) (T : lq) (all : List Oper) (h : List ak) (K : Env → Prop) (l : List Oper) : Env → Prop :=
 List.rec (motive := fun _ => Env → Prop) K (fun o _ ih env => match o.guard with
  | none => qop P T o.op env h (fun v => ih (cp env o.dst v))
  | some (j, want) => match (all[j]?).bind (·.dst) with
   | some t => match env t with
    | .bool b => eA b
      (match want with
       | true => qop P T o.op (l7 env t (.bool true)) h (fun v => ih (cp (l7 env t (.bool true)) o.dst v))
       | false => ih (cp (l7 env t (.bool true)) o.dst (.aU [])))
      (match want with
       | true => ih (cp (l7 env t (.bool false)) o.dst (.aU []))
       | false => qop P T o.op (l7 env t (.bool false)) h (fun v => ih (cp (l7 env t (.bool false)) o.dst v)))
    | .aU [] => ih (cp env o.dst (.aU []))
    | _ => False
   | none => False) l
def iI : List Nat → Nat → Bool
 | [], _ => false
 | a :: r, x => match Nat.beq a x with
  | true => true
  | false => iI r x
def Qz (done : List Nat) : Nat → List Oper → List Nat
 | _, [] => []
 | j, o :: r => match iI done j || !(o.after.toList.all fun e => !(Region.binds .any e) || iI done e.on) with
  | true => Qz done (j + 1) r
  | false => j :: Qz done (j + 1) r
def aaZ : List Nat → (Nat → Prop) → Prop
 | [], _ => True
 | [i], F => F i
 | i :: r, F => F i ∧ aaZ r F
def aa0 (P : Program) (T : lq) (all : List Oper) (K : Env → List ak → Prop) : Nat → List Nat → Env → List ak → Prop
 | 0, _, env, h => K env h
 | f + 1, done, env, h => aaZ (Qz done 0 all) (fun i => match all[i]? with
  | some o => mH P T all (fun env' h' => aa0 P T all K f (i :: done) env' h') [o] env h
  | none => False)
def MS (ops : Array Oper) : Nat → Array Bool → List Nat → Bool
 | 0, listed, _ => (Region.ready .any ops listed).isEmpty
 | f + 1, listed, done => !(Region.ready .any ops listed).isEmpty && (Region.ready .any ops listed).all (fun i => iI (Qz done 0 ops.toList) i && MS ops f (listed.setIfInBounds i true) (i :: done))
def n9 : PV → List Nat
 | .own id _ _ _ => [id]
 | .aM id _ _ _ => [id]
 | .kP id => [id]
 | .kX _ bp => bp.map (·.1)
 | _ => []
def iw (env : Env) (op : Op) : List Nat := match op with | .move _ => [] | _ => op.operands.toList.flatMap fun x => n9 (ev env x)
def MV (o : Oper) : List Nat := o.after.toList.filterMap fun e => match Region.binds .any e with | true => some e.on | false => none
def bc (all : List Oper) (i : Nat) : List Nat := match all[i]? with | some o => MV o | none => []
def b8 : List (Nat × List Nat) → Nat → List Nat
 | [], _ => []
 | (j, A) :: r, i => match Nat.beq j i with | true => A | false => b8 r i
def ddL : List Nat → List Nat → List Nat
 | [], acc => acc
 | a :: r, acc => match iI acc a with | true => ddL r acc | false => ddL r (a :: acc)
def p4 (all : List Oper) : List (Nat × Bool) → List (Nat × List Nat) → List (Nat × List Nat)
 | [], t => t
 | (i, _) :: r, t => p4 all r ((i, ddL (bc all i ++ (bc all i).flatMap (b8 t)) []) :: t)
def mr (ops : Array Oper) (i j : Nat) : Bool := match ops[i]?, ops[j]? with | some x, some y => Oper.apart ops x y | _, _ => false
def dh (ops : Array Oper) (t : List (Nat × List Nat)) (p i : Nat × Bool) : Bool :=
 !(Nat.beq p.1 i.1) && !(iI (bc ops.toList p.1) i.1) && (iI (bc ops.toList i.1) p.1 || (mr ops p.1 i.1 && (p.2 || iI (b8 t i.1) p.1)))
def bn (ops : Array Oper) (t : List (Nat × List Nat)) : List (Nat × Bool) → Bool
 | [] => true
 | p :: r => r.all (dh ops t p) && bn ops t r
def EJ (ops : Array Oper) (ord : List (Nat × Bool)) : Bool :=
 Nat.beq ord.length ops.size && (List.range ops.size).all (fun j => iI (ord.map (·.1)) j) && ord.all (fun p => Nat.blt p.1 ops.size && (bc ops.toList p.1).all (fun d => Nat.blt d ops.size && !(Nat.beq d p.1))) && bn ops (p4 ops.toList ord []) ord
def zS (h h' : List ak) (K : Prop) : List Nat → Prop
 | [] => K
 | id :: r => bP h id = bP h' id ∧ zS h h' K r
def kH (anc : List Nat) (h h' : List ak) (K : Prop) : List (Nat × List Nat) → Prop
 | [] => K
 | (j, ids) :: r => match iI anc j with
  | true => kH anc h h' K r
  | false => zS h h' (kH anc h h' K r) ids
def xm (P : Program) (T : lq) (st : Bool) (op : Op) (env : Env) (h : List ak) (G : PV → List ak → Prop) : Prop :=
 match st with
 | true => bE T op env h (fun v => G v h)
 | false => pop P T op env h G
def mv (P : Program) (T : lq) (all : List Oper) (st : Bool) (o : Oper) (F : Env → PV → List ak → Prop) (env : Env) (h : List ak) : Prop :=
 match o.guard with
 | none => xm P T st o.op env h (F env)
 | some (j, want) => match (all[j]?).bind (·.dst) with
  | some t => match env t with
   | .bool b => eA b
     (match want with
      | true => xm P T st o.op (l7 env t (.bool true)) h (F (l7 env t (.bool true)))
      | false => F (l7 env t (.bool true)) (.aU []) h)
     (match want with
      | true => F (l7 env t (.bool false)) (.aU []) h
      | false => xm P T st o.op (l7 env t (.bool false)) h (F (l7 env t (.bool false))))
   | .aU [] => F env (.aU []) h
   | _ => False
  | none => False
def fw (P : Program) (T : lq) (all : List Oper) (t : List (Nat × List Nat)) (K : Env → List ak → Prop) (l : List (Nat × Bool)) : List (Nat × List Nat) → Env → List ak → Prop :=
 List.rec (motive := fun _ => List (Nat × List Nat) → Env → List ak → Prop) (fun _ env h => K env h) (fun p _ ih aZ env h => match all[p.1]? with
  | some o => match p.2 with
   | true => mv P T all true o (fun env' v h' => ih ((p.1, iw env' o.op) :: aZ) (cp env' o.dst v) h') env h
   | false => mv P T all false o (fun env' v h' => kH (b8 t p.1) h h' (ih aZ (cp env' o.dst v) h') aZ) env h
  | none => False) l
def BV (ops : Array Oper) (ord : List (Nat × Bool)) (x : Nat) (ra : List (Nat × Bool)) (y : Nat) (rb : List (Nat × Bool)) : Bool :=
 Nat.beq (ord.length + (ra.length + 1)) ops.size && Nat.beq rb.length ra.length && (List.range ops.size).all (fun j => iI ((ord ++ (x, false) :: ra).map (·.1)) j) && (ord ++ (x, false) :: ra).all (fun p => Nat.blt p.1 ops.size && (bc ops.toList p.1).all (fun d => Nat.blt d ops.size && !(Nat.beq d p.1))) &&
  bn ops (p4 ops.toList (ord ++ (x, false) :: ra) []) (ord ++ ra) && bn ops (p4 ops.toList (ord ++ (x, false) :: ra) []) (ord ++ rb) &&
  ord.all (fun p => dh ops (p4 ops.toList (ord ++ (x, false) :: ra) []) p (x, false) && dh ops (p4 ops.toList (ord ++ (x, false) :: ra) []) p (y, false) && (bc ops.toList p.1).all (fun d => !(iI (((x, false) :: ra).map (·.1)) d))) &&
  (((x, false) :: ra).map (·.1)).all (fun j => iI (((y, false) :: rb).map (·.1)) j) && (((y, false) :: rb).map (·.1)).all (fun j => iI (((x, false) :: ra).map (·.1)) j) &&
  (bc ops.toList x).all (fun d => !(iI (((x, false) :: ra).map (·.1)) d)) && !(iI (ra.map (·.1)) x) && !(iI (rb.map (·.1)) y) &&
  ra.all (fun p => Nat.beq p.1 y || iI (b8 (p4 ops.toList (ord ++ (x, false) :: ra) []) p.1) x || iI (b8 (p4 ops.toList (ord ++ (x, false) :: ra) []) p.1) y)
def fw2 (P : Program) (T : lq) (all : List Oper) (t : List (Nat × List Nat)) (A B : List (Nat × Bool)) (K : Env → List ak → Prop) (l : List (Nat × Bool)) : List (Nat × List Nat) → Env → List ak → Prop :=
 List.rec (motive := fun _ => List (Nat × List Nat) → Env → List ak → Prop) (fun aZ env h => fw P T all t K A aZ env h ∧ fw P T all t K B aZ env h) (fun p _ ih aZ env h => match all[p.1]? with
  | some o => match p.2 with
   | true => mv P T all true o (fun env' v h' => ih ((p.1, iw env' o.op) :: aZ) (cp env' o.dst v) h') env h
   | false => mv P T all false o (fun env' v h' => kH (b8 t p.1) h h' (ih aZ (cp env' o.dst v) h') aZ) env h
  | none => False) l
def fwE (P : Program) (T : lq) (all : List Oper) (t : List (Nat × List Nat)) (E : List (Nat × List Nat) → Env → List ak → Prop) (l : List (Nat × Bool)) : List (Nat × List Nat) → Env → List ak → Prop :=
 List.rec (motive := fun _ => List (Nat × List Nat) → Env → List ak → Prop) (fun aZ env h => E aZ env h) (fun p _ ih aZ env h => match all[p.1]? with
  | some o => match p.2 with
   | true => mv P T all true o (fun env' v h' => ih ((p.1, iw env' o.op) :: aZ) (cp env' o.dst v) h') env h
   | false => mv P T all false o (fun env' v h' => kH (b8 t p.1) h h' (ih aZ (cp env' o.dst v) h') aZ) env h
  | none => False) l
def Qr (ops : Array Oper) (t : List (Nat × List Nat)) (ord : List (Nat × Bool)) (x y : Nat) (RX RY : List Nat) : Bool :=
 Nat.beq RX.length RY.length && ord.all (fun p => dh ops t p (x, false) && dh ops t p (y, false) && (bc ops.toList p.1).all (fun d => !(iI (x :: RX) d)) && !(iI (x :: RX) p.1)) &&
  (x :: RX).all (fun j => iI (y :: RY) j) && (y :: RY).all (fun j => iI (x :: RX) j) && (bc ops.toList x).all (fun d => !(iI (x :: RX) d)) && !(iI RX x) && !(iI RY y) &&
  RX.all (fun j => Nat.beq j y || iI (b8 t j) x || iI (b8 t j) y)
def wq (ops : Array Oper) (ord : List (Nat × Bool)) (x : Nat) (o1 : List (Nat × Bool)) (x1 : Nat) (sy : List (Nat × Bool)) (y1 : Nat) (BU : List (Nat × Bool)) (y : Nat) (rb : List (Nat × Bool)) : Bool :=
 (fun all => (fun t => Nat.beq all.length ops.size && (List.range ops.size).all (fun j => iI (all.map (·.1)) j) && all.all (fun p => Nat.blt p.1 ops.size && (bc ops.toList p.1).all (fun d => Nat.blt d ops.size && !(Nat.beq d p.1))) &&
  bn ops t ((ord ++ o1) ++ sy) && bn ops t ((ord ++ o1) ++ BU) && bn ops t (ord ++ rb) &&
  Qr ops t ord x y (o1.map (·.1) ++ x1 :: sy.map (·.1)) (rb.map (·.1)) && Qr ops t (ord ++ o1) x1 y1 (sy.map (·.1)) (BU.map (·.1))) (p4 ops.toList all [])) (ord ++ (x, false) :: (o1 ++ (x1, false) :: sy))
def fw3 (P : Program) (T : lq) (all : List Oper) (t : List (Nat × List Nat)) (x : Nat) (o1 : List (Nat × Bool)) (x1 : Nat) (sy : List (Nat × Bool)) (y1 : Nat) (BU : List (Nat × Bool)) (y : Nat) (rb : List (Nat × Bool)) (K : Env → List ak → Prop) (l : List (Nat × Bool)) : List (Nat × List Nat) → Env → List ak → Prop :=
 fwE P T all t (fun aZ env h => fwE P T all t (fun aZ env h => fw P T all t K ((x1, false) :: sy) aZ env h ∧ fw P T all t K ((y1, false) :: BU) aZ env h) ((x, false) :: o1) aZ env h ∧ fw P T all t K ((y, false) :: rb) aZ env h) l
inductive qR (P : Program) (T : lq) (m : Nat) (ops : Array Oper) (K : Env → List ak → Prop) (env : Env) (h : List ak) : Prop
 | quiet (hq : qO P T ops.toList h (fun env' => K env' h) ops.toList env) : qR P T m ops K env h
 | orders (σ : List (Nat × PV)) (η : List ak) (hc : MS ops ops.size (Array.replicate ops.size false) [] = true) (hd : aa0 P T ops.toList (fun env' h' => pf m env' h' σ η) ops.toList.length [] env h)
   (hk : K (tm kG σ) η) : qR P T m ops K env h
 | aa1 (ord : List (Nat × Bool)) (x : Nat) (ra : List (Nat × Bool)) (y : Nat) (rb : List (Nat × Bool)) (hc : BV ops ord x ra y rb = true) (hf : fw2 P T ops.toList (p4 ops.toList (ord ++ (x, false) :: ra) []) ((x, false) :: ra) ((y, false) :: rb) K ord [] env h) : qR P T m ops K env h
 | aa2 (ord : List (Nat × Bool)) (x : Nat) (o1 : List (Nat × Bool)) (x1 : Nat) (sy : List (Nat × Bool)) (y1 : Nat) (BU : List (Nat × Bool)) (y : Nat) (rb : List (Nat × Bool)) (hc : wq ops ord x o1 x1 sy y1 BU y rb = true)
   (hf : fw3 P T ops.toList (p4 ops.toList (ord ++ (x, false) :: (o1 ++ (x1, false) :: sy)) []) x o1 x1 sy y1 BU y rb K ord [] env h) : qR P T m ops K env h
 | float (ord : List (Nat × Bool)) (hc : EJ ops ord = true) (hf : fw P T ops.toList (p4 ops.toList ord []) K ord [] env h) : qR P T m ops K env h
def M0 (Q : XQ) (env : Env) (h : List ak) : Prop := Q .normal env h
def anh (Q : XQ) (h : List ak) (env : Env) : Prop := Q .normal env h
def vc (P : Program) (T : lq) (m : Nat) (c : Code) : XQ → Env → List ak → Prop :=
 Code.rec (motive := fun _ => XQ → Env → List ak → Prop)
  (fun Q env h => Q .normal env h)
  (fun _ ops d Q env h => match d with
   | false => mH P T ops.toList (Q .normal) ops.toList env h
   | true => match ops.toList.all (fun o => yh o.op) with
    | true => qO P T ops.toList h (anh Q h) ops.toList env
    | false => qR P T m ops (M0 Q) env h)
  (fun _ _ iha ihb Q env h => pg m iha ihb Q env h)
  (fun c _ _ iha ihb Q env h => match ev env c with
   | .bool t => eA t (iha Q env h) (ihb Q env h)
   | _ => False)
  (fun id _ ih Q env h => ih (XQ.inBlock id Q) env h)
  (fun _ ih Q env h => mo m (fun next => ih (XQ.then next Q)) env h)
  (fun _ _ _ _ _ _ _ _ _ => False)
  (fun id Q env h => Q (.exit id) env h)
  (fun _ _ _ _ _ => False)
  (fun _ Q env h => Q .normal env h)
  (fun _ _ _ _ => False)
  (fun Q env h => Q .ret env h)
  (fun _ _ _ _ => False) c
def codeOk (nt : Nat) : Code → Bool
 | .region _ ops d => ops.toList.all (fun o => match o.dst with | some t => Nat.blt t nt | none => true) && (!d || Region.lexB .any ops)
 | .seq a b => codeOk nt a && codeOk nt b
 | .cond _ a b => codeOk nt a && codeOk nt b
 | .block _ c => codeOk nt c
 | .loop c => codeOk nt c
 | _ => true
def pM (T : lq) (env : Env) (h : List ak) : List ResultVar → (List PV → Prop) → Prop
 | [], K => K []
 | .tmp t :: r, K => pM T env h r (fun vs => K (env t :: vs))
 | .cell t ty :: r, K => rO T ty (env t) h (fun v => pM T env h r (fun vs => K (v :: vs)))
def oneOf : List PV → PV
 | [v] => v
 | vs => .aU vs
inductive Ends (m : Nat) (R : PV → List ak → Prop) : List ak → List PV → Prop
 | mk {h : List ak} {vs : List PV} (hn : vs.all kg = true) (k : List Nat) (res : PV) (η : List ak) (hk : k8 (kU η k) = true) (hm : m ≤ k.length) (hz : Fz h η k (oneOf vs) res) (hh : lN h η k m 0 η k) (hR : R res η) : Ends m R h vs
 | ex {h : List ak} {vs : List PV} (h1 : List ak) (hx : Dp h h1) (hk : Ends m R h1 vs) : Ends m R h vs
 | ab {h : List ak} {vs : List PV} (id i j sub : Nat) (h1 : (Nat → Prop) → List ak) (ha : ∀ F, Dq h id i j sub F (h1 F)) (hk : ∀ F, Ends m R (h1 F) vs) : Ends m R h vs
def amV (T : lq) (rs : List ResultVar) (m : Nat) (R : PV → List ak → Prop) : XQ
 | .ret, env, h => pM T env h rs (Ends m R h)
 | .normal, env, h => pM T env h rs (Ends m R h)
 | _, _, _ => False
def pj (args : List PV) : Env := fun t => args.getD t .fO
def Dy (env env' : Env) (op : Op) : Prop := ∀ x, x ∈ op.operands.toList → ev env x = ev env' x
def aa4 (h h' : List ak) (env : Env) (op : Op) : Prop := ∀ x, x ∈ op.operands.toList → ∀ id, id ∈ n9 (ev env x) → bP h id = bP h' id
theorem gJ {v : PV} {K : PV → Prop} (h : K v) : force v K := by cases v <;> exact h
theorem wA {env env' : Env} {sz : Nat} {fl : List (Nat × Nat × Bool)} {K : List PV → Prop} : ∀ (l : List (Nat × Operand)) (acc : List PV), (∀ p, p ∈ l → ev env p.2 = ev env' p.2) → lJ env sz fl K l acc = lJ env' sz fl K l acc
 | [], acc, _ => rfl
 | (k, x) :: r, acc, hs => by
  have e := hs (k, x) atv
  simp only at e
  unfold lJ
  rw [e]
  split
  ·congr 1
   funext v
   rw [wA r _ (fun p hp => hs p (arf _ hp))]
  ·rfl
theorem wB {env env' : Env} {sz : Nat} {K : List (List PV) → Prop} : ∀ (l : List (Nat × Operand)) (acc : List (List PV)), (∀ p, p ∈ l → ev env p.2 = ev env' p.2) → mK env sz K l acc = mK env' sz K l acc
 | [], acc, _ => rfl
 | (k, x) :: r, acc, hs => by
  have e := hs (k, x) atv
  simp only at e
  unfold mK
  rw [e]
  congr 1
  funext v
  rw [wB r _ (fun p hp => hs p (arf _ hp))]
theorem Dz {env env' : Env} {o : Option Operand} (hs : ∀ x, o = some x → ev env x = ev env' x) : o.map (ev env) = o.map (ev env') := by
 cases o with
 | none => rfl
 | some x => simp [hs x rfl]
theorem yn {env env' : Env} {K : List (Nat × Nat) → Prop} : ∀ (l : List Operand) (acc : List (Nat × Nat)), (∀ x, x ∈ l → ev env x = ev env' x) → oY env K l acc = oY env' K l acc
 | [], _, _ => rfl
 | x :: r, acc, hs => by
  unfold oY
  rw [hs x atv]
  split
  ·exact yn r _ (fun y hy => hs y (arf _ hy))
  ·rfl
theorem sr {T : lq} {env env' : Env} {h : List ak} {K : PV → Prop} (op : Op) (hs : Dy env env' op) : bE T op env h K = bE T op env' h K := by
 cases op with
 | move x => simp only [bE, hs x atw]
 | assign x => simp only [bE, hs x atw]
 | pick c a b => simp only [bE, hs c atw, hs a atw, hs b atw]
 | binOp bo t x y t' => simp only [bE, hs x atw, hs y atw]
 | unOp u t x => simp only [bE, hs x atw]
 | load t a => simp only [bE, hs a atw]
 | convert s d x => simp only [bE, hs x atw]
 | nilCheck x => simp only [bE, hs x atw]
 | fieldAddr s x k => simp only [bE, hs x atw]
 | field s x k => simp only [bE, hs x atw]
 | build t parts =>
  have e : ∀ sz fl (K : List PV → Prop) z, lJ env sz fl K parts.toList z = lJ env' sz fl K parts.toList z := fun sz fl K z => wA _ _ (fun p hp => hs p.2 auc)
  simp only [bE, e]
 | indexAddr t x i => simp only [bE, hs x atw, hs i atw]
 | index t x i => simp only [bE, hs x atw, hs i atw]
 | extract x i => simp only [bE, hs x atw]
 | lookup t x i ok => simp only [bE, hs x atw, hs i atw]
 | makeFunc fn first captured =>
  have e : ∀ (K : List (Nat × Nat) → Prop) acc, oY env K captured.toList acc = oY env' K captured.toList acc := fun K acc => yn _ _ (fun x hx => hs x (by simp [Op.operands]; right; simpa using hx))
  simp only [bE, e]
 | slice t x lo hi mx =>
  have e1 : lo.map (ev env) = lo.map (ev env') := Dz (fun y hy => hs y atW)
  have e2 : hi.map (ev env) = hi.map (ev env') := Dz (fun y hy => hs y atW)
  have e3 : mx.map (ev env) = mx.map (ev env') := Dz (fun y hy => hs y atW)
  simp only [bE, hs x atw, e1, e2, e3]
 | call c =>
  obtain ⟨callee, args, ts⟩ := c
  cases callee with
  | builtin b =>
   cases b with
   | len =>
    simp only [bE]
    split
    ·rename_i x t hx ht
     have e := hs x (by simp [Op.operands, Call.operands]; have : x ∈ args.toList := (by rw [hx]; simp); simpa using this)
     rw [e]
    ·rfl
   | _ => rfl
  | _ => rfl
 | _ => rfl
theorem G0 {T : lq} {env : Env} {h h' : List ak} {K : PV → Prop} (op : Op) (hs : aa4 h h' env op) : bE T op env h K = bE T op env h' K := by
 cases op with
 | load t a =>
  have q := hs a atw
  simp only [bE]
  revert q
  generalize ev env a = v
  intro q
  cases v with
  | aM id g i o => simp only [rO, q id atK]
  | _ => rfl
 | convert s d x =>
  have q := hs x atw
  simp only [bE]
  revert q
  generalize ev env x = v
  intro q
  have e : ∀ K, qA v h K = qA v h' K := fun K => by
   cases v with
   | own id g i o => simp only [qA, q id atK]
   | _ => rfl
  generalize T.get s = ti
  generalize T.get d = td
  cases ti with
  | slice a b c z => cases td with
   | str => simp only [e]
   | _ => rfl
  | int k => cases td <;> cases v <;> rfl
  | _ => rfl
 | nilCheck x =>
  have q := hs x atw
  simp only [bE]
  revert q
  generalize ev env x = v
  intro q
  cases v with
  | aM id g i o => simp only [q id atK]
  | _ => rfl
 | fieldAddr s x k =>
  have q := hs x atw
  simp only [bE]
  revert q
  generalize ev env x = v
  intro q
  cases v with
  | aM id g i o => simp only [q id atK]
  | _ => rfl
 | indexAddr t x i =>
  have q := hs x atw
  simp only [bE]
  revert q
  generalize ev env x = v
  generalize ev env i = u
  generalize T.get t = ti
  intro q
  cases ti with
  | slice e sz b z => cases v with
   | own id g o l => cases u with
    | int k n => simp only [q id atK]
    | _ => rfl
   | eu a b c => cases u <;> rfl
   | _ => rfl
  | _ => rfl
 | lookup t x i ok =>
  have q := hs x atw
  simp only [bE]
  revert q
  generalize ev env x = v
  generalize T.get t = ti
  intro q
  cases ti with
  | map k e z => cases v with
   | kP id => simp only [q id atK]
   | _ => rfl
  | _ => cases v <;> rfl
 | slice t x lo hi mx =>
  have q := hs x atw
  simp only [bE]
  revert q
  generalize ev env x = v
  generalize T.get t = ti
  intro q
  cases ti with
  | slice e sz b z => cases v with
   | own id g o l => simp only [q id atK]
   | _ => rfl
  | str => cases v <;> rfl
  | _ => rfl
 | call c =>
  obtain ⟨callee, args, ts⟩ := c
  cases callee with
  | builtin b =>
   cases b with
   | len =>
    simp only [bE]
    split
    ·rename_i x t hx ht
     have q := hs x (by simp [Op.operands, Call.operands]; have : x ∈ args.toList := (by rw [hx]; simp); simpa using this)
     revert q
     generalize ev env x = v
     generalize T.get t = ti
     intro q
     cases ti with
     | slice e sz b z => cases v with
      | own id g o l => simp only [q id atK]
      | _ => rfl
     | map k e z => cases v with
      | kP id => simp only [q id atK]
      | _ => rfl
     | str => cases v <;> rfl
     | _ => rfl
    ·rfl
   | _ => rfl
  | _ => rfl
 | _ => rfl
def One (F : (PV → Prop) → Prop) : Prop := ∀ K, F K → ∃ v, K v ∧ ∀ K', K' v → F K'
theorem nn (v : PV) : One (force v) := fun K h => ⟨v, br h, fun K' hk => gJ hk⟩
theorem aP (v : PV) : One (fun K => K v) := fun K h => ⟨v, h, fun _ hk => hk⟩
theorem cb {A : Prop} {F : (PV → Prop) → Prop} (h : One F) : One (fun K => A ∧ F K) := fun K hk =>
 let ⟨v, h1, h2⟩ := h K hk.2
 ⟨v, h1, fun K' pW => ⟨hk.1, h2 K' pW⟩⟩
theorem eY {b : Bool} {F : (PV → Prop) → Prop} (h : One F) : One (fun K => cC b (F K)) := fun K hk => by
 cases b with
 | true => exact h K hk
 | false => exact hk.elim
theorem pC {α : Type} {A : α → Prop} {F : α → (PV → Prop) → Prop} (h : ∀ c, One (F c)) : One (fun K => ∃ c, A c ∧ F c K) := fun K ⟨c, ha, hk⟩ =>
 let ⟨v, h1, h2⟩ := h c K hk
 ⟨v, h1, fun K' pW => ⟨c, ha, h2 K' pW⟩⟩
theorem wC {F : (PV → Prop) → Prop} (h : One F) : One (fun K => F (Bk K)) := fun K hk => by
 obtain ⟨v, h1, h2⟩ := h _ hk
 cases v with
 | eu sz n f =>
  obtain ⟨n', f', e1, e2, hK⟩ := h1
  exact ⟨.eu sz n' f', hK, fun K' pW => h2 _ ⟨n', f', e1, e2, pW⟩⟩
 | own id g off n =>
  obtain ⟨o', n', e1, e2, hK⟩ := h1
  exact ⟨.own id g o' n', hK, fun K' pW => h2 _ ⟨o', n', e1, e2, pW⟩⟩
 | str s =>
  obtain ⟨s', e1, hK⟩ := h1
  exact ⟨.str s', hK, fun K' pW => h2 _ ⟨s', e1, pW⟩⟩
 | _ => exact ⟨_, h1, fun K' pW => h2 _ pW⟩
theorem tr {K : List PV → Prop} : ∀ (n : Nat) (l acc : List PV), n ≤ l.length → K (acc.reverse ++ l.take n) → ym K n l acc
 | 0, l, acc, _, h => by unfold ym; simpa using h
 | n + 1, [], acc, hl, _ => by simp at hl
 | n + 1, c :: r, acc, hl, h => gJ (tr n r (c :: acc) (by simp at hl; omega) atJ)
theorem wD (T : lq) (t : Nat) (cells : List PV) : One (sS T t cells) := fun K hk => by
 unfold sS at hk ⊢
 generalize T.get t = q1 at hk ⊢
 cases q1 with
 | struct sz fl z =>
  obtain ⟨h1, h2⟩ := lI _ _ _ hk
  exact ⟨_, h2, fun K' pW => tr _ _ _ h1 pW⟩
 | other => exact hk.elim
 | _ =>
  cases cells with
  | nil => exact hk.elim
  | cons c r => exact nn c K hk
theorem G3 (T : lq) (t : Nat) (a : PV) (h : List ak) : One (rO T t a h) := fun K hk => by
 cases a with
 | dY cells => exact wD T t cells K hk
 | aM id gen i off =>
  simp only [rO] at hk ⊢
  generalize bP h id = q2 at hk ⊢
  cases q2 with
  | row g sz n e f => exact cb (pC (fun c => wD T t _)) K hk
  | dead => exact hk.elim
 | _ => exact hk.elim
theorem Nc (ti : TI) (bo : BinOp) (x y : PV) : One (Fk ti bo x y) := fun K hk => by
 cases x with
 | int k a => cases y with
  | int k' b =>
   cases bo with
   | shl => exact cb (aP _) K hk
   | shr => exact cb (aP _) K hk
   | quo => exact eY (cb (aP _)) K hk
   | rem => exact eY (cb (aP _)) K hk
   | _ => exact eY (aP _) K hk
  | _ => exact hk.elim
 | bool a => cases y with
  | bool b => cases ti with
   | bool => cases bo with
    | eql => exact aP _ K hk
    | neq => exact aP _ K hk
    | _ => exact hk.elim
   | _ => exact hk.elim
  | _ => exact hk.elim
 | str a => cases y with
  | str b => cases bo with
   | add => exact cb (pC fun c => aP _) K hk
   | eql => exact aP _ K hk
   | neq => exact aP _ K hk
   | lss => exact aP _ K hk
   | leq => exact aP _ K hk
   | gtr => exact aP _ K hk
   | geq => exact aP _ K hk
   | _ => exact hk.elim
  | _ => exact hk.elim
 | agg xs => cases y with
  | agg ys => cases ti with
   | struct sz fl z =>
    simp only [Fk] at hk ⊢
    generalize tJ z = fz at hk ⊢
    cases fz with
    | false => exact hk.elim
    | true =>
     simp only [cC] at hk ⊢
     generalize xM z xs ys = q at hk ⊢
     cases q with
     | none => exact hk.elim
     | some b => cases bo <;> first | exact hk.elim | exact pC (fun c => aP _) K hk
   | _ => exact hk.elim
  | _ => exact hk.elim
 | _ => exact hk.elim
theorem qT (x : PV) (lo hi : Option PV) : One (vz x lo hi) := fun K hk => by
 cases x with
 | eu sz n f =>
  cases lo with
  | none => cases hi with
   | none => exact aP _ K hk
   | some u => cases u <;> first | exact hk.elim | exact cb (aP _) K hk
  | some l => cases l with
   | int k l => cases hi with
    | none => exact cb (aP _) K hk
    | some u => cases u <;> first | exact hk.elim | exact cb (aP _) K hk
   | _ => cases hi <;> exact hk.elim
 | own id gen off len =>
  cases lo with
  | none => cases hi with
   | none => exact aP _ K hk
   | some u => cases u <;> first | exact hk.elim | exact cb (aP _) K hk
  | some l => cases l with
   | int k l => cases hi with
    | none => exact cb (aP _) K hk
    | some u => cases u <;> first | exact hk.elim | exact cb (aP _) K hk
   | _ => cases hi <;> exact hk.elim
 | str s =>
  cases lo with
  | none => cases hi with
   | none => exact aP _ K hk
   | some u => cases u <;> first | exact hk.elim | exact cb (aP _) K hk
  | some l => cases l with
   | int k l => cases hi with
    | none => exact cb (aP _) K hk
    | some u => cases u <;> first | exact hk.elim | exact cb (aP _) K hk
   | _ => cases hi <;> exact hk.elim
 | _ => exact hk.elim
theorem DA (v : PV) (h : List ak) : One (fun K => qA v h (fun s => K (.str s))) := fun K hk => by
 cases v with
 | bf => exact aP _ K hk
 | eu sz n f => exact eY (pC fun s => cb (aP _)) K hk
 | own id gen off n =>
  simp only [qA] at hk ⊢
  generalize bP h id = q3 at hk ⊢
  cases q3 with
  | row g sz n e f => exact cb (eY (pC fun s => cb (aP _))) K hk
  | dead => exact hk.elim
 | _ => exact hk.elim
theorem wE (env : Env) (sz : Nat) (fl : List (Nat × Nat × Bool)) : ∀ (l : List (Nat × Operand)) (acc : List PV), One (fun K => lJ env sz fl (fun cs => K (.agg cs)) l acc)
 | [], acc => aP _
 | (k, x) :: r, acc => fun K hk => by
  unfold lJ at hk ⊢
  generalize fl[k]? = q4 at hk ⊢
  cases q4 with
  | none => exact hk.elim
  | some p =>
   obtain ⟨o, size, b⟩ := p
   have h1 := br hk
   obtain ⟨v, h2, h3⟩ := eY (wE env sz fl r _) K h1
   exact ⟨v, h2, fun K' pW => gJ (h3 K' pW)⟩
theorem yo {env : Env} (f : Nat) : ∀ (l : List Operand) (acc : List (Nat × Nat)), One (fun K => oY env (fun bp => K (.kX f bp)) l acc)
 | [], _ => aP _
 | x :: r, acc => fun K hk => by
  unfold oY at hk ⊢
  generalize ev env x = v at hk ⊢
  split at hk
  ·exact yo f r _ K hk
  ·exact hk.elim
theorem Nd (ti : TI) (n : Nat) (f : Nat → List PV) (kv zv : PV) (ok : Bool) : One (fun K => cC (kl ti kv kv).isSome (∃ r b, Vh ti f n kv zv r b ∧ match ok with
  | true => K (.aU [r, .bool b])
  | false => force r K)) := eY (fun K hk => by
 obtain ⟨r, b, hm, hK⟩ := hk
 cases ok with
 | true => exact ⟨_, hK, fun K' pW => ⟨r, b, hm, pW⟩⟩
 | false => exact ⟨_, br hK, fun K' pW => ⟨r, b, hm, gJ pW⟩⟩)
theorem BY (T : lq) (op : Op) (env : Env) (h : List ak) : One (bE T op env h) := fun K hk => by
 cases op with
 | move x => exact nn _ K hk
 | assign x => exact nn _ K hk
 | pick c a b =>
  simp only [bE] at hk ⊢
  generalize ev env c = v at hk ⊢
  cases v with
  | bool t =>
   obtain ⟨h1, h2⟩ := iV hk
   cases t with
   | true => exact ⟨_, br (h1 rfl), fun K' pW => .mk (fun _ => gJ pW) (fun h => by cases h)⟩
   | false => exact ⟨_, br (h2 rfl), fun K' pW => .mk (fun h => by cases h) (fun _ => gJ pW)⟩
  | _ => exact hk.elim
 | binOp bo t x y t' => exact Nc _ _ _ _ K hk
 | unOp u t x =>
  simp only [bE] at hk ⊢
  generalize ev env x = v at hk ⊢
  cases u <;> cases v <;> first | exact hk.elim | exact aP _ K hk
 | load t a => exact G3 _ _ _ _ K hk
 | convert s d x =>
  simp only [bE] at hk ⊢
  generalize ev env x = v at hk ⊢
  generalize T.get s = ti at hk ⊢
  generalize T.get d = td at hk ⊢
  cases ti with
  | int k => cases td with
   | int k' => cases v <;> first | exact hk.elim | exact aP _ K hk
   | _ => cases v <;> exact hk.elim
  | slice e sz b z => cases td with
   | str =>
    simp only at hk ⊢
    generalize T.get e = q5 at hk ⊢
    cases q5 with
    | int k => cases k <;> first | exact hk.elim | exact DA _ _ K hk
    | _ => exact hk.elim
   | _ => cases v <;> exact hk.elim
  | _ => cases td <;> cases v <;> exact hk.elim
 | nilCheck x =>
  simp only [bE] at hk ⊢
  generalize ev env x = v at hk ⊢
  cases v with
  | dY cs => exact aP _ K hk
  | aM id gen i off =>
   simp only at hk ⊢
   generalize bP h id = q6 at hk ⊢
   cases q6 with
   | row g sz n e f => exact cb (aP _) K hk
   | dead => exact hk.elim
  | _ => exact hk.elim
 | fieldAddr s x k =>
  simp only [bE] at hk ⊢
  generalize ev env x = v at hk ⊢
  generalize T.get s = q7 at hk ⊢
  cases q7 with
  | struct sz fl z =>
   simp only at hk ⊢
   generalize fl[k]? = q8 at hk ⊢
   cases q8 with
   | none => exact hk.elim
   | some p =>
    obtain ⟨o, a, b⟩ := p
    cases v with
    | dY cs => exact aP _ K hk
    | aM id gen i off =>
     simp only at hk ⊢
     generalize bP h id = q9 at hk ⊢
     cases q9 with
     | row g sz n e f => exact cb (aP _) K hk
     | dead => exact hk.elim
    | _ => exact hk.elim
  | _ => exact hk.elim
 | field s x k =>
  simp only [bE] at hk ⊢
  generalize ev env x = v at hk ⊢
  generalize T.get s = q7 at hk ⊢
  cases q7 with
  | struct sz fl z =>
   simp only at hk ⊢
   generalize fl[k]? = q8 at hk ⊢
   cases q8 with
   | none => exact hk.elim
   | some p =>
    obtain ⟨o, a, b⟩ := p
    cases v with
    | agg cs =>
     cases b with
     | true =>
      obtain ⟨h1, h2⟩ := lI _ _ _ hk
      exact ⟨_, h2, fun K' pW => tr _ _ _ h1 pW⟩
     | false =>
      simp only at hk ⊢
      generalize cs.drop o = q9 at hk ⊢
      cases q9 with
      | nil => exact hk.elim
      | cons c r => exact nn c K hk
    | _ => exact hk.elim
  | _ => exact hk.elim
 | build t parts =>
  simp only [bE] at hk ⊢
  generalize T.get t = q10 at hk ⊢
  cases q10 with
  | struct sz fl z => exact wE _ _ _ _ _ K hk
  | _ => exact hk.elim
 | indexAddr t x i =>
  simp only [bE] at hk ⊢
  generalize ev env x = v at hk ⊢
  generalize ev env i = u at hk ⊢
  generalize T.get t = q11 at hk ⊢
  cases q11 with
  | slice e sz b z => cases v with
   | eu bs n f => cases u <;> first | exact hk.elim | exact eY (cb (pC fun c => aP _)) K hk
   | own id gen off len => cases u with
    | int k n =>
     simp only at hk ⊢
     generalize bP h id = q12 at hk ⊢
     cases q12 with
     | row g sz n e f => exact cb (eY (cb (pC fun j => aP _))) K hk
     | dead => exact hk.elim
    | _ => exact hk.elim
   | _ => cases u <;> exact hk.elim
  | _ => cases v <;> cases u <;> exact hk.elim
 | index t x i =>
  simp only [bE] at hk ⊢
  generalize ev env x = v at hk ⊢
  generalize ev env i = u at hk ⊢
  generalize T.get t = q13 at hk ⊢
  cases q13 with
  | str => cases v with
   | str s => cases u <;> first | exact hk.elim | exact cb (pC fun c => aP _) K hk
   | _ => cases u <;> exact hk.elim
  | _ => cases v <;> cases u <;> exact hk.elim
 | extract x i =>
  simp only [bE] at hk ⊢
  generalize ev env x = v at hk ⊢
  cases v with
  | aU vs =>
   simp only at hk ⊢
   generalize vs[i]? = q14 at hk ⊢
   cases q14 with
   | none => exact hk.elim
   | some u => exact nn _ K hk
  | _ => exact hk.elim
 | makeFunc fn first captured =>
  cases fn with
  | func f => exact eY (yo f _ _) K hk
  | _ => exact hk.elim
 | lookup t x i ok =>
  simp only [bE] at hk ⊢
  generalize ev env x = v at hk ⊢
  generalize T.get t = q19 at hk ⊢
  cases q19 with
  | map kt et zv => cases v with
   | kP id =>
    simp only at hk ⊢
    generalize bP h id = q20 at hk ⊢
    cases q20 with
    | row g sz n e f =>
     obtain ⟨u, h2, h3⟩ := Nd (T.get kt) n f (ev env i) zv ok K (br hk)
     exact ⟨u, h2, fun K' pW => gJ (h3 K' pW)⟩
    | dead => exact hk.elim
   | _ => exact hk.elim
  | _ => cases v <;> exact hk.elim
 | slice t x lo hi mx =>
  simp only [bE] at hk ⊢
  generalize ev env x = v at hk ⊢
  generalize T.get t = q15 at hk ⊢
  cases q15 with
  | slice e sz b z => cases v with
   | eu bs n f => exact eY (cb (wC (qT _ _ _))) K hk
   | own id gen off len =>
    simp only at hk ⊢
    generalize bP h id = q16 at hk ⊢
    cases q16 with
    | row g sz n e f => exact cb (eY (cb (wC (qT _ _ _)))) K hk
    | dead => exact hk.elim
   | _ => exact hk.elim
  | str => cases v with
   | str s => exact eY (wC (qT _ _ _)) K hk
   | _ => exact hk.elim
  | _ => cases v <;> exact hk.elim
 | call c =>
  obtain ⟨callee, args, ts⟩ := c
  cases callee with
  | builtin b =>
   cases b with
   | len =>
    simp only [bE] at hk ⊢
    split at hk
    ·rename_i x t hx ht
     generalize ev env x = v at hk ⊢
     generalize T.get t = q17 at hk ⊢
     cases q17 with
     | slice e sz b z => cases v with
      | eu a n f => exact aP _ K hk
      | bf => exact aP _ K hk
      | own id gen off n =>
       simp only at hk ⊢
       generalize bP h id = q18 at hk ⊢
       cases q18 with
       | row g sz n e f => exact cb (aP _) K hk
       | dead => exact hk.elim
      | _ => exact hk.elim
     | str => cases v <;> first | exact hk.elim | exact aP _ K hk
     | map kt et zv => cases v with
      | kP id =>
       simp only at hk ⊢
       generalize bP h id = q18 at hk ⊢
       cases q18 with
       | row g sz n e f => exact aP _ K hk
       | dead => exact hk.elim
      | _ => exact hk.elim
     | _ => cases v <;> exact hk.elim
    ·exact hk.elim
   | _ => exact hk.elim
  | _ => exact hk.elim
 | _ => exact hk.elim
theorem lS {v : PV} {K K' : PV → Prop} (hk : ∀ v, K v → K' v) (h : force v K) : force v K' := gJ (hk _ (br h))
theorem dr {b : Bool} {K K' : Prop} (hk : K → K') (h : cC b K) : cC b K' := by cases b; exact h; exact hk h
theorem tS {env : Env} {sz : Nat} {K K' : List (List PV) → Prop} (hk : ∀ l, K l → K' l) : ∀ (l : List (Nat × Operand)) (acc : List (List PV)), mK env sz K l acc → mK env sz K' l acc
 | [], acc, h => hk _ h
 | (k, x) :: r, acc, h => lS (fun v h => dr (tS hk r _) h) h
theorem tt {x : PV} {h : List ak} {sz : Nat} {K K' : Nat → (Nat → List PV) → Prop} (hk : ∀ n g, K n g → K' n g) (hp : BK x h sz K) : BK x h sz K' := by
 cases x with
 | bf => exact hk _ _ hp
 | eu bs m g => exact dr (hk _ _) hp
 | own id gen off m =>
  simp only [BK] at hp ⊢
  generalize bP h id = q at hp ⊢
  cases q with
  | row g bs n e f => exact ⟨hp.1, hp.2.1, dr (hk _ _) hp.2.2⟩
  | dead => exact hp
 | str s => exact dr (hk _ _) hp
 | _ => exact hp
theorem zT {e sz bytes : Nat} {s x : PV} {h : List ak} {K K' : PV → List ak → Prop} (hk : ∀ v h', K v h' → K' v h') (hp : mq e sz bytes s x h K) : mq e sz bytes s x h K' := by
 cases s with
 | bf =>
  simp only [mq] at hp ⊢
  exact tt (fun m g ⟨h, n', f', e1, e2, h2⟩ => ⟨h, n', f', e1, e2, hk _ _ h2⟩) hp
 | own id gen off len =>
  simp only [mq] at hp ⊢
  generalize bP h id = q at hp ⊢
  cases q with
  | row g bs n e' f => exact ⟨hp.1, dr (tt (fun m g ⟨h, n', f', e1, e2, h2⟩ => ⟨h, n', f', e1, e2, hk _ _ h2⟩)) hp.2⟩
  | dead => exact hp
 | _ => exact hp
theorem DB {e sz : Nat} {s x : PV} {h : List ak} {K K' : PV → List ak → Prop} (hk : ∀ v h', K v h' → K' v h') (hp : vY e sz s x h K) : vY e sz s x h K' := by
 cases s with
 | own id gen off len =>
  simp only [vY] at hp ⊢
  generalize bP h id = q at hp ⊢
  cases q with
  | row g bs n e' f => exact ⟨hp.1, dr (tt (fun m g ⟨h, f', e2, h2⟩ => ⟨h, f', e2, hk _ _ h2⟩)) hp.2⟩
  | dead => exact hp
 | _ => exact hp
theorem np {T : lq} {op : Op} {env : Env} {h : List ak} {K K' : PV → Prop} (hk : ∀ v, K v → K' v) (hp : bE T op env h K) : bE T op env h K' :=
 let ⟨v, h1, h2⟩ := BY T op env h K hp
 h2 K' (hk v h1)
theorem Nf {P : Program} {T : lq} {env : Env} {h : List ak} {K K' : PV → List ak → Prop} (hk : ∀ v h', K v h' → K' v h') (op : Op) (hp : pop P T op env h K) : pop P T op env h K' := by
 cases op with
 | store t a x =>
  simp only [pop] at hp ⊢
  generalize ev env a = v at hp ⊢
  cases v with
  | aM id gen i off =>
   simp only at hp ⊢
   generalize bP h id = q at hp ⊢
   cases q with
   | row g sz n e f => exact ⟨hp.1, lS (fun v h => dr (fun ⟨c, f', e1, e2, h2⟩ => ⟨c, f', e1, e2, hk _ _ h2⟩) h) hp.2⟩
   | dead => exact hp
  | _ => exact hp
 | box t x =>
  simp only [pop] at hp ⊢
  exact lS (fun v h => dr (hk _ _) h) hp
 | alloc t =>
  simp only [pop] at hp ⊢
  generalize vn (T.get t) = q at hp ⊢
  cases q <;> first | exact hp | exact hk _ _ hp
 | makeSlice t l c =>
  simp only [pop] at hp ⊢
  generalize T.get t = q at hp ⊢
  generalize ev env l = u at hp ⊢
  generalize ev env c = v at hp ⊢
  cases q with
  | slice e sz b z => cases u with
   | int k n => cases v with
    | int k' m => (obtain ⟨h, n', f', e1, e2, h2⟩ := hp; exact ⟨h, n', f', e1, e2, hk _ _ h2⟩)
    | _ => exact hp
   | _ => cases v <;> exact hp
  | _ => cases u <;> cases v <;> exact hp
 | buildSlice t len parts =>
  simp only [pop] at hp ⊢
  generalize T.get t = q at hp ⊢
  cases q with
  | slice e sz b z => exact dr (tS (fun _ ⟨f', e1, h2⟩ => ⟨f', e1, hk _ _ h2⟩) _ _) hp
  | _ => exact hp
 | convert s d x =>
  simp only [pop] at hp ⊢
  split at hp
  ·split at hp
   ·exact let ⟨f', e1, h2⟩ := hp; ⟨f', e1, hk _ _ h2⟩
   ·exact hp
  ·exact np (fun v => hk v h) hp
 | binOp bo t x y ty =>
  simp only [pop] at hp ⊢
  split at hp
  ·exact ⟨fun h0 => hk _ _ (hp.1 h0), hk _ _ hp.2⟩
  ·exact np (fun v => hk v h) hp
 | makeMap t r =>
  cases r with
  | none =>
   simp only [pop] at hp ⊢
   generalize T.get t = q at hp ⊢
   cases q with
   | map k e z => exact let ⟨f', h2⟩ := hp; ⟨f', hk _ _ h2⟩
   | _ => exact hp
  | some r => exact hp
 | mapUpdate t m k x =>
  simp only [pop] at hp ⊢
  generalize T.get t = q at hp ⊢
  generalize ev env m = v at hp ⊢
  cases q with
  | map kt et z => cases v with
   | kP id =>
    simp only at hp ⊢
    generalize bP h id = q2 at hp ⊢
    cases q2 with
    | row g sz n e f => exact lS (fun kv h => lS (fun vv h => dr (fun ⟨n', f', e1, h2⟩ => ⟨n', f', e1, hk _ _ h2⟩) h) h) hp
    | dead => exact hp
   | _ => exact hp
  | _ => cases v <;> exact hp
 | call c =>
  obtain ⟨callee, args, ts⟩ := c
  cases callee with
  | value fo =>
   simp only [pop] at hp ⊢
   generalize ev env fo = v at hp ⊢
   cases v with
   | fn f => exact dr (fun ⟨R, h1, h2⟩ => ⟨R, h1, fun res h' hr => hk _ _ (h2 res h' hr)⟩) hp
   | kX f bp => exact dr (fun ⟨R, h1, h2⟩ => ⟨R, h1, fun res h' hr => hk _ _ (h2 res h' hr)⟩) hp
   | _ => exact hp
  | builtin b =>
   cases b with
   | append =>
    simp only [pop] at hp ⊢
    split at hp
    ·rename_i s x t tx ha ht
     generalize T.get t = q at hp ⊢
     generalize T.get tx = qx at hp ⊢
     cases q with
     | slice e sz b z => cases qx <;> first | exact hp | exact zT hk hp
     | _ => cases qx <;> exact hp
    ·exact hp
   | copy =>
    simp only [pop] at hp ⊢
    split at hp
    ·rename_i s x t tx ha ht
     generalize T.get t = q at hp ⊢
     generalize T.get tx = qx at hp ⊢
     cases q with
     | slice e sz b z => cases qx <;> first | exact hp | exact DB hk hp
     | _ => cases qx <;> exact hp
    ·exact hp
   | len => (simp only [pop] at hp ⊢; exact np (fun v => hk v h) hp)
   | _ => exact hp
  | _ => exact hp
 | _ => (simp only [pop] at hp ⊢; exact np (fun v => hk v h) hp)
theorem Ng {env env' : Env} {args : Array Operand} (hs : ∀ x, x ∈ args.toList → ev env x = ev env' x) : args.toList.map (ev env) = args.toList.map (ev env') :=
 List.map_congr_left hs
theorem QA {env env' : Env} {l : List Operand} (hs : ∀ x, x ∈ l → ev env x = ev env' x) : l.all (fun x => kg (ev env x)) = l.all (fun x => kg (ev env' x)) := by
 induction l with
 | nil => rfl
 | cons a r ih => simp only [are, hs a atv, ih (fun x hx => hs x (arf _ hx))]
theorem QB {P : Program} {T : lq} {env env' : Env} {h : List ak} {K : PV → List ak → Prop} (op : Op) (hs : Dy env env' op) : pop P T op env h K = pop P T op env' h K := by
 cases op with
 | store t a x => simp only [pop, hs a atw, hs x atw]
 | box t x => simp only [pop, hs x atw]
 | alloc t => rfl
 | makeSlice t l c => simp only [pop, hs l atw, hs c atw]
 | buildSlice t len parts =>
  have e : ∀ sz (K : List (List PV) → Prop) z, mK env sz K parts.toList z = mK env' sz K parts.toList z := fun sz K z => wB _ _ (fun p hp => hs p.2 auc)
  simp only [pop, e]
 | convert s d x => simp only [pop, bE, hs x atw]
 | binOp bo t x y ty => simp only [pop, bE, hs x atw, hs y atw]
 | makeMap t r => cases r <;> rfl
 | mapUpdate t m k x => simp only [pop, hs m atw, hs k atw, hs x atw]
 | call c =>
  obtain ⟨callee, args, ts⟩ := c
  cases callee with
  | value fo =>
   have e0 := hs fo (by simp [Op.operands, Call.operands])
   have e1 : ∀ x, x ∈ args.toList → ev env x = ev env' x := fun x hx => hs x (by simp [Op.operands, Call.operands]; right; simpa using hx)
   simp only [pop, e0, Ng e1, QA e1]
  | builtin b =>
   have e1 : ∀ x, x ∈ args.toList → ev env x = ev env' x := fun x hx => hs x (by simp [Op.operands, Call.operands]; simpa using hx)
   cases b with
   | append =>
    simp only [pop]
    split
    ·rename_i s x t tx ha ht
     rw [e1 s (by rw [ha]; simp), e1 x (by rw [ha]; simp)]
    ·rfl
   | copy =>
    simp only [pop]
    split
    ·rename_i s x t tx ha ht
     rw [e1 s (by rw [ha]; simp), e1 x (by rw [ha]; simp)]
    ·rfl
   | len => (simp only [pop]; exact sr _ hs)
   | _ => rfl
  | _ => rfl
 | _ => (simp only [pop]; exact sr _ hs)
section
variable {P : Program} {T : lq}
def fs (P : Program) (T : lq) (all : List Oper) (st : Bool) (o : Oper) (G : PV → List ak → Prop) (env : Env) (h : List ak) : Prop :=
 match o.guard with
 | none => xm P T st o.op env h G
 | some (j, want) => match (all[j]?).bind (·.dst) with
  | some t => match env t with
   | .bool b => match b == want with
    | true => xm P T st o.op env h G
    | false => G (.aU []) h
   | .aU [] => G (.aU []) h
   | _ => False
  | none => False
theorem uF {env : Env} {t : Nat} {v : PV} (h : env t = v) : l7 env t v = env := by
 funext j
 unfold l7
 cases hb : Nat.beq j t with
 | true => rw [No hb, ← h]; rfl
 | false => rfl
theorem yp {st : Bool} {op : Op} {env : Env} {h : List ak} {G G' : PV → List ak → Prop} (hk : ∀ v h', G v h' → G' v h') (hp : xm P T st op env h G) : xm P T st op env h G' := by
 cases st with
 | true => exact np (fun v => hk v h) hp
 | false => exact Nf hk _ hp
theorem cn {all : List Oper} {st : Bool} {o : Oper} {env : Env} {h : List ak} {G G' : PV → List ak → Prop} (hk : ∀ v h', G v h' → G' v h') (hp : fs P T all st o G env h) : fs P T all st o G' env h := by
 unfold fs at hp ⊢
 generalize o.guard = g at hp ⊢
 cases g with
 | none => exact yp hk hp
 | some q =>
  obtain ⟨j, want⟩ := q
  simp only at hp ⊢
  generalize (all[j]?).bind (·.dst) = d at hp ⊢
  cases d with
  | none => exact hp
  | some t =>
   simp only at hp ⊢
   generalize env t = v at hp ⊢
   cases v with
   | bool b =>
    simp only at hp ⊢
    generalize (b == want) = c at hp ⊢
    cases c with
    | true => exact yp hk hp
    | false => exact hk _ _ hp
   | aU l => cases l with
    | nil => exact hk _ _ hp
    | cons a r => exact hp
   | _ => exact hp
theorem jR {all : List Oper} {st : Bool} {o : Oper} {F : Env → PV → List ak → Prop} {env : Env} {h : List ak} (hp : mv P T all st o F env h) : fs P T all st o (F env) env h := by
 unfold mv at hp
 unfold fs
 generalize o.guard = g at hp ⊢
 cases g with
 | none => exact hp
 | some q =>
  obtain ⟨j, want⟩ := q
  simp only at hp ⊢
  generalize (all[j]?).bind (·.dst) = d at hp ⊢
  cases d with
  | none => exact hp
  | some t =>
   simp only at hp ⊢
   generalize hv : env t = v at hp ⊢
   cases v with
   | bool b =>
    simp only at hp ⊢
    obtain ⟨h1, h2⟩ := iV hp
    cases b with
    | true =>
     have h1 := h1 rfl
     rw [uF hv] at h1
     cases want <;> exact h1
    | false =>
     have h2 := h2 rfl
     rw [uF hv] at h2
     cases want <;> exact h2
   | aU l => cases l with
    | nil => exact hp
    | cons a r => exact hp
   | _ => exact hp
theorem pN {env env' : Env} {o : Oper} {ops : Array Oper} (hl : ∀ t, t ∈ o.looksAt ops → env t = env' t) : Dy env env' o.op := fun x hx => by
 cases x with
 | tmp t => exact hl t (by unfold Oper.looksAt; rw [aqV]; left; rw [List.mem_filterMap]; exact ⟨_, hx, rfl⟩)
 | _ => rfl
theorem nV {env env' : Env} {o : Oper} {ops : Array Oper} (hl : ∀ t, t ∈ o.looksAt ops → env t = env' t) {j : Nat} {w : Bool} (hg : o.guard = some (j, w)) {t : Nat} (ht : (ops.toList[j]?).bind (·.dst) = some t) : env t = env' t :=
 hl t (by
  unfold Oper.looksAt
  rw [aqV, hg]
  right
  have : ops.toList[j]? = ops[j]? := by simp
  rw [this] at ht
  show t ∈ ((ops[j]?).bind (·.dst)).toList
  rw [ht]
  simp)
theorem DC {ops : Array Oper} {st : Bool} {o : Oper} {G : PV → List ak → Prop} {env env' : Env} {h : List ak} (hl : ∀ t, t ∈ o.looksAt ops → env t = env' t) (hp : fs P T ops.toList st o G env h) : fs P T ops.toList st o G env' h := by
 have hr : xm P T st o.op env h G = xm P T st o.op env' h G := by
  cases st with
  | true => exact sr _ (pN hl)
  | false => exact QB _ (pN hl)
 unfold fs at hp ⊢
 cases hg : o.guard with
 | none => rw [hg] at hp; simp only at hp ⊢; rw [← hr]; exact hp
 | some q =>
  obtain ⟨j, want⟩ := q
  rw [hg] at hp
  simp only at hp ⊢
  cases hd : (ops.toList[j]?).bind (·.dst) with
  | none => rw [hd] at hp; exact hp
  | some t =>
   rw [hd] at hp
   simp only at hp ⊢
   rw [← nV hl hg hd, ← hr]
   exact hp
theorem su {α β : Type} {f g : α → List β} : ∀ (l : List α), (∀ x, x ∈ l → f x = g x) → l.flatMap f = l.flatMap g
 | [], _ => rfl
 | a :: r, h => by rw [arD, arD, h a atv, su r (fun x hx => h x (arf _ hx))]
theorem wF (env : Env) (op : Op) : (∃ x, op = .move x) ∨ iw env op = op.operands.toList.flatMap (fun x => n9 (ev env x)) := by
 cases op <;> first | exact .inl ⟨_, rfl⟩ | exact .inr rfl
theorem DD {T : lq} {env : Env} {h h' : List ak} {K : PV → Prop} {op : Op} (hi : ∀ id, id ∈ iw env op → bP h id = bP h' id) : bE T op env h K = bE T op env h' K := by
 rcases wF env op with ⟨x, rfl⟩ | e
 ·rfl
 ·exact G0 op (fun x hx id hid => hi id (by rw [e, List.mem_flatMap]; exact ⟨x, hx, hid⟩))
theorem qU {env env' : Env} {op : Op} (hs : ∀ x, x ∈ op.operands.toList → ev env x = ev env' x) : iw env' op = iw env op := by
 rcases wF env op with ⟨x, rfl⟩ | e
 ·rfl
 ·rcases wF env' op with ⟨x, rfl⟩ | e'
  ·rfl
  ·rw [e, e']
   exact su _ (fun x hx => by rw [hs x hx])
theorem tu {ops : Array Oper} {o : Oper} {G : PV → List ak → Prop} {env : Env} {h : List ak} (hp : fs P T ops.toList true o G env h) :
  ∃ v, G v h ∧ ∀ (env' : Env) (h' : List ak) (G' : PV → List ak → Prop), (∀ t, t ∈ o.looksAt ops → env t = env' t) → (∀ id, id ∈ iw env o.op → bP h id = bP h' id) → G' v h' → fs P T ops.toList true o G' env' h' := by
 have run : bE T o.op env h (fun v => G v h) → ∃ v, G v h ∧ ∀ (env' : Env) (h' : List ak) (G' : PV → List ak → Prop), (∀ t, t ∈ o.looksAt ops → env t = env' t) → (∀ id, id ∈ iw env o.op → bP h id = bP h' id) → G' v h' → bE T o.op env' h' (fun v => G' v h') := fun hs => by
  obtain ⟨v, h1, h2⟩ := BY T o.op env h _ hs
  refine ⟨v, h1, fun env' h' G' hl hi hg => ?_⟩
  rw [← sr o.op (pN hl), ← DD (op := o.op) hi]
  exact h2 _ hg
 unfold fs at hp
 cases hg : o.guard with
 | none =>
  rw [hg] at hp
  obtain ⟨v, h1, h2⟩ := run hp
  refine ⟨v, h1, fun env' h' G' hl hi hk => ?_⟩
  unfold fs
  rw [hg]
  exact h2 env' h' G' hl hi hk
 | some q =>
  obtain ⟨j, want⟩ := q
  rw [hg] at hp
  simp only at hp
  cases hd : (ops.toList[j]?).bind (·.dst) with
  | none => rw [hd] at hp; exact hp.elim
  | some t =>
   rw [hd] at hp
   simp only at hp
   cases hv : env t with
   | bool b =>
    rw [hv] at hp
    simp only at hp
    cases hc : (b == want) with
    | true =>
     rw [hc] at hp
     obtain ⟨v, h1, h2⟩ := run hp
     refine ⟨v, h1, fun env' h' G' hl hi hk => ?_⟩
     unfold fs
     rw [hg]; simp only; rw [hd]; simp only; rw [← nV hl hg hd, hv]; simp only; rw [hc]
     exact h2 env' h' G' hl hi hk
    | false =>
     rw [hc] at hp
     refine ⟨_, hp, fun env' h' G' hl hi hk => ?_⟩
     unfold fs
     rw [hg]; simp only; rw [hd]; simp only; rw [← nV hl hg hd, hv]; simp only; rw [hc]
     exact hk
   | aU l =>
    rw [hv] at hp
    cases l with
    | nil =>
     refine ⟨_, hp, fun env' h' G' hl hi hk => ?_⟩
     unfold fs
     rw [hg]; simp only; rw [hd]; simp only; rw [← nV hl hg hd, hv]
     exact hk
    | cons a r => exact hp.elim
   | _ => rw [hv] at hp; exact hp.elim
def xn (P : Program) (T : lq) (all : List Oper) (t : List (Nat × List Nat)) (K : Env → List ak → Prop) : List (Nat × Bool) → List (Nat × List Nat) → Env → List ak → Prop
 | [], _, env, h => K env h
 | (i, st) :: r, aZ, env, h => ∃ o, all[i]? = some o ∧ fs P T all st o (fun v h' => match st with
   | true => xn P T all t K r ((i, iw env o.op) :: aZ) (cp env o.dst v) h'
   | false => (∀ j ids, (j, ids) ∈ aZ → iI (b8 t i) j = false → ∀ id, id ∈ ids → bP h id = bP h' id) ∧ xn P T all t K r aZ (cp env o.dst v) h') env h
theorem sw {h h' : List ak} {K : Prop} : ∀ (ids : List Nat), zS h h' K ids → (∀ id, id ∈ ids → bP h id = bP h' id) ∧ K
 | [], hk => ⟨fun id hid => by simp at hid, hk⟩
 | a :: r, hk => by
  obtain ⟨h1, h2⟩ := sw r hk.2
  refine ⟨fun id hid => ?_, h2⟩
  simp only [aqY] at hid
  rcases hid with rfl | hid
  ·exact hk.1
  ·exact h1 id hid
theorem kj {anc : List Nat} {h h' : List ak} {K : Prop} : ∀ (aZ : List (Nat × List Nat)), kH anc h h' K aZ → (∀ j ids, (j, ids) ∈ aZ → iI anc j = false → ∀ id, id ∈ ids → bP h id = bP h' id) ∧ K
 | [], hk => ⟨fun j ids hj => by simp at hj, hk⟩
 | (a, l) :: r, hk => by
  unfold kH at hk
  cases ha : iI anc a with
  | true =>
   rw [ha] at hk
   obtain ⟨h1, h2⟩ := kj r hk
   refine ⟨fun j ids hj hn => ?_, h2⟩
   simp only [aqY] at hj
   rcases hj with hj | hj
   ·injection hj with e1 e2; subst e1; rw [ha] at hn; cases hn
   ·exact h1 j ids hj hn
  | false =>
   rw [ha] at hk
   obtain ⟨q1, q2⟩ := sw l hk
   obtain ⟨h1, h2⟩ := kj r q2
   refine ⟨fun j ids hj hn => ?_, h2⟩
   simp only [aqY] at hj
   rcases hj with hj | hj
   ·injection hj with e1 e2; subst e2; exact q1
   ·exact h1 j ids hj hn
theorem jQ {all : List Oper} {t : List (Nat × List Nat)} {K : Env → List ak → Prop} : ∀ (l : List (Nat × Bool)) (aZ : List (Nat × List Nat)) (env : Env) (h : List ak), fw P T all t K l aZ env h → xn P T all t K l aZ env h
 | [], _, _, _, hp => hp
 | (i, true) :: r, aZ, env, h, hp => by
  have hp : (match all[i]? with
   | some o => mv P T all true o (fun env' v h' => fw P T all t K r ((i, iw env' o.op) :: aZ) (cp env' o.dst v) h') env h
   | none => False) := hp
  cases ho : all[i]? with
  | none => rw [ho] at hp; exact hp.elim
  | some o =>
   rw [ho] at hp
   exact ⟨o, ho, cn (fun v h' hk => jQ r _ _ _ hk) (jR hp)⟩
 | (i, false) :: r, aZ, env, h, hp => by
  have hp : (match all[i]? with
   | some o => mv P T all false o (fun env' v h' => kH (b8 t i) h h' (fw P T all t K r aZ (cp env' o.dst v) h') aZ) env h
   | none => False) := hp
  cases ho : all[i]? with
  | none => rw [ho] at hp; exact hp.elim
  | some o =>
   rw [ho] at hp
   refine ⟨o, ho, cn (fun v h' hk => ?_) (jR hp)⟩
   obtain ⟨h1, h2⟩ := kj _ hk
   exact ⟨h1, jQ r _ _ _ h2⟩
theorem nq {all : List Oper} {t : List (Nat × List Nat)} {K : Env → List ak → Prop} : ∀ (l : List (Nat × Bool)) (aZ kW : List (Nat × List Nat)) (env : Env) (h : List ak), (∀ x, x ∈ kW → x ∈ aZ) → xn P T all t K l aZ env h → xn P T all t K l kW env h
 | [], _, _, _, _, _, hp => hp
 | (i, st) :: r, aZ, kW, env, h, hs, hp => by
  obtain ⟨o, ho, hp⟩ := hp
  refine ⟨o, ho, cn (fun v h' hk => ?_) hp⟩
  cases st with
  | true => exact nq r _ _ _ _ (fun x hx => by simp only [aqY] at hx ⊢; exact hx.imp id (hs x)) hk
  | false => exact ⟨fun j ids hj => hk.1 j ids (hs _ hj), nq r _ _ _ _ hs hk.2⟩
theorem tv {env : Env} {d e : Option Nat} {u v : PV} (nr : ∀ x, d = some x → e ≠ some x) : cp (cp env d u) e v = cp (cp env e v) d u := by
 cases d with
 | none => rfl
 | some x =>
  cases e with
  | none => rfl
  | some y =>
   have hxy : x ≠ y := fun he => nr x rfl (by rw [he])
   funext j
   simp only [cp, l7]
   cases h1 : Nat.beq j y with
   | true =>
    have := No h1
    subst this
    cases h2 : Nat.beq j x with
    | true => exact absurd (No h2).symm hxy
    | false => rfl
   | false => cases h2 : Nat.beq j x <;> rfl
theorem lr {env : Env} {d : Option Nat} {v : PV} {l : List Nat} (hn : ∀ x, d = some x → x ∉ l) : ∀ t, t ∈ l → env t = cp env d v t := fun t ht => by
 cases d with
 | none => rfl
 | some x =>
  have : t ≠ x := fun he => hn x rfl (he ▸ ht)
  simp only [cp, l7]
  cases h2 : Nat.beq t x with
  | true => exact absurd (No h2) this
  | false => rfl
theorem sn {ops : Array Oper} {t : List (Nat × List Nat)} {K : Env → List ak → Prop} {i : Nat} {st : Bool} {oi : Oper} (qW : ops.toList[i]? = some oi) :
  ∀ (l1 l2 : List (Nat × Bool)) (aZ : List (Nat × List Nat)) (env : Env) (h : List ak), (∀ p, p ∈ l1 → p.2 = true ∧ iI (b8 t i) p.1 = false ∧ mr ops p.1 i = true) → xn P T ops.toList t K (l1 ++ (i, st) :: l2) aZ env h →
   fs P T ops.toList st oi (fun v h' => (st = true → h' = h) ∧ (st = false → ∀ j ids, (j, ids) ∈ aZ → iI (b8 t i) j = false → ∀ id, id ∈ ids → bP h id = bP h' id) ∧ xn P T ops.toList t K (l1 ++ l2) aZ (cp env oi.dst v) h') env h
 | [], l2, aZ, env, h, _, hp => by
  obtain ⟨o, ho, hp⟩ := hp
  rw [qW] at ho
  injection ho with ho
  subst ho
  cases st with
  | true =>
   obtain ⟨v, h1, h2⟩ := tu hp
   exact h2 env h _ (fun _ _ => rfl) (fun _ _ => rfl) ⟨fun _ => rfl, fun hc => Bool.noConfusion hc, nq _ _ _ _ _ (fun x hx => arf _ hx) h1⟩
  | false => exact cn (fun v h' hk => ⟨fun hc => Bool.noConfusion hc, fun _ => hk.1, hk.2⟩) hp
 | (a, sa) :: l1, l2, aZ, env, h, kQ, hp => by
  obtain ⟨h1, h2, h3⟩ := kQ (a, sa) atv
  simp only at h1 h2 h3
  subst h1
  obtain ⟨o, ho, hp⟩ := hp
  have hap : Oper.apart ops o oi = true := by
   unfold mr at h3
   have e1 : ops[a]? = some o := by simpa using ho
   have e2 : ops[i]? = some oi := by simpa using qW
   rw [e1, e2] at h3
   exact h3
  obtain ⟨a1, a2, a3⟩ := Oper.apart_spec hap
  obtain ⟨u, k1, k2⟩ := tu hp
  have ih := sn qW l1 l2 _ _ h (fun p hp => kQ p (arf _ hp)) k1
  have ih' := DC (env' := env) (fun x hx => (lr (fun d hd => a1 d hd) x hx).symm) ih
  refine cn (fun v h' hk => ⟨hk.1, fun hc j ids hj => hk.2.1 hc j ids (arf _ hj), ?_⟩) ih'
  have Nh : ∀ id, id ∈ iw env o.op → bP h id = bP h' id := fun id hid => by
   cases st with
   | true => rw [hk.1 rfl]
   | false => exact hk.2.1 rfl a _ atv h2 id hid
  have tT : ∀ x, x ∈ o.looksAt ops → env x = cp env oi.dst v x := lr (fun d hd => a3 d hd)
  refine ⟨o, ho, k2 _ h' _ tT Nh ?_⟩
  have Ni : iw (cp env oi.dst v) o.op = iw env o.op := by
   exact qU (pN tT)
  simp only
  rw [Ni, tv (fun x hx => (fun he => a2 x he hx) : ∀ x, oi.dst = some x → o.dst ≠ some x)]
  exact hk.2.2
def tq (P : Program) (T : lq) (all : List Oper) (t : List (Nat × List Nat)) (A0 B0 : List (Nat × Bool)) (K : Env → List ak → Prop) : List (Nat × Bool) → List (Nat × List Nat) → Env → List ak → Prop
 | [], aZ, env, h => xn P T all t K A0 aZ env h ∧ xn P T all t K B0 aZ env h
 | (i, st) :: r, aZ, env, h => ∃ o, all[i]? = some o ∧ fs P T all st o (fun v h' => match st with
   | true => tq P T all t A0 B0 K r ((i, iw env o.op) :: aZ) (cp env o.dst v) h'
   | false => (∀ j ids, (j, ids) ∈ aZ → iI (b8 t i) j = false → ∀ id, id ∈ ids → bP h id = bP h' id) ∧ tq P T all t A0 B0 K r aZ (cp env o.dst v) h') env h
theorem pA {all : List Oper} {t : List (Nat × List Nat)} {A0 B0 : List (Nat × Bool)} {K : Env → List ak → Prop} : ∀ (l : List (Nat × Bool)) (aZ : List (Nat × List Nat)) (env : Env) (h : List ak), fw2 P T all t A0 B0 K l aZ env h → tq P T all t A0 B0 K l aZ env h
 | [], _, _, _, hp => ⟨jQ _ _ _ _ hp.1, jQ _ _ _ _ hp.2⟩
 | (i, true) :: r, aZ, env, h, hp => by
  have hp : (match all[i]? with
   | some o => mv P T all true o (fun env' v h' => fw2 P T all t A0 B0 K r ((i, iw env' o.op) :: aZ) (cp env' o.dst v) h') env h
   | none => False) := hp
  cases ho : all[i]? with
  | none => rw [ho] at hp; exact hp.elim
  | some o =>
   rw [ho] at hp
   exact ⟨o, ho, cn (fun v h' hk => pA r _ _ _ hk) (jR hp)⟩
 | (i, false) :: r, aZ, env, h, hp => by
  have hp : (match all[i]? with
   | some o => mv P T all false o (fun env' v h' => kH (b8 t i) h h' (fw2 P T all t A0 B0 K r aZ (cp env' o.dst v) h') aZ) env h
   | none => False) := hp
  cases ho : all[i]? with
  | none => rw [ho] at hp; exact hp.elim
  | some o =>
   rw [ho] at hp
   refine ⟨o, ho, cn (fun v h' hk => ?_) (jR hp)⟩
   obtain ⟨h1, h2⟩ := kj _ hk
   exact ⟨h1, pA r _ _ _ h2⟩
theorem tw {all : List Oper} {t : List (Nat × List Nat)} {A0 B0 : List (Nat × Bool)} {K : Env → List ak → Prop} : ∀ (l : List (Nat × Bool)) (aZ kW : List (Nat × List Nat)) (env : Env) (h : List ak), (∀ x, x ∈ kW → x ∈ aZ) → tq P T all t A0 B0 K l aZ env h → tq P T all t A0 B0 K l kW env h
 | [], aZ, kW, _, _, hs, hp => ⟨nq _ aZ kW _ _ hs hp.1, nq _ aZ kW _ _ hs hp.2⟩
 | (i, st) :: r, aZ, kW, env, h, hs, hp => by
  obtain ⟨o, ho, hp⟩ := hp
  refine ⟨o, ho, cn (fun v h' hk => ?_) hp⟩
  cases st with
  | true => exact tw r _ _ _ _ (fun x hx => by simp only [aqY] at hx ⊢; exact hx.imp id (hs x)) hk
  | false => exact ⟨fun j ids hj => hk.1 j ids (hs _ hj), tw r _ _ _ _ hs hk.2⟩
theorem ye {ops : Array Oper} {t : List (Nat × List Nat)} {A0 B0 : List (Nat × Bool)} {K : Env → List ak → Prop} {i : Nat} {st : Bool} {oi : Oper} (qW : ops.toList[i]? = some oi) :
  ∀ (l1 l2 : List (Nat × Bool)) (aZ : List (Nat × List Nat)) (env : Env) (h : List ak), (∀ p, p ∈ l1 → p.2 = true ∧ iI (b8 t i) p.1 = false ∧ mr ops p.1 i = true) → tq P T ops.toList t A0 B0 K (l1 ++ (i, st) :: l2) aZ env h →
   fs P T ops.toList st oi (fun v h' => (st = true → h' = h) ∧ (st = false → ∀ j ids, (j, ids) ∈ aZ → iI (b8 t i) j = false → ∀ id, id ∈ ids → bP h id = bP h' id) ∧ tq P T ops.toList t A0 B0 K (l1 ++ l2) aZ (cp env oi.dst v) h') env h
 | [], l2, aZ, env, h, _, hp => by
  obtain ⟨o, ho, hp⟩ := hp
  rw [qW] at ho
  injection ho with ho
  subst ho
  cases st with
  | true =>
   obtain ⟨v, h1, h2⟩ := tu hp
   exact h2 env h _ (fun _ _ => rfl) (fun _ _ => rfl) ⟨fun _ => rfl, fun hc => Bool.noConfusion hc, tw _ _ _ _ _ (fun x hx => arf _ hx) h1⟩
  | false => exact cn (fun v h' hk => ⟨fun hc => Bool.noConfusion hc, fun _ => hk.1, hk.2⟩) hp
 | (a, sa) :: l1, l2, aZ, env, h, kQ, hp => by
  obtain ⟨h1, h2, h3⟩ := kQ (a, sa) atv
  simp only at h1 h2 h3
  subst h1
  obtain ⟨o, ho, hp⟩ := hp
  have hap : Oper.apart ops o oi = true := by
   unfold mr at h3
   have e1 : ops[a]? = some o := by simpa using ho
   have e2 : ops[i]? = some oi := by simpa using qW
   rw [e1, e2] at h3
   exact h3
  obtain ⟨a1, a2, a3⟩ := Oper.apart_spec hap
  obtain ⟨u, k1, k2⟩ := tu hp
  have ih := ye qW l1 l2 _ _ h (fun p hp => kQ p (arf _ hp)) k1
  have ih' := DC (env' := env) (fun x hx => (lr (fun d hd => a1 d hd) x hx).symm) ih
  refine cn (fun v h' hk => ⟨hk.1, fun hc j ids hj => hk.2.1 hc j ids (arf _ hj), ?_⟩) ih'
  have Nh : ∀ id, id ∈ iw env o.op → bP h id = bP h' id := fun id hid => by
   cases st with
   | true => rw [hk.1 rfl]
   | false => exact hk.2.1 rfl a _ atv h2 id hid
  have tT : ∀ x, x ∈ o.looksAt ops → env x = cp env oi.dst v x := lr (fun d hd => a3 d hd)
  refine ⟨o, ho, k2 _ h' _ tT Nh ?_⟩
  have Ni : iw (cp env oi.dst v) o.op = iw env o.op := by
   exact qU (pN tT)
  simp only
  rw [Ni, tv (fun x hx => (fun he => a2 x he hx) : ∀ x, oi.dst = some x → o.dst ≠ some x)]
  exact hk.2.2
theorem Du {all : List Oper} {t : List (Nat × List Nat)} {A0 B0 : List (Nat × Bool)} {K : Env → List ak → Prop} : ∀ (l : List (Nat × Bool)) (aZ : List (Nat × List Nat)) (env : Env) (h : List ak), tq P T all t A0 B0 K l aZ env h → xn P T all t K (l ++ A0) aZ env h
 | [], _, _, _, hp => hp.1
 | (i, st) :: r, aZ, env, h, hp => by
  obtain ⟨o, ho, hp⟩ := hp
  refine ⟨o, ho, cn (fun v h' hk => ?_) hp⟩
  cases st with
  | true => exact Du r _ _ _ hk
  | false => exact ⟨hk.1, Du r _ _ _ hk.2⟩
theorem Dv {all : List Oper} {t : List (Nat × List Nat)} {A0 B0 : List (Nat × Bool)} {K : Env → List ak → Prop} : ∀ (l : List (Nat × Bool)) (aZ : List (Nat × List Nat)) (env : Env) (h : List ak), tq P T all t A0 B0 K l aZ env h → xn P T all t K (l ++ B0) aZ env h
 | [], _, _, _, hp => hp.2
 | (i, st) :: r, aZ, env, h, hp => by
  obtain ⟨o, ho, hp⟩ := hp
  refine ⟨o, ho, cn (fun v h' hk => ?_) hp⟩
  cases st with
  | true => exact Dv r _ _ _ hk
  | false => exact ⟨hk.1, Dv r _ _ _ hk.2⟩
def kD (P : Program) (T : lq) (all : List Oper) (t : List (Nat × List Nat)) (E : List (Nat × List Nat) → Env → List ak → Prop) : List (Nat × Bool) → List (Nat × List Nat) → Env → List ak → Prop
 | [], aZ, env, h => E aZ env h
 | (i, st) :: r, aZ, env, h => ∃ o, all[i]? = some o ∧ fs P T all st o (fun v h' => match st with
   | true => kD P T all t E r ((i, iw env o.op) :: aZ) (cp env o.dst v) h'
   | false => (∀ j ids, (j, ids) ∈ aZ → iI (b8 t i) j = false → ∀ id, id ∈ ids → bP h id = bP h' id) ∧ kD P T all t E r aZ (cp env o.dst v) h') env h
def pr (E : List (Nat × List Nat) → Env → List ak → Prop) : Prop := ∀ (aZ kW : List (Nat × List Nat)) (env : Env) (h : List ak), (∀ x, x ∈ kW → x ∈ aZ) → E aZ env h → E kW env h
theorem pO {all : List Oper} {t : List (Nat × List Nat)} {E : List (Nat × List Nat) → Env → List ak → Prop} (hE : pr E) : ∀ (l : List (Nat × Bool)) (aZ kW : List (Nat × List Nat)) (env : Env) (h : List ak), (∀ x, x ∈ kW → x ∈ aZ) → kD P T all t E l aZ env h → kD P T all t E l kW env h
 | [], aZ, kW, _, _, hs, hp => hE aZ kW _ _ hs hp
 | (i, st) :: r, aZ, kW, env, h, hs, hp => by
  obtain ⟨o, ho, hp⟩ := hp
  refine ⟨o, ho, cn (fun v h' hk => ?_) hp⟩
  cases st with
  | true => exact pO hE r _ _ _ _ (fun x hx => by simp only [aqY] at hx ⊢; exact hx.imp id (hs x)) hk
  | false => exact ⟨fun j ids hj => hk.1 j ids (hs _ hj), pO hE r _ _ _ _ hs hk.2⟩
theorem pL {ops : Array Oper} {t : List (Nat × List Nat)} {E : List (Nat × List Nat) → Env → List ak → Prop} (hE : pr E) {i : Nat} {st : Bool} {oi : Oper} (qW : ops.toList[i]? = some oi) :
  ∀ (l1 l2 : List (Nat × Bool)) (aZ : List (Nat × List Nat)) (env : Env) (h : List ak), (∀ p, p ∈ l1 → p.2 = true ∧ iI (b8 t i) p.1 = false ∧ mr ops p.1 i = true) → kD P T ops.toList t E (l1 ++ (i, st) :: l2) aZ env h →
   fs P T ops.toList st oi (fun v h' => (st = true → h' = h) ∧ (st = false → ∀ j ids, (j, ids) ∈ aZ → iI (b8 t i) j = false → ∀ id, id ∈ ids → bP h id = bP h' id) ∧ kD P T ops.toList t E (l1 ++ l2) aZ (cp env oi.dst v) h') env h
 | [], l2, aZ, env, h, _, hp => by
  obtain ⟨o, ho, hp⟩ := hp
  rw [qW] at ho
  injection ho with ho
  subst ho
  cases st with
  | true =>
   obtain ⟨v, h1, h2⟩ := tu hp
   exact h2 env h _ (fun _ _ => rfl) (fun _ _ => rfl) ⟨fun _ => rfl, fun hc => Bool.noConfusion hc, pO hE _ _ _ _ _ (fun x hx => arf _ hx) h1⟩
  | false => exact cn (fun v h' hk => ⟨fun hc => Bool.noConfusion hc, fun _ => hk.1, hk.2⟩) hp
 | (a, sa) :: l1, l2, aZ, env, h, kQ, hp => by
  obtain ⟨h1, h2, h3⟩ := kQ (a, sa) atv
  simp only at h1 h2 h3
  subst h1
  obtain ⟨o, ho, hp⟩ := hp
  have hap : Oper.apart ops o oi = true := by
   unfold mr at h3
   have e1 : ops[a]? = some o := by simpa using ho
   have e2 : ops[i]? = some oi := by simpa using qW
   rw [e1, e2] at h3
   exact h3
  obtain ⟨a1, a2, a3⟩ := Oper.apart_spec hap
  obtain ⟨u, k1, k2⟩ := tu hp
  have ih := pL hE qW l1 l2 _ _ h (fun p hp => kQ p (arf _ hp)) k1
  have ih' := DC (env' := env) (fun x hx => (lr (fun d hd => a1 d hd) x hx).symm) ih
  refine cn (fun v h' hk => ⟨hk.1, fun hc j ids hj => hk.2.1 hc j ids (arf _ hj), ?_⟩) ih'
  have Nh : ∀ id, id ∈ iw env o.op → bP h id = bP h' id := fun id hid => by
   cases st with
   | true => rw [hk.1 rfl]
   | false => exact hk.2.1 rfl a _ atv h2 id hid
  have tT : ∀ x, x ∈ o.looksAt ops → env x = cp env oi.dst v x := lr (fun d hd => a3 d hd)
  refine ⟨o, ho, k2 _ h' _ tT Nh ?_⟩
  have Ni : iw (cp env oi.dst v) o.op = iw env o.op := by
   exact qU (pN tT)
  simp only
  rw [Ni, tv (fun x hx => (fun he => a2 x he hx) : ∀ x, oi.dst = some x → o.dst ≠ some x)]
  exact hk.2.2
theorem pq {all : List Oper} {t : List (Nat × List Nat)} {E : List (Nat × List Nat) → Env → List ak → Prop} {l' : List (Nat × Bool)} : ∀ (l : List (Nat × Bool)) (aZ : List (Nat × List Nat)) (env : Env) (h : List ak), kD P T all t (fun aZ env h => kD P T all t E l' aZ env h) l aZ env h → kD P T all t E (l ++ l') aZ env h
 | [], _, _, _, hp => hp
 | (i, st) :: r, aZ, env, h, hp => by
  obtain ⟨o, ho, hp⟩ := hp
  refine ⟨o, ho, cn (fun v h' hk => ?_) hp⟩
  cases st with
  | true => exact pq r _ _ _ hk
  | false => exact ⟨hk.1, pq r _ _ _ hk.2⟩
theorem sq {all : List Oper} {t : List (Nat × List Nat)} {E E' : List (Nat × List Nat) → Env → List ak → Prop} (hi : ∀ aZ env h, E aZ env h → E' aZ env h) : ∀ (l : List (Nat × Bool)) (aZ : List (Nat × List Nat)) (env : Env) (h : List ak), kD P T all t E l aZ env h → kD P T all t E' l aZ env h
 | [], _, _, _, hp => hi _ _ _ hp
 | (i, st) :: r, aZ, env, h, hp => by
  obtain ⟨o, ho, hp⟩ := hp
  refine ⟨o, ho, cn (fun v h' hk => ?_) hp⟩
  cases st with
  | true => exact sq hi r _ _ _ hk
  | false => exact ⟨hk.1, sq hi r _ _ _ hk.2⟩
theorem po {all : List Oper} {t : List (Nat × List Nat)} {K : Env → List ak → Prop} {l' : List (Nat × Bool)} : ∀ (l : List (Nat × Bool)) (aZ : List (Nat × List Nat)) (env : Env) (h : List ak), kD P T all t (fun aZ env h => xn P T all t K l' aZ env h) l aZ env h → xn P T all t K (l ++ l') aZ env h
 | [], _, _, _, hp => hp
 | (i, st) :: r, aZ, env, h, hp => by
  obtain ⟨o, ho, hp⟩ := hp
  refine ⟨o, ho, cn (fun v h' hk => ?_) hp⟩
  cases st with
  | true => exact po r _ _ _ hk
  | false => exact ⟨hk.1, po r _ _ _ hk.2⟩
theorem mu {all : List Oper} {t : List (Nat × List Nat)} {E E' : List (Nat × List Nat) → Env → List ak → Prop} (hi : ∀ aZ env h, E aZ env h → E' aZ env h) : ∀ (l : List (Nat × Bool)) (aZ : List (Nat × List Nat)) (env : Env) (h : List ak), fwE P T all t E l aZ env h → kD P T all t E' l aZ env h
 | [], _, _, _, hp => hi _ _ _ hp
 | (i, true) :: r, aZ, env, h, hp => by
  have hp : (match all[i]? with
   | some o => mv P T all true o (fun env' v h' => fwE P T all t E r ((i, iw env' o.op) :: aZ) (cp env' o.dst v) h') env h
   | none => False) := hp
  cases ho : all[i]? with
  | none => rw [ho] at hp; exact hp.elim
  | some o =>
   rw [ho] at hp
   exact ⟨o, ho, cn (fun v h' hk => mu hi r _ _ _ hk) (jR hp)⟩
 | (i, false) :: r, aZ, env, h, hp => by
  have hp : (match all[i]? with
   | some o => mv P T all false o (fun env' v h' => kH (b8 t i) h h' (fwE P T all t E r aZ (cp env' o.dst v) h') aZ) env h
   | none => False) := hp
  cases ho : all[i]? with
  | none => rw [ho] at hp; exact hp.elim
  | some o =>
   rw [ho] at hp
   refine ⟨o, ho, cn (fun v h' hk => ?_) (jR hp)⟩
   obtain ⟨h1, h2⟩ := kj _ hk
   exact ⟨h1, mu hi r _ _ _ h2⟩
theorem nm {all : List Oper} {t : List (Nat × List Nat)} {K : Env → List ak → Prop} (l : List (Nat × Bool)) : pr (fun aZ env h => xn P T all t K l aZ env h) := fun aZ kW env h hs hp => nq l aZ kW env h hs hp
theorem lQ {all : List Oper} {t : List (Nat × List Nat)} {E : List (Nat × List Nat) → Env → List ak → Prop} (hE : pr E) (l : List (Nat × Bool)) : pr (fun aZ env h => kD P T all t E l aZ env h) := fun aZ kW env h hs hp => pO hE l aZ kW env h hs hp
theorem yf {E E' : List (Nat × List Nat) → Env → List ak → Prop} (h1 : pr E) (h2 : pr E') : pr (fun aZ env h => E aZ env h ∧ E' aZ env h) := fun aZ kW env h hs hp => ⟨h1 aZ kW env h hs hp.1, h2 aZ kW env h hs hp.2⟩
end
theorem aE.mono {S S' : Nat → Prop} {w w' : World} (hw : ∀ b, S b → w'.heap[b]? = w.heap[b]?) (hS : ∀ b, S b → S' b) {pv : PV} {v : Value} (h : aE S w pv v) : aE S' w' pv v := by
 induction h with
 | int k n => exact .int k n
 | bool b => exact .bool b
 | str s => exact .str s
 | bf => exact .bf
 | dt => exact .dt
 | fn f => exact .fn f
 | lV sz f a c => exact .lV sz f a c
 | eu sz n f b off c vf h1 h2 h3 h4 _ ih =>
  exact .eu sz n f b off c vf (hS b h1) h2 h3 (fun i j pv hi hj => (World.cell?_of_block (w := w) (hw b h1)).trans (h4 i j pv hi hj)) ih
 | dY cs b off vf h1 h4 _ ih =>
  exact .dY cs b off vf (hS b h1) (fun j pv hj => (World.cell?_of_block (w := w) (hw b h1)).trans (h4 j pv hj)) ih
theorem iq.of_same {w w' : World} {b k : Nat} (h : w'.heap[b]? = w.heap[b]?) (hc : iq w b k) : iq w' b k := by
 obtain ⟨cur, e, z, h1, h2⟩ := hc
 exact ⟨cur, e, z, h.trans h1, h2⟩
theorem iq.least {w : World} {b k : Nat} (h : iq w b k) : iq w b 0 := by
 obtain ⟨cur, e, z, h1, h2⟩ := h
 exact ⟨cur, e, z, h1, asm _⟩
theorem jH.mono {S S' : Nat → Prop} {w w' : World} (hw : ∀ b, S b → w'.heap[b]? = w.heap[b]?) (hS : ∀ b, S b → S' b) {pv : PV} {v : Value} (h : jH S w pv v) :
  (∀ sz n e f F, pv = .fm sz n e f F → ∀ b, F b → w'.heap[b]? = w.heap[b]?) → jH S' w' pv v := by
 induction h with
 | nil sz e f F hF => exact fun _ => .nil sz e f F hF
 | vh sz n e f F b off c a cur vf hF hb hlen hc ha dT aI ku rS xl BP ih =>
  intro hk
  have hk := hk _ _ _ _ _ rfl
  exact .vh sz n e f F b off c a cur vf hF ((hk b hF).trans hb) hlen hc ha dT aI (fun i j pv hi hj => (ku i j pv hi hj).imp_left (fun q => q.mono hw hS))
   (fun i j bs n' e' f' F' hi hj => ih i j bs n' e' f' F' hi hj (fun _ _ _ _ _ he b' kr => by
    injection he with _ _ _ _ he
    subst he
    exact hk b' (xl i j bs n' e' f' _ hi hj b' kr).1)) xl BP
inductive OG (G : PV → Prop) : PV → Prop
 | mk (sz n : Nat) (e : TypeId) (f : Nat → List PV) (F : Nat → Prop) (h1 : ∀ (i j : Nat) (pv : PV), i < n → (f i)[j]? = some pv → eC pv = false → G pv)
   (h2 : ∀ (i j bs n' : Nat) (e' : TypeId) (f' : Nat → List PV) (F' : Nat → Prop), i < n → (f i)[j]? = some (.fm bs n' e' f' F') → OG G (.fm bs n' e' f' F')) : OG G (.fm sz n e f F)
theorem jH.og {S S' : Nat → Prop} {w : World} {G : PV → Prop} (hG : ∀ pv v, G pv → aE S w pv v → aE S' w pv v) {pv : PV} {v : Value} (h : jH S w pv v) : OG G pv → jH S' w pv v := by
 induction h with
 | nil sz e f F hF => exact fun _ => .nil sz e f F hF
 | vh sz n e f F b off c a cur vf hF hb hlen hc ha dT aI ku rS xl BP ih =>
  intro hg
  cases hg with
  | mk _ _ _ _ _ h1 h2 =>
   exact .vh sz n e f F b off c a cur vf hF hb hlen hc ha dT aI (fun i j pv hi hj => by
    cases hx : eC pv with
    | false => exact (ku i j pv hi hj).imp_left (fun q => hG pv _ (h1 i j pv hi hj hx) q)
    | true => exact .inr (by cases pv <;> first | exact ⟨_, _, _, _, _, rfl⟩ | cases hx)) (fun i j bs n' e' f' F' hi hj => ih i j bs n' e' f' F' hi hj (h2 i j bs n' e' f' F' hi hj)) xl BP
theorem jH.all {S : Nat → Prop} {w : World} {pv : PV} {v : Value} (h : jH S w pv v) : OG (fun _ => True) pv := by
 induction h with
 | nil sz e f F hF => exact .mk sz 0 e f F (fun _ _ _ _ _ _ => trivial) (fun i j _ _ _ _ _ hi => absurd hi (arK _))
 | vh sz n e f F b off c a cur vf hF hb hlen hc ha dT aI ku rS xl BP ih => exact .mk sz n e f F (fun _ _ _ _ _ _ => trivial) ih
theorem jH.one {S : Nat → Prop} {w : World} {pv : PV} {v : Value} (h : jH S w pv v) : v.oneCell' = true := by cases h <;> rfl
section
variable {μ μ' : Mu} {h h' : List ak} {S S' : Nat → Prop} {w w' : World}
theorem bm.jd {pv : PV} {v : Value} (hp : aE S w pv v) : bm μ h S w pv v := by
 cases hp <;> first | exact .int _ _ | exact .bool _ | exact .str _ | exact .bf | exact .dt | exact .fn _ | exact .lV _ _ _ _ | (rename_i h1 h2 h3 h4 h5 _; first | exact .eu _ _ _ _ _ _ _ ‹_› ‹_› ‹_› ‹_› ‹_›) | exact .dY _ _ _ _ ‹_› ‹_› ‹_›
theorem bm.fr (hf : Fr μ h S w μ' h' S' w') (hm : nC μ h S w) {pv : PV} {v : Value} (hc : bm μ h S w pv v) : bm μ' h' S' w' pv v := by
 have hS : ∀ b, S b → w'.heap[b]? = w.heap[b]? := fun b hb => hf.blocks b (hm.slt b hb) (fun ho => hm.apart b ho hb)
 have pB : ∀ (id gen i off : Nat) (v : Value), a6 μ h w id gen i off v → a6 μ' h' w' id gen i off v := fun id gen i off v hc => by
  unfold a6 at hc ⊢
  obtain ⟨hv0, hc⟩ := hc
  refine ⟨hv0, ?_⟩
  cases ho : h[id]? with
  | none => rw [ho] at hc; exact hc.elim
  | some o =>
   cases o with
   | dead => rw [hf.dead id ho]; trivial
   | row g sz n e f =>
    rw [ho] at hc
    have hg := hf.vK id g sz n e f ho
    cases Ha : h'[id]? with
    | none => rw [Ha] at hg; exact hg
    | some o' =>
     cases o' with
     | dead => trivial
     | row g' bs n' e' f' =>
      rw [Ha] at hg
      obtain ⟨hle, iu⟩ := hg
      obtain ⟨aa5, hc⟩ := hc
      refine ⟨arN aa5 hle, fun he => ?_⟩
      have heq : g' = g := by omega
      obtain ⟨hμ, rfl, rfl, rfl⟩ := iu heq
      obtain ⟨h1, h2⟩ := hc att
      refine ⟨h1, ?_⟩
      rw [hμ]
      obtain ⟨b, base, q1, q2, q3⟩ := h2
      exact ⟨b, base, q1, ⟨hf.bp b _ (.inl ⟨id, g, _, _, _, _, base, ho, q1⟩) q2.1, q2.2⟩, q3⟩
 cases pv with
 | own id gen off len =>
  have hc : aV μ h w id gen off len v := hc
  show aV μ' h' w' id gen off len v
  unfold aV at hc ⊢
  obtain ⟨hv0, hc⟩ := hc
  refine ⟨hv0, ?_⟩
  cases ho : h[id]? with
  | none => rw [ho] at hc; exact hc.elim
  | some o =>
   cases o with
   | dead => rw [hf.dead id ho]; trivial
   | row g sz n e f =>
    rw [ho] at hc
    have hg := hf.vK id g sz n e f ho
    cases Ha : h'[id]? with
    | none => rw [Ha] at hg; exact hg
    | some o' =>
     cases o' with
     | dead => trivial
     | row g' bs n' e' f' =>
      rw [Ha] at hg
      obtain ⟨hle, iu⟩ := hg
      obtain ⟨aa5, hc⟩ := hc
      refine ⟨arN aa5 hle, fun he => ?_⟩
      have heq : g' = g := by omega
      obtain ⟨hμ, rfl, rfl, rfl⟩ := iu heq
      obtain ⟨h1, h2⟩ := hc att
      refine ⟨h1, ?_⟩
      rw [hμ]
      cases dX : μ id with
      | none => rw [dX] at h2; exact h2
      | some p =>
       obtain ⟨b, base⟩ := p
       rw [dX] at h2
       obtain ⟨a, cap, h3, h4, h5, h6⟩ := h2
       exact ⟨a, cap, h3, h4, h5, hf.bp b _ (.inl ⟨id, g, _, _, _, _, base, ho, dX⟩) h6⟩
 | aM id gen i off => exact pB _ _ _ _ _ hc
 | kX f bp => exact oh.mono (show k6 μ h w f bp v from hc) (fun id g u hu => pB _ _ _ _ _ hu)
 | kP id =>
  have hc : ew μ h w id v := hc
  show ew μ' h' w' id v
  unfold ew at hc ⊢
  obtain ⟨hv0, hc⟩ := hc
  refine ⟨hv0, ?_⟩
  cases ho : h[id]? with
  | none => rw [ho] at hc; exact hc.elim
  | some o =>
   cases o with
   | dead => rw [hf.dead id ho]; trivial
   | row g sz n e f =>
    rw [ho] at hc
    obtain ⟨b, base, q1, q2, q3⟩ := hc
    obtain ⟨r1, r2⟩ := hf.maps id g sz n e f b base ho q1 q2
    rcases r2 with r2 | ⟨⟨g', bs, n', e', f', r2⟩, r3⟩
    ·rw [r2]; trivial
    ·rw [r2]; exact ⟨b, base, r3, r1, q3⟩
 | fO => exact hc
 | fm sz n e f F => exact hc
 | agg cs => exact hc.elim
 | aU cs => exact hc.elim
 | int k n => exact aE.mono hS hf.sub hc
 | bool b => exact aE.mono hS hf.sub hc
 | str s => exact aE.mono hS hf.sub hc
 | bf => exact aE.mono hS hf.sub hc
 | dt => exact aE.mono hS hf.sub hc
 | eu sz n f => exact aE.mono hS hf.sub hc
 | dY cs => exact aE.mono hS hf.sub hc
 | fn f => exact aE.mono hS hf.sub hc
theorem gn.fr (hf : Fr μ h S w μ' h' S' w') (hm : nC μ h S w) {pv : PV} {v : Value} (hc : gn μ h S w pv v) : gn μ' h' S' w' pv v := by
 cases pv with
 | agg cs =>
  obtain ⟨vs, h1, h2, h3⟩ := hc
  exact ⟨vs, h1, h2, fun j pv hj => let ⟨u, hu, hr⟩ := h3 j pv hj; ⟨u, hu, hr.fr hf hm⟩⟩
 | int k n => exact bm.fr (pv := .int k n) hf hm hc
 | bool b => exact bm.fr (pv := .bool b) hf hm hc
 | str s => exact bm.fr (pv := .str s) hf hm hc
 | bf  => exact bm.fr (pv := .bf ) hf hm hc
 | dt => exact bm.fr (pv := .dt ) hf hm hc
 | eu sz n f => exact bm.fr (pv := .eu sz n f) hf hm hc
 | dY cs => exact bm.fr (pv := .dY cs) hf hm hc
 | own id gen off len => exact bm.fr (pv := .own id gen off len) hf hm hc
 | aM id gen i off => exact bm.fr (pv := .aM id gen i off) hf hm hc
 | kP id => exact bm.fr (pv := .kP id) hf hm hc
 | kX f bp => exact bm.fr (pv := .kX f bp) hf hm hc
 | fn f => exact bm.fr (pv := .fn f) hf hm hc
 | fO => trivial
 | fm sz n e f F => exact bm.fr (pv := .fm sz n e f F) hf hm hc
 | aU cs => exact (show False from hc).elim
theorem aY.fr (hf : Fr μ h S w μ' h' S' w') (hm : nC μ h S w) {pv : PV} {v : Value} (hc : aY μ h S w pv v) : aY μ' h' S' w' pv v := by
 cases pv with
 | aU cs =>
  obtain ⟨vs, h1, h2, h3⟩ := hc
  exact ⟨vs, h1, h2, fun j pv hj => let ⟨u, hu, hr⟩ := h3 j pv hj; ⟨u, hu, hr.fr hf hm⟩⟩
 | int k n => exact gn.fr (pv := .int k n) hf hm hc
 | bool b => exact gn.fr (pv := .bool b) hf hm hc
 | str s => exact gn.fr (pv := .str s) hf hm hc
 | bf  => exact gn.fr (pv := .bf ) hf hm hc
 | dt => exact gn.fr (pv := .dt ) hf hm hc
 | eu sz n f => exact gn.fr (pv := .eu sz n f) hf hm hc
 | dY cs => exact gn.fr (pv := .dY cs) hf hm hc
 | own id gen off len => exact gn.fr (pv := .own id gen off len) hf hm hc
 | aM id gen i off => exact gn.fr (pv := .aM id gen i off) hf hm hc
 | kP id => exact gn.fr (pv := .kP id) hf hm hc
 | kX f bp => exact gn.fr (pv := .kX f bp) hf hm hc
 | fn f => exact gn.fr (pv := .fn f) hf hm hc
 | fO => trivial
 | fm sz n e f F => exact gn.fr (pv := .fm sz n e f F) hf hm hc
 | agg cs => exact gn.fr (pv := .agg cs) hf hm hc
theorem aE.one {pv : PV} {v : Value} (hp : aE S w pv v) : v.oneCell' = true := by cases hp <;> rfl
theorem bm.one {pv : PV} {v : Value} (hc : bm μ h S w pv v) : v.oneCell' = true := by
 cases pv with
 | own id gen off len =>
  obtain ⟨⟨a, l, c, rfl⟩, _⟩ := (show aV μ h w id gen off len v from hc)
  rfl
 | aM id gen i off =>
  obtain ⟨⟨a, rfl⟩, _⟩ := (show a6 μ h w id gen i off v from hc)
  rfl
 | kP id =>
  obtain ⟨⟨a, rfl⟩, _⟩ := (show ew μ h w id v from hc)
  rfl
 | kX f bp =>
  obtain ⟨vs, rfl, _⟩ := (show k6 μ h w f bp v from hc)
  rfl
 | fO => exact hc
 | fm sz n e f F => exact hc
 | agg cs => exact (show False from hc).elim
 | aU cs => exact (show False from hc).elim
 | int k n => exact aE.one (show aE S w _ v from hc)
 | bool b => exact aE.one (show aE S w _ v from hc)
 | str s => exact aE.one (show aE S w _ v from hc)
 | bf => exact aE.one (show aE S w _ v from hc)
 | dt => exact aE.one (show aE S w _ v from hc)
 | eu sz n f => exact aE.one (show aE S w _ v from hc)
 | dY cs => exact aE.one (show aE S w _ v from hc)
 | fn f => exact aE.one (show aE S w _ v from hc)
theorem k4.c {pv : PV} {v : Value} (hc : k4 μ h S w pv v) : bm μ h S w pv v := by
 cases pv with
 | fm sz n e f F => exact jH.one (show jH S w (.fm sz n e f F) v from hc)
 | _ => exact hc
theorem bm.k {pv : PV} {v : Value} (hc : bm μ h S w pv v) (ho : eC pv = false) : k4 μ h S w pv v := by
 cases pv with
 | fm sz n e f F => cases ho
 | _ => exact hc
theorem k4.fr (hf : Fr μ h S w μ' h' S' w') (hm : nC μ h S w) {pv : PV} {v : Value} (hF : ∀ sz n e f F, pv = .fm sz n e f F → ∀ b, F b → w'.heap[b]? = w.heap[b]?) (hc : k4 μ h S w pv v) : k4 μ' h' S' w' pv v := by
 cases pv with
 | fm sz n e f F => exact jH.mono (fun b hb => hf.blocks b (hm.slt b hb) (fun ho => hm.apart b ho hb)) hf.sub (show jH S w (.fm sz n e f F) v from hc) hF
 | _ => exact (bm.fr hf hm (k4.c hc)).k rfl
theorem rB {id i j b : Nat} : ¬ cA [] id i j b := fun ⟨_, _, _, _, _, _, _, _, _, _, h1, _⟩ => by simp at h1
theorem je {μ : Mu} {b : Nat} : ¬ bH μ [] b := fun h => by
 rcases h with ⟨id, g, sz, n, e, f, base, h1, _⟩ | ⟨_, _, _, h1⟩
 ·simp at h1
 ·exact rB h1
theorem Fr.refl : Fr μ h S w μ h S w where
 len := aqP _
 blocks _ _ _ := rfl
 sub _ hb := hb
 new _ hb := .inl hb
 own _ hb := .inl hb
 size := aqP _
 os := rfl
 tape := rfl
 output := rfl
 vK id g sz n e f hh := by rw [hh]; exact ⟨aqP _, fun _ => ⟨rfl, rfl, rfl, rfl⟩⟩
 dead _ hh := hh
 bp _ _ _ hc := hc
 maps id g sz n e f b base ho hm hb := ⟨hb, .inr ⟨⟨g, sz, n, e, f, ho⟩, hm⟩⟩
 p8 b id i j hh hb := hb
theorem Fr.trans {μ'' : Mu} {Qu : List ak} {S'' : Nat → Prop} {KK : World} (a : Fr μ h S w μ' h' S' w') (b : Fr μ' h' S' w' μ'' Qu S'' KK) : Fr μ h S w μ'' Qu S'' KK where
 len := arN a.len b.len
 blocks k hk hn := (b.blocks k (ars hk a.size) (fun ho => by
  rcases a.own k ho with h1 | h1
  ·exact hn h1
  ·omega)).trans (a.blocks k hk hn)
 sub k hk := b.sub k (a.sub k hk)
 new k hk := by
  rcases b.new k hk with h1 | h1 | h1
  ·exact a.new k h1
  ·rcases a.own k h1 with h2 | h2
   ·exact .inr (.inl h2)
   ·exact .inr (.inr h2)
  ·exact .inr (.inr (arN a.size h1))
 own k hk := by
  rcases b.own k hk with h1 | h1
  ·exact a.own k h1
  ·exact .inr (arN a.size h1)
 size := arN a.size b.size
 os := b.os.trans a.os
 tape := b.tape.trans a.tape
 output := b.output.trans a.output
 vK id g sz n e f hh := by
  have h1 := a.vK id g sz n e f hh
  cases Ha : h'[id]? with
  | none => rw [Ha] at h1; exact h1.elim
  | some o' =>
   cases o' with
   | dead => rw [b.dead id Ha]; trivial
   | row g' bs n' e' f' =>
    rw [Ha] at h1
    have h2 := b.vK id g' bs n' e' f' Ha
    cases ho'' : Qu[id]? with
    | none => rw [ho''] at h2; exact h2
    | some o'' =>
     cases o'' with
     | dead => trivial
     | row g'' sz'' n'' e'' f'' =>
      rw [ho''] at h2
      refine ⟨arN h1.1 h2.1, fun he => ?_⟩
      have e1 : g' = g := by have := h1.1; have := h2.1; omega
      have e2 : g'' = g' := by omega
      obtain ⟨x1, x2, x3, x4⟩ := h1.2 e1
      obtain ⟨y1, y2, y3, y4⟩ := h2.2 e2
      exact ⟨y1.trans x1, y2.trans x2, y3.trans x3, y4.trans x4⟩
 dead id hh := b.dead id (a.dead id hh)
 bp k c ho hc := by
  have h1 := a.bp k c ho hc
  by_cases h2 : bH μ' h' k
  ·exact b.bp k c h2 h1
  ·refine iq.of_same (b.blocks k ?_ h2) h1
   obtain ⟨cur, e, z, h3, _⟩ := h1
   exact (aqT.1 h3).1
 maps id g sz n e f k base ho hm hb := by
  obtain ⟨h1, h2⟩ := a.maps id g sz n e f k base ho hm hb
  rcases h2 with h2 | ⟨⟨g', bs, n', e', f', h2⟩, h3⟩
  ·refine ⟨?_, .inl (b.dead id h2)⟩
   by_cases h4 : bH μ' h' k
   ·rcases h4 with ⟨j, g', bs, n', e', f', jL, j1, j2⟩ | ⟨j, x, y, h4⟩
    ·exact (b.maps j g' bs n' e' f' k jL j1 j2 h1).1
    ·exact b.p8 k j x y h4 h1
   ·obtain ⟨es, c, h5⟩ := h1
    exact ⟨es, c, (b.blocks k (aqT.1 h5).1 h4).trans h5⟩
  ·exact b.maps id g' bs n' e' f' k base h2 h3 h1
 p8 k id i j hh hb := by
  have h1 := a.p8 k id i j hh hb
  by_cases h4 : bH μ' h' k
  ·rcases h4 with ⟨j, g', bs, n', e', f', jL, j1, j2⟩ | ⟨j, x, y, h4⟩
   ·exact (b.maps j g' bs n' e' f' k jL j1 j2 h1).1
   ·exact b.p8 k j x y h4 h1
  ·obtain ⟨es, c, h5⟩ := h1
   exact ⟨es, c, (b.blocks k (aqT.1 h5).1 h4).trans h5⟩
structure bF (w w' : World) : Prop where
 blocks : ∀ b, b < w.heap.size → w'.heap[b]? = w.heap[b]?
 size : w.heap.size ≤ w'.heap.size
 os : w'.os = w.os
 tape : w'.tape = w.tape
 output : w'.output = w.output
theorem bF.refl (w : World) : bF w w := ⟨fun _ _ => rfl, aqP _, rfl, rfl, rfl⟩
theorem bF.trans {a b c : World} (x : bF a b) (y : bF b c) : bF a c :=
 ⟨fun k hk => (y.blocks k (ars hk x.size)).trans (x.blocks k hk), arN x.size y.size, y.os.trans x.os, y.tape.trans x.tape, y.output.trans x.output⟩
theorem bF.cell {w w' : World} (h : bF w w') {a : Addr} {u : Value} (hc : w.cell? a = some u) : w'.cell? a = some u :=
 (World.cell?_of_block (w := w) (h.blocks a.block (World.block_lt_of_cell? _ _ hc))).trans hc
theorem bF.drew (w : World) : bF w w.drew := ⟨fun _ _ => rfl, aqP _, rfl, rfl, rfl⟩
theorem bF.drewN (w : World) (n : Nat) : bF w (w.drewN n) := ⟨fun _ _ => rfl, aqP _, rfl, rfl, rfl⟩
theorem iq.lt {b k : Nat} (h : iq w b k) : b < w.heap.size := by
 obtain ⟨cur, e, z, h1, _⟩ := h
 exact (aqT.1 h1).1
theorem Fr.rq (ha : bF w w') : Fr μ h S w μ h S w' where
 len := aqP _
 blocks b hb _ := ha.blocks b hb
 sub _ hb := hb
 new _ hb := .inl hb
 own _ hb := .inl hb
 size := ha.size
 os := ha.os
 tape := ha.tape
 output := ha.output
 vK id g sz n e f hh := by rw [hh]; exact ⟨aqP _, fun _ => ⟨rfl, rfl, rfl, rfl⟩⟩
 dead _ hh := hh
 bp b k _ hc := iq.of_same (ha.blocks b hc.lt) hc
 maps id g sz n e f b base ho hm hb := ⟨let ⟨es, c, h5⟩ := hb; ⟨es, c, (ha.blocks b (aqT.1 h5).1).trans h5⟩, .inr ⟨⟨g, sz, n, e, f, ho⟩, hm⟩⟩
 p8 b id i j _ hb := let ⟨es, c, h5⟩ := hb; ⟨es, c, (ha.blocks b (aqT.1 h5).1).trans h5⟩
theorem nC.vJ (hm : nC μ h S w) (hF : Fr μ h S w μ' h' S' w') : Nn S' w' :=
 hm.known.Og (fun b hb => hF.blocks b (hm.slt b hb) (fun ho => hm.apart b ho hb)) hF.sub
theorem nC.agree (ha : bF w w') (hm : nC μ h S w) : nC μ h S w' :=
 ⟨hm.apart, fun b hb => ars (hm.lt b hb) ha.size, fun b hb => ars (hm.slt b hb) ha.size, hm.inj, hm.known.Og (fun b hb => ha.blocks b (hm.slt b hb)) (fun _ hb => hb), hm.hv, hm.hh⟩
theorem bw.agree (ha : bF w w') (hm : nC μ h S w) (hh : bw μ h S w) : bw μ h S w' := by
 intro id g sz n e f ho
 obtain ⟨h1, h2⟩ := hh id g sz n e f ho
 refine ⟨h1, ?_⟩
 cases dX : μ id with
 | none => rw [dX] at h2; exact h2
 | some p =>
  obtain ⟨b, base⟩ := p
  rw [dX] at h2
  obtain ⟨o, h3, h4⟩ := h2
  have cD : b < w.heap.size := (aqT.1 h3).1
  exact ⟨o, (ha.blocks b cD).trans h3, h4.mono (fun i j pv v hi hj hr => hr.fr (Fr.rq ha) hm (fun bs n' e' f' F' he b' kr => ha.blocks b' (hm.lt b' (.inr ⟨id, i, j, g, sz, n, e, f, bs, n', e', f', F', ho, hi, by rw [hj, he], kr⟩))))⟩
end
end Go.Am
