/- Texts of the proof, joined and shortened. -/
import Derived.WalkKit
import Derived.Deep.Draws
import Derived.Deep.Quiet
namespace Go.Am
open Go Go.RowKit
set_option linter.unusedVariables false
abbrev an := @Bool.and_eq_true
abbrev so := @List.getElem?_eq_some_iff
abbrev An := @List.length_append
abbrev As := @List.getElem?_eq_getElem
abbrev Is := @Nat.eq_of_beq_eq_true
abbrev No := @Nat.zero_add
abbrev aea := @List.length_cons
abbrev aeb := @Nat.le_refl
abbrev aec := @List.length_nil
abbrev aed := @Array.getElem?_eq_some_iff
abbrev aee := @List.getD_eq_getElem?_getD
abbrev aef := @List.getElem_mem
abbrev aeg := @List.map_cons
abbrev aeh := @List.mem_append
abbrev aei := @List.all_eq_true
abbrev aej := @List.mem_cons
abbrev aek := @List.append_assoc
abbrev ael := @List.mem_of_getElem?
abbrev aem := @List.map_nil
abbrev aen := @List.mem_cons_of_mem
abbrev aeo := @List.mem_map
abbrev aep := @Int.toNat_natCast
abbrev aeq := @Option.some.inj
abbrev aer := @Nat.mul_le_mul_right
abbrev aes := @Nat.le_of_ble_eq_true
abbrev aet := @List.getElem?_map
abbrev aeu := @List.getElem?_append_right
abbrev aev := @Array.getElem?_eq_getElem
abbrev aew := @Array.getElem?_toList
abbrev aex := @Nat.add_mul
abbrev aey := @List.drop_eq_getElem_cons
abbrev aez := @Nat.lt_of_lt_of_le
abbrev aeA := @List.getElem?_append_left
abbrev aeB := @Nat.not_lt_zero
abbrev aeC := @List.getElem?_eq_none
abbrev aeD := @Bool.not_eq_true'
abbrev aeE := @Nat.zero_le
abbrev aeF := @Bool.eq_iff_iff
abbrev aeG := @List.map_append
abbrev aeH := @Bool.or_eq_true
abbrev aeI := @List.drop_zero
abbrev aeJ := @List.getElem?_set_ne
abbrev aeK := @Nat.lt_or_ge
abbrev aeL := @Array.getElem?_append_left
abbrev aeM := @Nat.eq_zero_or_pos
abbrev aeN := @Nat.zero_lt_one
abbrev aeO := @Array.length_toList
abbrev aeP := @List.mem_iff_getElem
abbrev aeQ := @Nat.le_trans
abbrev aeR := @List.append_nil
abbrev aeS := @List.nil_append
abbrev aeT := @Nat.add_zero
abbrev aeU := @Nat.sub_self
abbrev aeV := @List.drop_of_length_le
abbrev aeW := @Bool.true_and
abbrev aeX := @Bool.false_eq_true
abbrev aeY := @Array.eq_empty_of_size_eq_zero
abbrev aeZ := @Nat.beq_refl
abbrev afa := @List.length_set
abbrev afb := @List.mem_append_left
abbrev afc := @List.all_cons
abbrev afd := @List.eq_nil_of_length_eq_zero
abbrev afe := @Bool.false_and
abbrev aff := @List.getElem?_set_self
abbrev afg := @List.getElem?_drop
abbrev afh := @List.getElem_append_right
abbrev afi := @List.getElem_of_mem
theorem afj {p : Prop} (h : p := by
  obtain rfl := si h
  replace h := jX
  exact eB h) : p := h
theorem afk {p : Prop} (h : p := by
  obtain rfl := si h
  replace h := ow
  exact eB h) : p := h
theorem afl {p : Prop} (h : p := by
  rintro _ _ ⟨rfl, rfl, rfl⟩
  replace h := nB
  exact .d (eB h)) : p := h
theorem afm {p : Prop} (h : p := by
  obtain rfl := si h
  replace h := vt
  exact eB h) : p := h
theorem afn {p : Prop} (h : p := by
  rintro _ _ ⟨y2, rfl, rfl, rfl⟩
  replace h := uQ
  exact .d (eI h)) : p := h
theorem afo {p : Prop} (h : p := by
  replace h := ow
  obtain rfl := si h
  exact en [0, 1, 2, 3] ⟨g1001, g1003, rfl, rfl⟩ .b ⟨(ob rfl ⟨.o, ⟨⟩⟩), od, (ob rfl ⟨.o, ⟨⟩⟩), od, ⟨⟩⟩) : p := h
theorem afp {p : Prop} (h : p := by
  obtain rfl := si h
  replace h := nB
  exact eB h) : p := h
theorem afq {p : Prop} (h : p := by
  obtain rfl := si h
  replace h := xR
  exact eB h) : p := h
theorem afr {p : Prop} (h : p := by
  replace h := Es
  obtain rfl := si h
  exact en [] ⟨rfl, rfl⟩ (.eh ⟨.z, .b, ⟨⟩⟩) ⟨⟩) : p := h
theorem afs {p : Prop} (h : p := by
  obtain rfl := si h
  replace h := uQ
  exact eI h) : p := h
theorem aft {p : Prop} (h : p := by
  rintro _ _ ⟨y1, rfl, rfl, rfl⟩
  replace h := nB
  exact .d (eI h)) : p := h
theorem afu {p : Prop} (h : p := by
  obtain rfl := si h
  replace h := uQ
  exact eB h) : p := h
theorem afv {p : Prop} (h : p := by
  replace h := ow
  obtain rfl := si h
  exact en [0] ⟨rfl, rfl⟩ (.eh ⟨.b, .b, ⟨⟩⟩) ⟨od, ⟨⟩⟩) : p := h
theorem afw {p : Prop} (h : p := by
  replace h := Ra
  obtain rfl := si h
  exact en [] ⟨rfl, rfl⟩ (.eh ⟨(.rx rfl), .b, ⟨⟩⟩) ⟨⟩) : p := h
theorem afx {p : Prop} (h : p := by
  rintro _ _ ⟨rfl, rfl, rfl⟩
  replace h := ow
  exact .d (eI h)) : p := h
theorem afy {p : Prop} (h : p := by
  obtain rfl := si h
  exact en [] ⟨rfl, rfl⟩ (.eh ⟨.i, .b, ⟨⟩⟩) ⟨⟩) : p := h
theorem afz {p : Prop} (h : p := by
  obtain rfl := si h
  exact en [0] ⟨f3, d4, rfl, rfl⟩ .i ⟨(sw d4), ⟨⟩⟩) : p := h
theorem afA {p : Prop} (h : p := by
  obtain rfl := si h
  exact en [0] ⟨rfl, rfl⟩ .o ⟨nw, ⟨⟩⟩) : p := h
theorem afB {p : Prop} (h : p := by
  obtain rfl := si h
  exact en [0] ⟨f5, d6.self, rfl, rfl⟩ ((.od (by first | rfl | exact d6.len | exact d6.len.symm))) ⟨(yu d6 d6.len d6.len), ⟨⟩⟩) : p := h
theorem afC {p : Prop} (h : p := by
  obtain rfl := si h
  exact en [0] ⟨(g1000 + 1), rfl, rfl⟩ .o ⟨od, ⟨⟩⟩) : p := h
theorem afD {p : Prop} (h : p := by
  obtain rfl := si h
  exact ⟨rfl, _, rfl, (en [] ⟨rfl, rfl⟩ (.jZ ⟨.i, .i, .s, .i, .z, ⟨⟩⟩) ⟨⟩)⟩) : p := h
theorem afE {p : Prop} (h : p := by
  obtain rfl := si h
  exact en [0, 1, 2] ⟨rfl, rfl⟩ (.eh ⟨⟩) ⟨(ob rfl ⟨.o, ⟨⟩⟩), dd, nw, ⟨⟩⟩) : p := h
theorem afF {p : Prop} (h : p := by
  obtain ⟨e, he, hb, rfl⟩ := (nf wa).1 vd
  exact (SY _ (lV i uq _ vd).1).1 (HJ e he hb)) : p := h
theorem afG {p : Prop} (h : p := by
  obtain rfl := si h
  exact en [1] ⟨rfl, rfl⟩ (.eh ⟨.o, .b, ⟨⟩⟩) ⟨nw, ⟨⟩⟩) : p := h
theorem afH {p : Prop} (h : p := by
  obtain rfl := si h
  exact en [] ⟨rfl, rfl⟩ (.eh ⟨.s, .b, ⟨⟩⟩) ⟨⟩) : p := h
theorem afI {p : Prop} (h : p := by exact ct ⟨_, si h, rfl, rfl⟩ (tk [0] ⟨.p, .i, .b, ⟨⟩⟩ ⟨(bf rfl), ⟨⟩⟩)) : p := h
theorem afJ {p : Prop} (h : p := by exact .d (eB h)) : p := h
theorem afK {p : Prop} (h : p := by exact .d (eI h)) : p := h
theorem afL {p : Prop} (h : p := by exact hp.elim) : p := h
theorem afM {p : Prop} (h : p := by exact ct ⟨si h, rfl, rfl⟩ (tk [0] ⟨.p, ⟨⟩⟩ ⟨(bf rfl), ⟨⟩⟩)) : p := h
theorem afN {p : Prop} (h : p := by exact ct ⟨si h, rfl, rfl⟩ (tk [] ⟨⟩ ⟨⟩)) : p := h
theorem afO {p : Prop} (h : p := by exact ct ⟨_, si h, rfl, rfl⟩ (tk [0] ⟨.p, .b, ⟨⟩⟩ ⟨(bf rfl), ⟨⟩⟩)) : p := h
theorem afP {p : Prop} (h : p := by exact ct ⟨_, si h, rfl, rfl⟩ (tk [0] ⟨.i, .i, .p, .b, .b, .b, .i, .b, ⟨⟩⟩ ⟨(bf rfl), ⟨⟩⟩)) : p := h
theorem afQ {p : Prop} (h : p := by exact ct ⟨_, si h, rfl, rfl⟩ (tk [] ⟨.i, ⟨⟩⟩ ⟨⟩)) : p := h
theorem afR {p : Prop} (h : p := by exact ct ⟨_, _, f9, d10, si h, rfl, rfl⟩ (tk [0] ⟨.i, ⟨⟩⟩ ⟨(sw d10), ⟨⟩⟩)) : p := h
theorem afS {p : Prop} (h : p := by exact ct ⟨_, si h, rfl, rfl⟩ (tk [0] ⟨.i, .p, .i, .b, ⟨⟩⟩ ⟨(bf rfl), ⟨⟩⟩)) : p := h
theorem afT {p : Prop} (h : p := by exact .d ⟨rfl, ⟨rfl, _, rfl, (eI h)⟩⟩) : p := h
theorem afU {p : Prop} (h : p := by exact lg (BZ _ _ h rfl) (tk [] ⟨.l, .l, .i, ⟨⟩⟩ ⟨⟩)) : p := h
theorem afV {p : Prop} (h : p := by exact .d ⟨rfl, ⟨rfl, _, rfl, ⟨by decide, (eI h)⟩⟩⟩) : p := h
theorem afW {p : Prop} (h : p := by exact .f (.f (.f (.f (.f (.f (.f (.f (ct ⟨si h, rfl, rfl⟩ (tk [0] ⟨.p, ⟨⟩⟩ ⟨(bf rfl), ⟨⟩⟩)))))))))) : p := h
theorem afX {p : Prop} (h : p := by exact ct ⟨_, f11, d12, si h, rfl, rfl⟩ (tk [0] ⟨(.od (by first | rfl | exact d12.len | exact d12.len.symm)), ⟨⟩⟩ ⟨(yu d12), ⟨⟩⟩)) : p := h
theorem afY {p : Prop} (h : p := by exact lg (CQ _ _ _ h rfl) (tk [] ⟨.l, .i, .i, ⟨⟩⟩ ⟨⟩)) : p := h
theorem afZ {p : Prop} (h : p := by exact ⟨_, hu, rfl, h1, Is h2, h4, fun u => by rw [show 9999 = 9998 + 1 from rfl, Instr.checkKey]; simp [run_underlying hu]⟩) : p := h
theorem aga {p : Prop} (h : p := by exact ⟨_, rfl, .inr ⟨z0, by unfold zS; omega, z2⟩⟩) : p := h
theorem agb {p : Prop} (h : p := by exact ct ⟨_, si h, rfl, rfl⟩ (tk [] ⟨.i, .b, ⟨⟩⟩ ⟨⟩)) : p := h
theorem agc {p : Prop} (h : p := by exact ⟨fun hq => if_pos hq, fun hq => if_neg (by rw [hq]; decide)⟩) : p := h
theorem agd {p : Prop} (h : p := by exact ⟨_, rfl, .inl (by decide)⟩) : p := h
theorem age {p : Prop} (h : p := by exact ct ⟨_, si h, rfl, rfl⟩ (tk [0] ⟨.o, ⟨⟩⟩ ⟨nw, ⟨⟩⟩)) : p := h
theorem agf {p : Prop} (h : p := by exact ⟨aeb _, fun _ => ⟨rfl, rfl, rfl, rfl⟩⟩) : p := h
theorem agh {p : Prop} (h : p := by exact ⟨false, rfl, rfl, fun h => by cases h⟩) : p := h
theorem agi {p : Prop} (h : p := by omega) : p := h
theorem agj {p : Prop} (h : p := by decide) : p := h
theorem agk {p : Prop} (h : p := by simp) : p := h
theorem agl {p : Prop} (h : p := by simp [Op.operands]) : p := h
theorem agm {p : Prop} (h : p := by simp only [An, aea, aec]; omega) : p := h
theorem agn {p : Prop} (h : p := by simp only [An]; omega) : p := h
theorem ago {p : Prop} (h : p := by simp; omega) : p := h
theorem agp {p : Prop} (h : p := by simp only [aea, aec]; omega) : p := h
theorem agq {p : Prop} (h : p := by first | rfl | exact ca.len | exact ca.len.symm) : p := h
theorem agr {p : Prop} (h : p := by kernel_rfl) : p := h
theorem ags {p : Prop} (h : p := by simp [Region.wanted, hg, hy]) : p := h
theorem agt {p : Prop} (h : p := by simpa using hj) : p := h
theorem agu {p : Prop} (h : p := by simp only [Nat.reduceAdd, Nat.reducePow]; omega) : p := h
theorem agv {p : Prop} (h : p := by rw [bq]; omega) : p := h
theorem agw {p : Prop} (h : p := by simpa using h2) : p := h
theorem agx {p : Prop} (h : p := by first | rfl | exact d62.len | exact d62.len.symm) : p := h
theorem agy {p : Prop} (h : p := by first | rfl | exact d4.len | exact d4.len.symm) : p := h
theorem agz {p : Prop} (h : p := by simpa using h) : p := h
theorem agA {p : Prop} (h : p := by simp only [mU, fQ, aeg, aem, List.drop, aea, aec, kC mI]; rfl) : p := h
theorem agB {p : Prop} (h : p := by rw [Nat.pow_succ] at h; omega) : p := h
theorem agC {p : Prop} (h : p := by rw [bq, bq, bq]; omega) : p := h
theorem agD {p : Prop} (h : p := by simp only [aeg, aem, shr, FP d4]; rfl) : p := h
theorem agE {p : Prop} (h : p := by rw [bq, bq]; omega) : p := h
theorem agF {p : Prop} (h : p := by simpa using hp) : p := h
theorem agG {p : Prop} (h : p := by simpa using h1) : p := h
theorem agH {p : Prop} (h : p := by simp [Op.operands, Call.operands]; have : x ∈ args.toList := (by rw [hx]; simp); simpa using this) : p := h
theorem agI {p : Prop} (h : p := by rw [An]; omega) : p := h
theorem agJ {p : Prop} (h : p := by first | rfl | exact d3.len | exact d3.len.symm) : p := h
end Go.Am
set_option linter.unusedVariables false
set_option linter.unusedSimpArgs false
namespace Go.Am
open Go
def Gc : List Int := [1, 10, 100, 1000, 10000, 100000, 1000000, 10000000, 100000000, 1000000000, 10000000000, 100000000000, 1000000000000, 10000000000000, 100000000000000, 1000000000000000, 10000000000000000, 100000000000000000, 1000000000000000000, 10000000000000000000]
def Ea : List (Nat × Array Value) := [(0, (Gc.map fun z => Value.int .u64 z).toArray)]
def wj : List Nat := [1, 2]
def J9 : List Nat := []
end Go.Am
namespace Go.Am
open Go Go.RowKit
inductive PV where
 | int (k : IntKind) (n : Int)
 | bool (b : Bool)
 | str (s : List UInt8)
 | aO
 | fM (sz n : Nat) (f : Nat → List PV)
 | fx (cells : List PV)
 | own (id gen off len : Nat)
 | aN (id gen i off : Nat)
 | kN (id : Nat)
 | om (f : Nat) (bN : List (Nat × Nat))
 | fn (f : Nat)
 | agg (cs : List PV)
 | dG (vs : List PV)
 | jc
 | aY (sz n : Nat) (e : TypeId) (f : Nat → List PV) (F : Nat → Prop)
 deriving Inhabited
abbrev Env := Nat → PV
inductive aj where
 | row (gen sz n : Nat) (e : TypeId) (f : Nat → List PV)
 | dead
 deriving Inhabited
inductive TI where
 | int (k : IntKind)
 | bool
 | str
 | slice (e sz bytes : Nat) (zero : List PV)
 | struct (sz : Nat) (fields : List (Nat × Nat × Bool)) (zero : List PV)
 | ptr (e : Nat)
 | map (k e : Nat) (zero : PV)
 | other
 deriving Inhabited
structure oO where
 get : Nat → TI
def qb (env : Env) (t : Nat) (v : PV) : Env := fun j => bif Nat.beq j t then v else env j
def dx (env : Env) (d : Option Nat) (v : PV) : Env := match d with | some t => qb env t v | none => env
def yl (env : Env) : List (Nat × PV) → Env
 | [] => env
 | (t, v) :: r => qb (yl env r) t v
inductive eH (b : Bool) (T F : Prop) : Prop
 | mk (ht : b = true → T) (hf : b = false → F) : eH b T F
theorem kz {b : Bool} {T F : Prop} (h : eH b T F) : (b = true → T) ∧ (b = false → F) := by cases h with | mk a b => exact ⟨a, b⟩
def dM (b : Bool) (K : Prop) : Prop := match b with | true => K | false => False
theorem bB {b : Bool} {K : Prop} (h : dM b K) : b = true ∧ K := by cases b; exact h.elim; exact ⟨rfl, h⟩
def qM : IntKind → IntKind → Bool
 | .i8, .i8 => true
 | .i16, .i16 => true
 | .i32, .i32 => true
 | .i64, .i64 => true
 | .u8, .u8 => true
 | .u16, .u16 => true
 | .u32, .u32 => true
 | .u64, .u64 => true
 | _, _ => false
theorem eE {k k' : IntKind} (h : qM k k' = true) : k = k' := by cases k <;> cases k' <;> first | rfl | cases h
def VJ : Value → Option PV
 | .int k n => some (.int k n)
 | .bool b => some (.bool b)
 | .string s => some (.str s.data.toList)
 | .slice none 0 0 => some .aO
 | _ => none
def Lu : List Value → Option (List PV)
 | [] => some []
 | v :: r => match VJ v, Lu r with
  | some p, some l => some (p :: l)
  | _, _ => none
def aay : Option (List PV) → PV
 | some l => .agg l
 | none => .jc
def ofValue : Value → PV
 | .int k n => .int k n
 | .bool b => .bool b
 | .string s => .str s.data.toList
 | .slice none 0 0 => .aO
 | .agg vs => aay (Lu vs.toList)
 | _ => .jc
inductive Mg : PV → PV → Prop
 | same (a : PV) : Mg a a
 | nil (sz : Nat) (f : Nat → List PV) : Mg .aO (.fM sz 0 f)
 | we (sz : Nat) (e : TypeId) (f : Nat → List PV) : Mg .aO (.aY sz 0 e f (fun _ => False))
def nP : List PV → List PV → Prop
 | [], [] => True
 | a :: l, b :: r => Mg a b ∧ nP l r
 | _, _ => False
def ev (env : Env) : Operand → PV
 | .tmp t => env t
 | .const v => ofValue v
 | .func f => .fn f
 | .global _ => .jc
abbrev Mu := Nat → Option (Nat × Nat)
inductive aT (S : Nat → Prop) (w : World) : PV → Value → Prop
 | int (k : IntKind) (n : Int) : aT S w (.int k n) (.int k n)
 | bool (b : Bool) : aT S w (.bool b) (.bool b)
 | str (s : List UInt8) : aT S w (.str s) (.string ⟨⟨s⟩⟩)
 | aO : aT S w .aO (.slice none 0 0)
 | fn (f : Nat) : aT S w (.fn f) (.func (.func f) #[] #[])
 | p6 (sz : Nat) (f : Nat → List PV) (a : Option Addr) (c : Nat) : aT S w (.fM sz 0 f) (.slice a 0 c)
 | fM (sz n : Nat) (f : Nat → List PV) (b off c : Nat) (vf : Nat → Nat → Value) (hS : S b) (hlen : ∀ i, i < n → (f i).length = sz) (hc : n ≤ c)
   (bp : ∀ (i j : Nat) (pv : PV), i < n → (f i)[j]? = some pv → w.cell? ⟨b, off + i * sz + j, none⟩ = some (vf i j))
   (mX : ∀ (i j : Nat) (pv : PV), i < n → (f i)[j]? = some pv → aT S w pv (vf i j)) : aT S w (.fM sz n f) (.slice (some ⟨b, off, none⟩) n c)
 | fx (cs : List PV) (b off : Nat) (vf : Nat → Value) (hS : S b)
   (bp : ∀ (j : Nat) (pv : PV), cs[j]? = some pv → w.cell? ⟨b, off + j, none⟩ = some (vf j))
   (mX : ∀ (j : Nat) (pv : PV), cs[j]? = some pv → aT S w pv (vf j)) : aT S w (.fx cs) (.pointer (some ⟨b, off, none⟩))
inductive lE (S : Nat → Prop) (w : World) : PV → Value → Prop
 | nil (sz : Nat) (e : TypeId) (f : Nat → List PV) (F : Nat → Prop) (hF : ∀ b, ¬ F b) : lE S w (.aY sz 0 e f F) (.slice none 0 0)
 | HF (sz n : Nat) (e : TypeId) (f : Nat → List PV) (F : Nat → Prop) (b off c : Nat) (a : Addr) (cur : Array Value) (vf : Nat → Nat → Value) (hF : F b) (hb : w.heap[b]? = some (.cells cur e (0, 0))) (hlen : ∀ i, i < n → (f i).length = sz) (hc : n ≤ c)
   (ha : 0 < c → a = ⟨b, off, none⟩) (ig : off + c * sz ≤ cur.size)
   (bp : ∀ (i j : Nat) (pv : PV), i < n → (f i)[j]? = some pv → cur[off + i * sz + j]? = some (vf i j))
   (mX : ∀ (i j : Nat) (pv : PV), i < n → (f i)[j]? = some pv → aT S w pv (vf i j) ∨ ∃ bV n' e' f' F', pv = .aY bV n' e' f' F')
   (wQ : ∀ (i j bV n' : Nat) (e' : TypeId) (f' : Nat → List PV) (F' : Nat → Prop), i < n → (f i)[j]? = some (.aY bV n' e' f' F') → lE S w (.aY bV n' e' f' F') (vf i j))
   (CM : ∀ (i j bV n' : Nat) (e' : TypeId) (f' : Nat → List PV) (F' : Nat → Prop), i < n → (f i)[j]? = some (.aY bV n' e' f' F') → ∀ b', F' b' → F b' ∧ b' ≠ b)
   (HG : ∀ (i j bV n' : Nat) (e' : TypeId) (f' : Nat → List PV) (F' : Nat → Prop) (i2 j2 qy n2 : Nat) (e2 : TypeId) (f2 : Nat → List PV) (F2 : Nat → Prop), i < n → (f i)[j]? = some (.aY bV n' e' f' F') → i2 < n → (f i2)[j2]? = some (.aY qy n2 e2 f2 F2) →
    ∀ b', F' b' → F2 b' → i = i2 ∧ j = j2) : lE S w (.aY sz n e f F) (.slice (some a) n c)
def kA (w : World) (b k : Nat) : Prop := ∃ cur e, w.heap[b]? = some (.cells cur e (0, 0)) ∧ k ≤ cur.size
def bE (μ : Mu) (h : List aj) (w : World) (id gen off len : Nat) (v : Value) : Prop :=
 (∃ a l c, v = .slice a l c) ∧ match h[id]? with
 | some (aj.row g sz n _ _) => gen ≤ g ∧ (gen = g → off + len ≤ n ∧ match μ id with
  | none => v = .slice none 0 0
  | some (b, base) => ∃ a cap, v = .slice (some a) len cap ∧ len ≤ cap ∧ (0 < cap → a = ⟨b, base + off * sz, none⟩) ∧ kA w b (base + (off + cap) * sz))
 | some aj.dead => True
 | none => False
def bU (μ : Mu) (h : List aj) (w : World) (id gen i off : Nat) (v : Value) : Prop :=
 (∃ a, v = .pointer a) ∧ match h[id]? with
 | some (aj.row g sz n _ _) => gen ≤ g ∧ (gen = g → i < n ∧ ∃ b base, μ id = some (b, base) ∧ kA w b 0 ∧ v = .pointer (some ⟨b, base + i * sz + off, none⟩))
 | some aj.dead => True
 | none => False
def rY (w : World) (b : Nat) : Prop := ∃ es clock, w.heap[b]? = some (.map es clock)
def fX (μ : Mu) (h : List aj) (w : World) (id : Nat) (v : Value) : Prop :=
 (∃ a, v = .map a) ∧ match h[id]? with
 | some (aj.row _ _ _ _ _) => ∃ b base, μ id = some (b, base) ∧ rY w b ∧ v = .map (some b)
 | some aj.dead => True
 | none => False
def sS (O : Nat → Nat → Value → Prop) (f : Nat) (bN : List (Nat × Nat)) (v : Value) : Prop :=
 ∃ vs : Array Value, v = .func (.func f) #[] vs ∧ vs.size = bN.length ∧ ∀ (j : Nat) (p : Nat × Nat), bN[j]? = some p → ∃ u : Value, vs[j]? = some u ∧ O p.1 p.2 u
theorem sS.mono {O O' : Nat → Nat → Value → Prop} {f : Nat} {bN : List (Nat × Nat)} {v : Value} (h : sS O f bN v) (hO : ∀ id g u, O id g u → O' id g u) : sS O' f bN v := by
 obtain ⟨vs, h1, h2, h3⟩ := h
 exact ⟨vs, h1, h2, fun j p hj => let ⟨u, q1, q2⟩ := h3 j p hj; ⟨u, q1, hO _ _ _ q2⟩⟩
def sj (σ : Nat → Nat) (bN : List (Nat × Nat)) : List (Nat × Nat) := bN.map fun p => (σ p.1, p.2)
theorem sS.map {O : Nat → Nat → Value → Prop} {σ : Nat → Nat} {f : Nat} {bN : List (Nat × Nat)} {v : Value} (h : sS (fun id g u => O (σ id) g u) f bN v) : sS O f (sj σ bN) v := by
 obtain ⟨vs, h1, h2, h3⟩ := h
 refine ⟨vs, h1, by unfold sj; rw [List.length_map]; exact h2, fun j p hj => ?_⟩
 unfold sj at hj
 rw [aet] at hj
 cases hx : bN[j]? with
 | none => rw [hx] at hj; cases hj
 | some q =>
  rw [hx] at hj
  injection hj with hj
  subst hj
  exact h3 j q hx
theorem sS.aax {O : Nat → Nat → Value → Prop} {σ : Nat → Nat} {f : Nat} {bN : List (Nat × Nat)} {v : Value} (h : sS O f (sj σ bN) v) : sS (fun id g u => O (σ id) g u) f bN v := by
 obtain ⟨vs, h1, h2, h3⟩ := h
 refine ⟨vs, h1, by unfold sj at h2; rw [List.length_map] at h2; exact h2, fun j p hj => ?_⟩
 obtain ⟨u, q1, q2⟩ := h3 j (σ p.1, p.2) (by unfold sj; rw [aet, hj]; rfl)
 exact ⟨u, q1, q2⟩
def n9 (μ : Mu) (h : List aj) (w : World) (f : Nat) (bN : List (Nat × Nat)) (v : Value) : Prop := sS (fun id g u => bU μ h w id g 0 0 u) f bN v
def tL : PV → Bool
 | .int _ _ => true
 | .bool _ => true
 | .str _ => true
 | .jc => true
 | _ => false
def j4 : PV → Bool
 | .agg cs => cs.all tL
 | v => tL v
def sB : PV → Value → Prop
 | .int k n, v => v = .int k n
 | .bool b, v => v = .bool b
 | .str s, v => v = .string ⟨⟨s⟩⟩
 | _, v => v.oneCell' = true
def qN : PV → Value → Prop
 | .agg cs, v => ∃ vs : Array Value, v = .agg vs ∧ vs.size = cs.length ∧ ∀ (j : Nat) (pv : PV), cs[j]? = some pv → ∃ u : Value, vs[j]? = some u ∧ sB pv u
 | .jc, _ => True
 | pv, v => sB pv v
def vE (C : PV → Value → Prop) (base sz n : Nat) (e : TypeId) (f : Nat → List PV) : Obj → Prop
 | .cells cur e' z => e' = e ∧ z = (0, 0) ∧ base + n * sz ≤ cur.size ∧ ∀ (i j : Nat) (pv : PV), i < n → (f i)[j]? = some pv → ∃ v : Value, cur[base + i * sz + j]? = some v ∧ C pv v
 | .map es _ => es.size = n ∧ ∀ i, i < n → ∃ (kp vp : PV) (en : MapEntry), f i = [kp, vp] ∧ j4 kp = true ∧ j4 vp = true ∧ es[i]? = some en ∧ qN kp en.key ∧ qN vp en.val
 | _ => False
theorem vE.mono {C C' : PV → Value → Prop} {base sz n : Nat} {e : TypeId} {f : Nat → List PV} {o : Obj} (h : vE C base sz n e f o) (hc : ∀ (i j : Nat) (pv : PV) (v : Value), i < n → (f i)[j]? = some pv → C pv v → C' pv v) : vE C' base sz n e f o := by
 cases o with
 | cells cur e' z =>
  obtain ⟨h1, h2, h3, h4⟩ := h
  exact ⟨h1, h2, h3, fun i j pv hi hj => let ⟨v, q1, q2⟩ := h4 i j pv hi hj; ⟨v, q1, hc i j pv v hi hj q2⟩⟩
 | map es c => exact h
 | _ => exact h.elim
def bR (μ : Mu) (h : List aj) (S : Nat → Prop) (w : World) : PV → Value → Prop
 | .own id gen off len, v => bE μ h w id gen off len v
 | .aN id gen i off, v => bU μ h w id gen i off v
 | .kN id, v => fX μ h w id v
 | .om f bN, v => n9 μ h w f bN v
 | .jc, v => v.oneCell' = true
 | .aY _ _ _ _ _, v => v.oneCell' = true
 | .agg _, _ => False
 | .dG _, _ => False
 | pv, v => aT S w pv v
def oG (μ : Mu) (h : List aj) (S : Nat → Prop) (w : World) : PV → Value → Prop
 | .aY sz n e f F, v => lE S w (.aY sz n e f F) v
 | pv, v => bR μ h S w pv v
def jm (μ : Mu) (h : List aj) (S : Nat → Prop) (w : World) : PV → Value → Prop
 | .agg cs, v => ∃ vs : Array Value, v = .agg vs ∧ vs.size = cs.length ∧ ∀ (j : Nat) (pv : PV), cs[j]? = some pv → ∃ u : Value, vs[j]? = some u ∧ bR μ h S w pv u
 | .jc, _ => True
 | pv, v => bR μ h S w pv v
def bG (μ : Mu) (h : List aj) (S : Nat → Prop) (w : World) : PV → Value → Prop
 | .dG ps, v => ∃ vs : Array Value, v = .tuple vs ∧ vs.size = ps.length ∧ ∀ (j : Nat) (pv : PV), ps[j]? = some pv → ∃ u : Value, vs[j]? = some u ∧ jm μ h S w pv u
 | pv, v => jm μ h S w pv v
def cp (μ : Mu) (h : List aj) (S : Nat → Prop) (w : World) : Prop :=
 ∀ (id g sz n : Nat) (e : TypeId) (f : Nat → List PV), h[id]? = some (aj.row g sz n e f) → (∀ i, i < n → (f i).length = sz) ∧ match μ id with
  | none => n = 0
  | some (b, base) => ∃ o : Obj, w.heap[b]? = some o ∧ vE (oG μ h S w) base sz n e f o
theorem cp.cells {μ : Mu} {h : List aj} {S : Nat → Prop} {w : World} {b base k sz n : Nat} {e : TypeId} {f : Nat → List PV} (hc : kA w b k) (ho : ∃ o : Obj, w.heap[b]? = some o ∧ vE (oG μ h S w) base sz n e f o) :
  ∃ cur : Array Value, w.heap[b]? = some (.cells cur e (0, 0)) ∧ base + n * sz ≤ cur.size ∧
    ∀ (i j : Nat) (pv : PV), i < n → (f i)[j]? = some pv → ∃ v : Value, cur[base + i * sz + j]? = some v ∧ oG μ h S w pv v := by
 obtain ⟨cur, e', h1, _⟩ := hc
 obtain ⟨o, h2, h3⟩ := ho
 obtain rfl := aeq (h1.symm.trans h2)
 obtain ⟨rfl, _, q1, q2⟩ := h3
 exact ⟨cur, h1, q1, q2⟩
theorem cp.Hi {C : PV → Value → Prop} {w : World} {b base sz n : Nat} {e : TypeId} {f : Nat → List PV} (ho : ∃ cur : Array Value, w.heap[b]? = some (.cells cur e (0, 0)) ∧ base + n * sz ≤ cur.size ∧
    ∀ (i j : Nat) (pv : PV), i < n → (f i)[j]? = some pv → ∃ v : Value, cur[base + i * sz + j]? = some v ∧ C pv v) : ∃ o : Obj, w.heap[b]? = some o ∧ vE C base sz n e f o := by
 obtain ⟨cur, h1, h2, h3⟩ := ho
 exact ⟨_, h1, rfl, rfl, h2, h3⟩
def B5 (μ : Mu) (h : List aj) (b : Nat) : Prop := ∃ (id g sz n : Nat) (e : TypeId) (f : Nat → List PV) (base : Nat), h[id]? = some (aj.row g sz n e f) ∧ μ id = some (b, base)
def dL (h : List aj) (id i j b : Nat) : Prop := ∃ (g sz n : Nat) (e : TypeId) (f : Nat → List PV) (bV n' : Nat) (e' : TypeId) (f' : Nat → List PV) (F : Nat → Prop), h[id]? = some (aj.row g sz n e f) ∧ i < n ∧ (f i)[j]? = some (.aY bV n' e' f' F) ∧ F b
def cz (μ : Mu) (h : List aj) (b : Nat) : Prop := B5 μ h b ∨ ∃ id i j, dL h id i j b
def L7 (S : Nat → Prop) (w : World) : Prop := (∀ p, p ∈ Ea → S p.1 ∧ ∃ t z, w.heap[p.1]? = some (.cells p.2 t z)) ∧ (∀ g, g ∈ wj → S g ∧ ∃ tp p t z, w.heap[g]? = some (.cells #[.iface tp p] t z)) ∧
 ∀ g, g ∈ J9 → S g ∧ ∃ m t z, w.heap[g]? = some (.cells #[.int .i64 m] t z)
theorem L7.AU {S S' : Nat → Prop} {w w' : World} (h : L7 S w) (hb : ∀ b, S b → w'.heap[b]? = w.heap[b]?) (hs : ∀ b, S b → S' b) : L7 S' w' :=
 ⟨fun p hp => ⟨hs _ (h.1 p hp).1, by rw [hb _ (h.1 p hp).1]; exact (h.1 p hp).2⟩, fun g hg => ⟨hs _ (h.2.1 g hg).1, by rw [hb _ (h.2.1 g hg).1]; exact (h.2.1 g hg).2⟩,
  fun g hg => ⟨hs _ (h.2.2 g hg).1, by rw [hb _ (h.2.2 g hg).1]; exact (h.2.2 g hg).2⟩⟩
structure sR (μ : Mu) (h : List aj) (S : Nat → Prop) (w : World) : Prop where
 apart : ∀ b, cz μ h b → ¬ S b
 lt : ∀ b, cz μ h b → b < w.heap.size
 slt : ∀ b, S b → b < w.heap.size
 inj : ∀ (i j g sz n : Nat) (e : TypeId) (f : Nat → List PV) (g' bV n' : Nat) (e' : TypeId) (f' : Nat → List PV) (b o o' : Nat), h[i]? = some (aj.row g sz n e f) → h[j]? = some (aj.row g' bV n' e' f') → μ i = some (b, o) → μ j = some (b, o') → i = j
 known : L7 S w
 hv : ∀ b, B5 μ h b → ∀ id i j, ¬ dL h id i j b
 hh : ∀ b id i j id' i' j', dL h id i j b → dL h id' i' j' b → id = id' ∧ i = i' ∧ j = j'
structure Fr (μ : Mu) (h : List aj) (S : Nat → Prop) (w : World) (μ' : Mu) (h' : List aj) (S' : Nat → Prop) (w' : World) : Prop where
 len : h.length ≤ h'.length
 blocks : ∀ b, b < w.heap.size → ¬ cz μ h b → w'.heap[b]? = w.heap[b]?
 sub : ∀ b, S b → S' b
 new : ∀ b, S' b → S b ∨ cz μ h b ∨ w.heap.size ≤ b
 own : ∀ b, cz μ' h' b → cz μ h b ∨ w.heap.size ≤ b
 size : w.heap.size ≤ w'.heap.size
 os : w'.os = w.os
 tape : w'.tape = w.tape
 output : w'.output = w.output
 Bl : ∀ (id g sz n : Nat) (e : TypeId) (f : Nat → List PV), h[id]? = some (aj.row g sz n e f) → match h'[id]? with
  | some (aj.row g' bV n' e' _) => g ≤ g' ∧ (g' = g → μ' id = μ id ∧ bV = sz ∧ n' = n ∧ e' = e)
  | some aj.dead => True
  | none => False
 dead : ∀ id : Nat, h[id]? = some aj.dead → h'[id]? = some aj.dead
 bN : ∀ b k, cz μ h b → kA w b k → kA w' b k
 maps : ∀ (id g sz n : Nat) (e : TypeId) (f : Nat → List PV) (b base : Nat), h[id]? = some (aj.row g sz n e f) → μ id = some (b, base) → rY w b →
  rY w' b ∧ (h'[id]? = some aj.dead ∨ ((∃ g' bV n' e' f', h'[id]? = some (aj.row g' bV n' e' f')) ∧ μ' id = some (b, base)))
 u5 : ∀ b id i j, dL h id i j b → rY w b → rY w' b
def aad (P : Program) (f : FuncId) : Prop := ∃ fn c, P.funcs[f]? = some fn ∧ fn.body = some c ∧ (fn.name == "runtime.NumGoroutine") = false
def ACall (P : Program) (f : FuncId) (args : List PV) (h : List aj) (R : PV → List aj → Prop) : Prop :=
 aad P f ∧ ∀ (w : World) (vs : Array Value) (μ : Mu) (S : Nat → Prop), cp μ h S w → sR μ h S w → vs.size = args.length →
  (∀ (j : Nat) (pv : PV), args[j]? = some pv → ∃ v : Value, vs[j]? = some v ∧ jm μ h S w pv v) →
  Calls P f vs w (fun e w' => ∃ (v : Value) (res : PV) (h' : List aj) (μ' : Mu) (S' : Nat → Prop), e = .returned v ∧ R res h' ∧ bG μ' h' S' w' res v ∧ cp μ' h' S' w' ∧ sR μ' h' S' w' ∧ Fr μ h S w μ' h' S' w')
def bC : PV → Bool
 | .int _ _ => true
 | .bool _ => true
 | .str _ => true
 | .aO => true
 | .fM _ _ _ => true
 | .fx _ => true
 | .fn _ => true
 | _ => false
def dK : PV → Bool
 | .aY _ _ _ _ _ => true
 | _ => false
inductive zy : PV → PV → Prop
 | mk (sz n : Nat) (e : TypeId) (f f' : Nat → List PV) (F : Nat → Prop) (hl : ∀ i, i < n → (f' i).length = (f i).length) (hf : ∀ (i j : Nat) (pv fC : PV), i < n → (f i)[j]? = some pv → (f' i)[j]? = some fC → dK pv = false → fC = pv) (ho : ∀ (i j : Nat) (pv fC : PV), i < n → (f i)[j]? = some pv → (f' i)[j]? = some fC → dK pv = true → zy pv fC)
   (hp : ∀ (i j : Nat) (fC : PV), i < n → (f' i)[j]? = some fC → bC fC = true) : zy (.aY sz n e f F) (.fM sz n f')
inductive Fz (h η : List aj) (k : List Nat) : PV → PV → Prop
 | int (k' : IntKind) (n : Int) : Fz h η k (.int k' n) (.int k' n)
 | bool (b : Bool) : Fz h η k (.bool b) (.bool b)
 | str (s : List UInt8) : Fz h η k (.str s) (.str s)
 | aO : Fz h η k .aO .aO
 | SL (sz : Nat) (f : Nat → List PV) : Fz h η k .aO (.fM sz 0 f)
 | Z6 (id id' g' bV : Nat) (e' : TypeId) (f' : Nat → List PV) (hk : k[id']? = some id) (ho : h[id]? = none) (hη : η[id']? = some (aj.row g' bV 0 e' f')) : Fz h η k .aO (.own id' g' 0 0)
 | fn (f : Nat) : Fz h η k (.fn f) (.fn f)
 | fM (sz n : Nat) (f f' : Nat → List PV) (hf : ∀ i, i < n → f' i = f i) : Fz h η k (.fM sz n f) (.fM sz n f')
 | fx (cs : List PV) : Fz h η k (.fx cs) (.fx cs)
 | jc (pv : PV) : Fz h η k pv .jc
 | aY (sz n : Nat) (e : TypeId) (f : Nat → List PV) (F : Nat → Prop) : Fz h η k (.aY sz n e f F) (.aY sz n e f F)
 | we (sz : Nat) (e : TypeId) (f : Nat → List PV) : Fz h η k .aO (.aY sz 0 e f (fun _ => False))
 | own (id id' g g' sz bV n n' off len : Nat) (e e' : TypeId) (f f' : Nat → List PV) (hk : k[id']? = some id) (ho : h[id]? = some (aj.row g sz n e f)) (hη : η[id']? = some (aj.row g' bV n' e' f')) (hn : off + len ≤ n') : Fz h η k (.own id g off len) (.own id' g' off len)
 | aN (id id' g g' sz bV n n' i off : Nat) (e e' : TypeId) (f f' : Nat → List PV) (hk : k[id']? = some id) (ho : h[id]? = some (aj.row g sz n e f)) (hη : η[id']? = some (aj.row g' bV n' e' f')) (hn : i < n') : Fz h η k (.aN id g i off) (.aN id' g' i off)
 | kN (id id' g g' sz bV n n' : Nat) (e e' : TypeId) (f f' : Nat → List PV) (hk : k[id']? = some id) (ho : h[id]? = some (aj.row g sz n e f)) (hη : η[id']? = some (aj.row g' bV n' e' f')) : Fz h η k (.kN id) (.kN id')
 | om (f : Nat) (bN wW : List (Nat × Nat)) (hl : wW.length = bN.length) (hc : ∀ (j : Nat) (p p' : Nat × Nat), bN[j]? = some p → wW[j]? = some p' → k[p'.1]? = some p.1 ∧ (∃ sz n e f, h[p.1]? = some (aj.row p.2 sz n e f)) ∧ ∃ sz n e f, η[p'.1]? = some (aj.row p'.2 sz n e f) ∧ 0 < n) : Fz h η k (.om f bN) (.om f wW)
 | ZY (id g sz n off len : Nat) (e : TypeId) (f f' : Nat → List PV) (hk : id ∉ k) (ho : h[id]? = some (aj.row g sz n e f)) (hl : ∀ i, i < len → (f' i).length = (f (off + i)).length)
   (hp : ∀ (i j : Nat) (fC : PV), i < len → (f' i)[j]? = some fC → bC fC = true)
   (hf : ∀ (i j : Nat) (pv fC : PV), i < len → (f (off + i))[j]? = some pv → (f' i)[j]? = some fC → ¬ zy pv fC → Fz h η k pv fC) : Fz h η k (.own id g off len) (.fM sz len f')
 | agg (cs yc : List PV) (hl : yc.length = cs.length) (hc : ∀ (j : Nat) (pv fC : PV), cs[j]? = some pv → yc[j]? = some fC → Fz h η k pv fC) : Fz h η k (.agg cs) (.agg yc)
 | dG (cs yc : List PV) (hl : yc.length = cs.length) (hc : ∀ (j : Nat) (pv fC : PV), cs[j]? = some pv → yc[j]? = some fC → Fz h η k pv fC) : Fz h η k (.dG cs) (.dG yc)
def wU (h η : List aj) (k : List Nat) : List PV → List PV → Prop
 | [], [] => True
 | a :: l, b :: r => Fz h η k a b ∧ wU h η k l r
 | _, _ => False
def LS : List Nat → Nat → Bool
 | [], _ => false
 | a :: r, x => match Nat.beq a x with
  | true => true
  | false => LS r x
def oc : List Nat → Bool
 | [] => true
 | a :: r => match LS r a with
  | true => false
  | false => oc r
def nR : List aj → List Nat → List Nat
 | .row _ _ _ _ _ :: r, i :: is => i :: nR r is
 | .dead :: r, _ :: is => nR r is
 | _, _ => []
def vH (h η : List aj) (k : List Nat) (m : Nat) (o : aj) (id' id : Nat) : Prop :=
 match o, h[id]? with
 | .row g' bV n' e' f', some (aj.row g sz n e f) => (id' < m → id' = id ∧ g' = g) ∧ bV = sz ∧ (n' = n ∨ m ≤ id' ∧ sz ≠ 2 ∧ n' ≤ n) ∧ e' = e ∧
   ∀ i, i < n' → wU h η k (f i) (f' i)
 | .dead, _ => True
 | .row _ _ n' _ _, none => m ≤ id' ∧ n' = 0
 | _, _ => False
def fN (l : List PV) (off : Nat) : List PV → List PV
 | [] => l
 | c :: r => fN (l.set off c) (off + 1) r
def cellsOf : PV → List PV
 | .agg cs => cs
 | v => [v]
def cO (h : List aj) (id : Nat) : aj := h.getD id .dead
def force (v : PV) (K : PV → Prop) : Prop :=
 match v with
 | .int k n => K (.int k n)
 | .bool b => K (.bool b)
 | .str s => K (.str s)
 | .aO => K .aO
 | .fM sz n f => K (.fM sz n f)
 | .fx cs => K (.fx cs)
 | .own id gen off len => K (.own id gen off len)
 | .aN id gen i off => K (.aN id gen i off)
 | .kN id => K (.kN id)
 | .om f bN => K (.om f bN)
 | .fn f => K (.fn f)
 | .agg cs => K (.agg cs)
 | .dG vs => K (.dG vs)
 | .jc => K .jc
 | .aY sz n e f F => K (.aY sz n e f F)
theorem bX {v : PV} {K : PV → Prop} (h : force v K) : K v := by cases v <;> exact h
def DB (K : List PV → Prop) : Nat → List PV → List PV → Prop
 | 0, _, acc => K acc.reverse
 | _ + 1, [], _ => False
 | n + 1, c :: r, acc => force c fun v => DB K n r (v :: acc)
theorem pG {K : List PV → Prop} : ∀ (n : Nat) (l acc : List PV), DB K n l acc → n ≤ l.length ∧ K (acc.reverse ++ l.take n)
 | 0, l, acc, h => ⟨aeE _, by simp only [List.take_zero, aeR]; exact h⟩
 | _ + 1, [], _, h => h.elim
 | n + 1, c :: r, acc, h => by
  obtain ⟨h1, h2⟩ := pG n r (c :: acc) (bX h)
  exact ⟨by simp; omega, by simpa using h2⟩
def xY (T : oO) (t : Nat) (cells : List PV) (K : PV → Prop) : Prop :=
 match T.get t with
 | .struct sz _ _ => DB (fun l => K (.agg l)) sz cells []
 | .other => False
 | _ => match cells with
  | c :: _ => force c K
  | [] => False
def wL (T : oO) (t : Nat) (a : PV) (h : List aj) (K : PV → Prop) : Prop :=
 match a with
 | .fx cells => xY T t cells K
 | .aN id gen i off => match cO h id with
  | .row g _ _ _ f => g = gen ∧ ∃ c, f i = c ∧ xY T t (c.drop off) K
  | .dead => False
 | _ => False
def bw (f : Nat → List PV) (i : Nat) (l : List PV) : Nat → List PV := fun k => bif Nat.beq k i then l else f k
def yR : List PV → Bool
 | [] => true
 | .int _ _ :: r => yR r
 | .bool _ :: r => yR r
 | .str _ :: r => yR r
 | _ => false
def G9 (g : Bool) (q : Bool) : Option Bool → Option Bool
 | some c => match g with
  | true => some (q && c)
  | false => none
 | none => none
def C8 : List PV → List PV → List PV → Option Bool
 | [], [], [] => some true
 | .int k _ :: z, .int k1 a :: r, .int k2 b :: r' => G9 (qM k k1 && qM k k2) (a == b) (C8 z r r')
 | .bool _ :: z, .bool a :: r, .bool b :: r' => G9 true (a == b) (C8 z r r')
 | .str _ :: z, .str a :: r, .str b :: r' => G9 true (a == b) (C8 z r r')
 | _, _, _ => none
def ky (ti : TI) (a b : PV) : Option Bool :=
 match ti, a, b with
 | .int k, .int k1 x, .int k2 y => G9 (qM k k1 && qM k k2) (x == y) (some true)
 | .str, .str x, .str y => some (x == y)
 | .struct _ _ z, .agg xs, .agg ys => match yR z with
  | true => C8 z xs ys
  | false => none
 | _, _, _ => none
def Dc (ti : TI) (f : Nat → List PV) (n : Nat) (kv : PV) : Prop := ∀ j, j < n → ∃ kp vp, f j = [kp, vp] ∧ ky ti kv kp = some false
def MAt (ti : TI) (f : Nat → List PV) (n : Nat) (kv : PV) (i : Nat) (r : PV) : Prop := i < n ∧ Dc ti f i kv ∧ ∃ kp, f i = [kp, r] ∧ ky ti kv kp = some true
def OH (ti : TI) (f : Nat → List PV) (n : Nat) (kv zv r : PV) (b : Bool) : Prop := (b = true ∧ ∃ i, MAt ti f n kv i r) ∨ (b = false ∧ r = zv ∧ Dc ti f n kv)
def Z5 (ti : TI) (f : Nat → List PV) (n : Nat) (kv vv : PV) (n' : Nat) (f' : Nat → List PV) : Prop :=
 (∃ i r, MAt ti f n kv i r ∧ n' = n ∧ f' i = [kv, vv] ∧ ∀ j, j < n → j ≠ i → f' j = f j) ∨ (Dc ti f n kv ∧ n' = n + 1 ∧ f' n = [kv, vv] ∧ ∀ j, j < n → f' j = f j)
def Lw (ti : TI) (bo : BinOp) (x y : PV) (K : PV → Prop) : Prop :=
 match x, y with
 | .int k a, .int k' b =>
  match bo with
  | .shl => 0 ≤ b ∧ K (.int k (k.wrap (a * 2 ^ min b.toNat k.bits)))
  | .shr => 0 ≤ b ∧ K (.int k (a.fdiv (2 ^ min b.toNat k.bits)))
  | _ => dM (qM k k') <| match bo with
  | .and => K (.int k (bits .and k a b))
  | .or => K (.int k (bits .or k a b))
  | .xor => K (.int k (bits .xor k a b))
  | .andNot => K (.int k (bits .andNot k a b))
  | .add => K (.int k (k.wrap (a + b)))
  | .sub => K (.int k (k.wrap (a - b)))
  | .mul => K (.int k (k.wrap (a * b)))
  | .quo => b ≠ 0 ∧ K (.int k (k.wrap (a.tdiv b)))
  | .rem => b ≠ 0 ∧ K (.int k (a.tmod b))
  | .eql => K (.bool (a == b))
  | .neq => K (.bool (a != b))
  | .lss => K (.bool (decide (a < b)))
  | .leq => K (.bool (decide (a ≤ b)))
  | .gtr => K (.bool (decide (a > b)))
  | .geq => K (.bool (decide (a ≥ b)))
  | _ => False
 | .bool a, .bool b => match ti, bo with
  | .bool, .eql => K (.bool (a == b))
  | .bool, .neq => K (.bool (!(a == b)))
  | _, _ => False
 | .str a, .str b => match bo with
  | .add => a.length + b.length ≤ 4611686018427387904 ∧ ∃ s, a ++ b = s ∧ K (.str s)
  | .eql => K (.bool (a == b))
  | .neq => K (.bool (!(a == b)))
  | .lss => K (.bool (Op.bytesLess a b))
  | .leq => K (.bool (Op.bytesLess a b || a == b))
  | .gtr => K (.bool !(Op.bytesLess a b || a == b))
  | .geq => K (.bool !(Op.bytesLess a b))
  | _ => False
 | .agg xs, .agg ys => match ti with
  | .struct _ _ z => dM (yR z) (match C8 z xs ys with
   | some b => match bo with
    | .eql => ∃ c, b = c ∧ K (.bool c)
    | .neq => ∃ c, b = c ∧ K (.bool !c)
    | _ => False
   | none => False)
  | _ => False
 | _, _ => False
def Bb (x : PV) (lo hi : Option PV) (K : PV → Prop) : Prop :=
 match x with
 | .fM sz n f => match lo, hi with
  | none, none => K (.fM sz n f)
  | some (.int _ l), none => (0 ≤ l ∧ l ≤ n) ∧ K (.fM sz (n - l.toNat) (fun i => f (l.toNat + i)))
  | none, some (.int _ m) => (0 ≤ m ∧ m ≤ n) ∧ K (.fM sz m.toNat f)
  | some (.int _ l), some (.int _ m) => (0 ≤ l ∧ l ≤ m ∧ m ≤ n) ∧ K (.fM sz (m.toNat - l.toNat) (fun i => f (l.toNat + i)))
  | _, _ => False
 | .own id gen off len => match lo, hi with
  | none, none => K (.own id gen off len)
  | some (.int _ l), none => (0 ≤ l ∧ l ≤ len) ∧ K (.own id gen (off + l.toNat) (len - l.toNat))
  | none, some (.int _ m) => (0 ≤ m ∧ m ≤ len) ∧ K (.own id gen off m.toNat)
  | some (.int _ l), some (.int _ m) => (0 ≤ l ∧ l ≤ m ∧ m ≤ len) ∧ K (.own id gen (off + l.toNat) (m.toNat - l.toNat))
  | _, _ => False
 | .str s => match lo, hi with
  | none, none => K (.str s)
  | some (.int _ l), none => (0 ≤ l ∧ l ≤ s.length) ∧ K (.str (s.drop l.toNat))
  | none, some (.int _ m) => (0 ≤ m ∧ m ≤ s.length) ∧ K (.str (s.take m.toNat))
  | some (.int _ l), some (.int _ m) => (0 ≤ l ∧ l ≤ m ∧ m ≤ s.length) ∧ K (.str ((s.take m.toNat).drop l.toNat))
  | _, _ => False
 | _ => False
def Hc (K : PV → Prop) (v : PV) : Prop :=
 match v with
 | .fM sz n f => ∃ n' f', n' = n ∧ (∀ i, i < n' → f' i = f i) ∧ K (.fM sz n' f')
 | .str s => ∃ s', s = s' ∧ K (.str s')
 | .own id g off n => ∃ Rc n', Rc = off ∧ n' = n ∧ K (.own id g Rc n')
 | v => K v
def QY (n : Nat) (hi mx : Option PV) : Prop :=
 match mx with
 | none => True
 | some (.int _ q) => match hi with
  | some (.int _ m) => m ≤ q ∧ q ≤ n
  | _ => False
 | _ => False
def isByte : List PV → Bool
 | [.int .u8 _] => true
 | _ => false
def byteOf : List PV → UInt8
 | [.int _ v] => UInt8.ofNat v.toNat
 | _ => 0
def vB (v : PV) (h : List aj) (K : List UInt8 → Prop) : Prop :=
 match v with
 | .aO => K []
 | .fM sz n f => dM (Nat.beq sz 1) (∃ s : List UInt8, s.length = n ∧ (∀ i, i < n → f i = [.int .u8 (s.getD i 0).toNat]) ∧ K s)
 | .own id gen off n => match cO h id with
  | .row g sz _ _ f => g = gen ∧ dM (Nat.beq sz 1) (∃ s : List UInt8, s.length = n ∧ (∀ i, i < n → f (off + i) = [.int .u8 (s.getD i 0).toNat]) ∧ K s)
  | .dead => False
 | _ => False
def lP : PV → Bool
 | .agg _ => false
 | .dG _ => false
 | .jc => false
 | .aY _ _ _ _ _ => false
 | _ => true
def storable : PV → Bool
 | .agg cs => cs.all lP
 | v => lP v
def pH (env : Env) (sz : Nat) (fl : List (Nat × Nat × Bool)) (K : List PV → Prop) : List (Nat × Operand) → List PV → Prop
 | [], acc => K acc
 | (k, x) :: r, acc => match fl[k]? with
  | some (o, size, _) => force (ev env x) fun v => dM (storable v && Nat.beq (cellsOf v).length size && Nat.ble (o + size) sz) (pH env sz fl K r (fN acc o (cellsOf v)))
  | none => False
def tM (env : Env) (K : List (Nat × Nat) → Prop) : List Operand → List (Nat × Nat) → Prop
 | [], acc => K acc.reverse
 | x :: r, acc => match ev env x with
  | .aN id gen 0 0 => tM env K r ((id, gen) :: acc)
  | _ => False
def cm (T : oO) (op : Op) (env : Env) (h : List aj) (K : PV → Prop) : Prop :=
 match op with
 | .move x => force (ev env x) K
 | .assign x => force (ev env x) K
 | .pick c a b => match ev env c with
  | .bool t => eH t (force (ev env a) K) (force (ev env b) K)
  | _ => False
 | .binOp bo t x y _ => Lw (T.get t) bo (ev env x) (ev env y) K
 | .unOp u _ x => match u, ev env x with
  | .not, .bool b => K (.bool !b)
  | .neg, .int k n => K (.int k (k.wrap (0 - n)))
  | _, _ => False
 | .load t a => wL T t (ev env a) h K
 | .convert s d x => match T.get s, T.get d, ev env x with
  | .int _, .int k, .int _ n => K (.int k (k.wrap n))
  | .slice e _ _ _, .str, v => match T.get e with
   | .int .u8 => vB v h (fun s => K (.str s))
   | _ => False
  | _, _, _ => False
 | .nilCheck x => match ev env x with
  | .fx cs => K (.fx cs)
  | .aN id gen i off => match cO h id with
   | .row g _ _ _ _ => g = gen ∧ K (.aN id gen i off)
   | .dead => False
  | _ => False
 | .fieldAddr s x k => match T.get s with
  | .struct _ fl _ => match fl[k]? with
   | some (o, _, _) => match ev env x with
    | .fx cs => K (.fx (cs.drop o))
    | .aN id gen i off => match cO h id with
     | .row g _ _ _ _ => g = gen ∧ K (.aN id gen i (off + o))
     | .dead => False
    | _ => False
   | none => False
  | _ => False
 | .field s x k => match T.get s with
  | .struct _ fl _ => match fl[k]? with
   | some (o, size, ag) => match ev env x with
    | .agg cs => match ag with
     | true => DB (fun l => K (.agg l)) size (cs.drop o) []
     | false => match cs.drop o with
      | c :: _ => force c K
      | [] => False
    | _ => False
   | none => False
  | _ => False
 | .build t parts => match T.get t with
  | .struct sz fl z => pH env sz fl (fun cs => K (.agg cs)) parts.toList z
  | _ => False
 | .indexAddr t x i => match T.get t, ev env x, ev env i with
  | .slice _ sz _ _, .fM bV n f, .int _ i => dM (Nat.beq sz bV) ((0 ≤ i ∧ i < n) ∧ ∃ c, f i.toNat = c ∧ K (.fx c))
  | .slice _ sz _ _, .own id gen off len, .int _ i => match cO h id with
   | .row g bV _ _ _ => g = gen ∧ dM (Nat.beq sz bV) ((0 ≤ i ∧ i < len) ∧ ∃ j, off + i.toNat = j ∧ K (.aN id gen j 0))
   | .dead => False
  | _, _, _ => False
 | .index t x i => match T.get t, ev env x, ev env i with
  | .str, .str s, .int _ i => (0 ≤ i ∧ i < s.length) ∧ ∃ c, s.getD i.toNat 0 = c ∧ K (.int .u8 (c : UInt8).toNat)
  | _, _, _ => False
 | .lookup t x i ok => match T.get t, ev env x with
  | .map kt _ zv, .kN id => match cO h id with
   | .row _ _ n _ f => force (ev env i) fun kv => dM (ky (T.get kt) kv kv).isSome (∃ r b, OH (T.get kt) f n kv zv r b ∧ match ok with
    | true => K (.dG [r, .bool b])
    | false => force r K)
   | .dead => False
  | _, _ => False
 | .makeFunc fn first captured => match fn with
  | .func f => dM first.isEmpty (tM env (fun bN => K (.om f bN)) captured.toList [])
  | _ => False
 | .extract x i => match ev env x with
  | .dG vs => match vs[i]? with
   | some v => force v K
   | none => False
  | _ => False
 | .slice t x lo hi mx => match T.get t, ev env x with
  | .slice _ sz _ _, .fM bV n f => dM (Nat.beq sz bV) (QY n (hi.map (ev env)) (mx.map (ev env)) ∧ Bb (.fM bV n f) (lo.map (ev env)) (hi.map (ev env)) (Hc K))
  | .slice _ sz _ _, .own id gen off len => match cO h id with
   | .row g bV _ _ _ => g = gen ∧ dM (Nat.beq sz bV) (QY len (hi.map (ev env)) (mx.map (ev env)) ∧ Bb (.own id gen off len) (lo.map (ev env)) (hi.map (ev env)) (Hc K))
   | .dead => False
  | .str, .str s => dM mx.isNone (Bb (.str s) (lo.map (ev env)) (hi.map (ev env)) (Hc K))
  | _, _ => False
 | .call ⟨.builtin .len, args, ts⟩ => match args.toList, ts.toList with
  | [x], [t] => match T.get t, ev env x with
   | .slice _ _ _ _, .fM _ n _ => K (.int .i64 n)
   | .slice _ _ _ _, .aO => K (.int .i64 0)
   | .slice _ _ _ _, .own id gen _ n => match cO h id with
    | .row g _ _ _ _ => g = gen ∧ K (.int .i64 n)
    | .dead => False
   | .str, .str s => K (.int .i64 s.length)
   | .map _ _ _, .kN id => match cO h id with
    | .row _ _ n _ _ => K (.int .i64 n)
    | .dead => False
   | _, _ => False
  | _, _ => False
 | _ => False
def kW : TI → Nat
 | .struct sz _ _ => sz
 | .other => 0
 | _ => 1
def A3 : TI → Option (List PV)
 | .int k => some [.int k 0]
 | .bool => some [.bool false]
 | .str => some [.str []]
 | .slice _ _ _ _ => some [.aO]
 | .struct _ _ z => some z
 | _ => none
def yW (len : Nat) : Nat → List (Nat × Operand) → Bool
 | k, [] => Nat.beq k len
 | k, (i, _) :: r => Nat.beq i k && yW len (k + 1) r
def qS (env : Env) (sz : Nat) (K : List (List PV) → Prop) : List (Nat × Operand) → List (List PV) → Prop
 | [], acc => K acc.reverse
 | (_, x) :: r, acc => force (ev env x) fun v => dM (storable v && Nat.beq (cellsOf v).length sz) (qS env sz K r (cellsOf v :: acc))
theorem yX {env : Env} {sz : Nat} {K : List (List PV) → Prop} : ∀ (l : List (Nat × Operand)) (acc : List (List PV)), qS env sz K l acc →
  (∀ p ∈ l, storable (ev env p.2) = true ∧ Nat.beq (cellsOf (ev env p.2)).length sz = true) ∧ K (acc.reverse ++ l.map fun p => cellsOf (ev env p.2))
 | [], acc, h => ⟨fun p hp => by simp at hp, by simp only [aem, aeR]; exact h⟩
 | (i, x) :: r, acc, h => by
  obtain ⟨h1, h2⟩ := bB (bX h)
  simp only [an] at h1
  obtain ⟨h3, h4⟩ := yX r _ h2
  refine ⟨fun p hp => ?_, by simpa using h4⟩
  simp only [aej] at hp
  rcases hp with rfl | hp
  ·exact h1
  ·exact h3 p hp
def noO : List PV → Bool
 | [] => true
 | .aY _ _ _ _ _ :: _ => false
 | _ :: r => noO r
def HA (x : PV) (h : List aj) (sz : Nat) (K : Nat → (Nat → List PV) → Prop) : Prop :=
 match x with
 | .aO => K 0 (fun _ => [])
 | .fM bV m g => dM (Nat.beq sz bV) (K m g)
 | .own id gen off m => match cO h id with
  | .row g bV _ _ f => g = gen ∧ (∀ i, i < m → noO (f (off + i)) = true) ∧ dM (Nat.beq sz bV) (K m (fun i => f (off + i)))
  | .dead => False
 | .str s => dM (Nat.beq sz 1) <| K s.length (fun i => [.int .u8 (s.getD i 0).toNat])
 | _ => False
def qz (e sz bytes : Nat) (s x : PV) (h : List aj) (K : PV → List aj → Prop) : Prop :=
 match s with
 | .aO => HA x h sz fun m g => m * bytes ≤ 140737488355328 ∧ ∃ n' f', n' = m ∧ (∀ i, i < n' → nP (g i) (f' i)) ∧ K (.own h.length 0 0 n') (h ++ [.row 0 sz n' e f'])
 | .own id gen off len => match cO h id with
  | .row g bV _ e' f => g = gen ∧ dM (Nat.beq sz bV && Nat.beq e e') (HA x h sz fun m q => (len + m) * bytes ≤ 140737488355328 ∧ ∃ n' f', n' = len + m ∧
    (∀ i, i < n' → nP (bif Nat.blt i len then f (off + i) else q (i - len)) (f' i)) ∧
    K (.own id (gen + 1) 0 n') (h.set id (.row (gen + 1) sz n' e f')))
  | .dead => False
 | _ => False
def Rs (f : Nat → List PV) (off m : Nat) (q : Nat → List PV) : Nat → List PV := fun i => bif Nat.blt i off then f i else bif Nat.blt i (off + m) then q (i - off) else f i
def BA (e sz : Nat) (s x : PV) (h : List aj) (K : PV → List aj → Prop) : Prop :=
 match s with
 | .own id gen off len => match cO h id with
  | .row g bV n e' f => g = gen ∧ dM (Nat.beq sz bV && Nat.beq e e') (HA x h sz fun m q => m ≤ len ∧ ∃ f', (∀ i, i < n → nP (Rs f off m q i) (f' i)) ∧ K (.int .i64 m) (h.set id (.row g sz n e f')))
  | .dead => False
 | _ => False
def lF : PV → Bool
 | .dG _ => false
 | _ => true
inductive va (P : Program) (f : FuncId) (args : List PV) (h : List aj) (K : PV → List aj → Prop) : Prop
 | mk (R : PV → List aj → Prop) (hA : ACall P f args h R) (hk : ∀ res h', R res h' → K res h')
def pop (P : Program) (T : oO) (op : Op) (env : Env) (h : List aj) (K : PV → List aj → Prop) : Prop :=
 match op with
 | .store t a x => match ev env a with
  | .aN id gen i off => match cO h id with
   | .row g sz n e f => g = gen ∧ force (ev env x) fun v => dM (storable v && Nat.ble 1 (kW (T.get t)) && Nat.beq (kW (T.get t)) (cellsOf v).length && Nat.ble (off + (cellsOf v).length) sz)
     (∃ c f', f i = c ∧ (∀ j, j < n → nP (bw f i (fN c off (cellsOf v)) j) (f' j)) ∧ K .jc (h.set id (.row g sz n e f')))
   | .dead => False
  | _ => False
 | .box t x => force (ev env x) fun v => dM (storable v && Nat.beq (cellsOf v).length (kW (T.get t))) (K (.aN h.length 0 0 0) (h ++ [.row 0 (kW (T.get t)) 1 t (fun _ => cellsOf v)]))
 | .alloc t => match A3 (T.get t) with
  | some z => K (.aN h.length 0 0 0) (h ++ [.row 0 (kW (T.get t)) 1 t (fun _ => z)])
  | none => False
 | .makeSlice t l c => match T.get t, ev env l, ev env c with
  | .slice e sz bytes zero, .int _ n, .int _ m => (0 ≤ n ∧ n ≤ m ∧ m ≤ 4611686018427387904 ∧ m.toNat * bytes ≤ 140737488355328) ∧ ∃ n' f', n' = n.toNat ∧ (∀ i, i < n' → nP zero (f' i)) ∧ K (.own h.length 0 0 n') (h ++ [.row 0 sz n' e f'])
  | _, _, _ => False
 | .buildSlice t len parts => match T.get t with
  | .slice e sz _ _ => dM (yW len 0 parts.toList && Nat.ble (len * sz) 65536) (qS env sz (fun cs => ∃ f', (∀ i, i < len → nP (cs.getD i []) (f' i)) ∧ K (.own h.length 0 0 len) (h ++ [.row 0 sz len e f'])) parts.toList [])
  | _ => False
 | .convert s d x => match T.get s, T.get d, ev env x with
  | .str, .slice e _ _ _, .str b => match T.get e with
   | .int .u8 => ∃ f', (∀ i, i < b.length → f' i = [.int .u8 (b.getD i 0).toNat]) ∧ K (.fM 1 b.length f') h
   | _ => False
  | _, _, _ => cm T (.convert s d x) env h (fun v => K v h)
 | .binOp bo t x y ty => match bo, T.get t, ev env x, ev env y with
  | .eql, .slice _ _ _ _, .fM _ n _, .aO => (n = 0 → K (.bool true) h) ∧ K (.bool false) h
  | _, _, _, _ => cm T (.binOp bo t x y ty) env h (fun v => K v h)
 | .makeMap t none => match T.get t with
  | .map _ _ _ => ∃ f', K (.kN h.length) (h ++ [.row 0 2 0 t f'])
  | _ => False
 | .mapUpdate t m k x => match T.get t, ev env m with
  | .map kt _ _, .kN id => match cO h id with
   | .row g sz n e f => force (ev env k) fun kv => force (ev env x) fun vv => dM ((ky (T.get kt) kv kv).isSome && j4 vv && storable vv && Nat.beq sz 2)
     (∃ n' f', Z5 (T.get kt) f n kv vv n' f' ∧ K .jc (h.set id (.row (g + 1) 2 n' e f')))
   | .dead => False
  | _, _ => False
 | .call ⟨.builtin .append, args, ts⟩ => match args.toList, ts.toList with
  | [s, x], [t, tx] => match T.get t, T.get tx with
   | .slice e sz bytes _, .slice _ _ _ _ => qz e sz bytes (ev env s) (ev env x) h K
   | .slice e sz bytes _, .str => qz e sz bytes (ev env s) (ev env x) h K
   | _, _ => False
  | _, _ => False
 | .call ⟨.builtin .copy, args, ts⟩ => match args.toList, ts.toList with
  | [s, x], [t, tx] => match T.get t, T.get tx with
   | .slice e sz _ _, .slice _ _ _ _ => BA e sz (ev env s) (ev env x) h K
   | .slice e sz _ _, .str => BA e sz (ev env s) (ev env x) h K
   | _, _ => False
  | _, _ => False
 | .call ⟨.value fo, args, _⟩ => match ev env fo with
  | .fn f => dM (args.toList.all (fun x => lF (ev env x))) (va P f (args.toList.map (ev env)) h K)
  | .om f bN => dM (args.toList.all (fun x => lF (ev env x))) (va P f (args.toList.map (ev env) ++ bN.map fun p => .aN p.1 p.2 0 0) h K)
  | _ => False
 | op => cm T op env h (fun v => K v h)
def qP (P : Program) (T : oO) (all : List Oper) (K : Env → List aj → Prop) (l : List Oper) : Env → List aj → Prop :=
 List.rec (motive := fun _ => Env → List aj → Prop) K (fun o _ ih env h => match o.guard with
  | none => pop P T o.op env h (fun v h' => ih (dx env o.dst v) h')
  | some (j, want) => match (all[j]?).bind (·.dst) with
   | some t => match env t with
    | .bool b => eH b
      (match want with
       | true => pop P T o.op (qb env t (.bool true)) h (fun v h' => ih (dx (qb env t (.bool true)) o.dst v) h')
       | false => ih (dx (qb env t (.bool true)) o.dst (.dG [])) h)
      (match want with
       | true => ih (dx (qb env t (.bool false)) o.dst (.dG [])) h
       | false => pop P T o.op (qb env t (.bool false)) h (fun v h' => ih (dx (qb env t (.bool false)) o.dst v) h'))
    | .dG [] => ih (dx env o.dst (.dG [])) h
    | _ => False
   | none => False) l
abbrev XQ := Exit → Env → List aj → Prop
def XQ.then (next : Env → List aj → Prop) (Q : XQ) : XQ
 | .normal, env, h => next env h
 | e, env, h => Q e env h
def XQ.inBlock (id : Nat) (Q : XQ) : XQ
 | .exit id', env, h => match Nat.beq id' id with
  | true => Q .normal env h
  | false => Q (.exit id') env h
 | e, env, h => Q e env h
def KF (h η : List aj) (k : List Nat) (env : Env) : List (Nat × PV) → Prop
 | [] => True
 | (t, v) :: r => Fz h η k (env t) v ∧ KF h η k env r
def pO (h η : List aj) (k : List Nat) (m : Nat) : Nat → List aj → List Nat → Prop
 | _, [], [] => True
 | i, o :: r, id :: r' => vH h η k m o i id ∧ pO h η k m (i + 1) r r'
 | _, _, _ => False
def tR (m : Nat) (env : Env) (h : List aj) (σ : List (Nat × PV)) (η : List aj) : Prop :=
 ∃ k : List Nat, oc (nR η k) = true ∧ m ≤ k.length ∧ KF h η k env σ ∧ pO h η k m 0 η k
def nr : Env := fun _ => .jc
def Hs (h h1 : List aj) : Prop := ∃ (id g sz n : Nat) (e : TypeId) (f : Nat → List PV) (i j bV n' : Nat) (e' : TypeId) (f' : Nat → List PV) (F : Nat → Prop) (f1 : Nat → List PV), h[id]? = some (aj.row g sz n e f) ∧ i < n ∧
 (f i)[j]? = some (.aY bV n' e' f' F) ∧ f1 i = (f i).set j (.own h.length 0 0 n') ∧ (∀ k, k < n → k ≠ i → f1 k = f k) ∧ h1 = h.set id (.row g sz n e f1) ++ [.row 0 bV n' e' f']
def Ht (h : List aj) (id i j sub : Nat) (F : Nat → Prop) (h1 : List aj) : Prop := ∃ (g sz n : Nat) (e : TypeId) (f : Nat → List PV) (g2 qy n2 : Nat) (e2 : TypeId) (f2 f1 : Nat → List PV), h[id]? = some (aj.row g sz n e f) ∧ h[sub]? = some (aj.row g2 qy n2 e2 f2) ∧
 id ≠ sub ∧ i < n ∧ (f i)[j]? = some (.own sub g2 0 n2) ∧ (∀ k, k < n2 → ∀ c, c ∈ f2 k → bC c = true ∨ dK c = true) ∧ f1 i = (f i).set j (.aY qy n2 e2 f2 F) ∧ (∀ k, k < n → k ≠ i → f1 k = f k) ∧
 h1 = (h.set id (.row g sz n e f1)).set sub .dead
inductive qw (m : Nat) (body : (Env → List aj → Prop) → Env → List aj → Prop) : Env → List aj → Prop
 | take {env : Env} {h : List aj} (σ : List (Nat × PV)) (η : List aj) (ht : tR m env h σ η) (hk : qw m body (yl nr σ) η) : qw m body env h
 | step {env : Env} {h : List aj} (N : Env → List aj → Prop) (hN : ∀ e h', N e h' → qw m body e h') (hb : body N env h) : qw m body env h
 | ex {env : Env} {h : List aj} (h1 : List aj) (hx : Hs h h1) (hk : qw m body env h1) : qw m body env h
 | ab {env : Env} {h : List aj} (id i j sub : Nat) (h1 : (Nat → Prop) → List aj) (ha : ∀ F, Ht h id i j sub F (h1 F)) (hk : ∀ F, qw m body env (h1 F)) : qw m body env h
def az (m : Nat) (body : (Env → List aj → Prop) → Env → List aj → Prop) (σ : List (Nat × PV)) (η : List aj) : Prop := qw m body (yl nr σ) η
inductive loopGo (m : Nat) (body : (Env → List aj → Prop) → Env → List aj → Prop) (env : Env) : List aj → Prop
 | mk {h : List aj} (σ : List (Nat × PV)) (η : List aj) (ht : tR m env h σ η) (hk : az m body σ η) : loopGo m body env h
 | ex {h : List aj} (h1 : List aj) (hx : Hs h h1) (hk : loopGo m body env h1) : loopGo m body env h
 | ab {h : List aj} (id i j sub : Nat) (h1 : (Nat → Prop) → List aj) (ha : ∀ F, Ht h id i j sub F (h1 F)) (hk : ∀ F, loopGo m body env (h1 F)) : loopGo m body env h
theorem loopGo.to {m : Nat} {body : (Env → List aj → Prop) → Env → List aj → Prop} {env : Env} {h : List aj} (hg : loopGo m body env h) : qw m body env h := by
 induction hg with
 | mk σ η ht hk => exact .take σ η ht hk
 | ex h1 hx hk ih => exact .ex h1 hx ih
 | ab id i j sub h1 ha hk ih => exact .ab id i j sub h1 ha ih
theorem az.enter {m : Nat} {body : (Env → List aj → Prop) → Env → List aj → Prop} {env : Env} {h : List aj} (σ : List (Nat × PV)) (η : List aj) (ht : tR m env h σ η) (hk : az m body σ η) : qw m body env h := .take σ η ht hk
theorem az.round {m : Nat} {body : (Env → List aj → Prop) → Env → List aj → Prop} {σ : List (Nat × PV)} {η : List aj} (hb : body (loopGo m body) (yl nr σ) η) : az m body σ η :=
 .step (loopGo m body) (fun _ _ hg => hg.to) hb
inductive wX (m : Nat) (J : List (Nat × PV) → List aj → Prop) (env : Env) : List aj → Prop
 | mk {h : List aj} (σ : List (Nat × PV)) (η : List aj) (ht : tR m env h σ η) (hj : J σ η) : wX m J env h
 | ex {h : List aj} (h1 : List aj) (hx : Hs h h1) (hk : wX m J env h1) : wX m J env h
 | ab {h : List aj} (id i j sub : Nat) (h1 : (Nat → Prop) → List aj) (ha : ∀ F, Ht h id i j sub F (h1 F)) (hk : ∀ F, wX m J env (h1 F)) : wX m J env h
inductive tS (m : Nat) (A B : XQ → Env → List aj → Prop) (Q : XQ) (env : Env) : List aj → Prop
 | direct {h : List aj} (hd : A (XQ.then (B Q) Q) env h) : tS m A B Q env h
 | cut {h : List aj} (J : List (Nat × PV) → List aj → Prop) (ha : A (XQ.then (wX m J) Q) env h) (hb : ∀ σ η, J σ η → B Q (yl nr σ) η) : tS m A B Q env h
 | ex {h : List aj} (h1 : List aj) (hx : Hs h h1) (hk : tS m A B Q env h1) : tS m A B Q env h
 | ab {h : List aj} (id i j sub : Nat) (h1 : (Nat → Prop) → List aj) (ha : ∀ F, Ht h id i j sub F (h1 F)) (hk : ∀ F, tS m A B Q env (h1 F)) : tS m A B Q env h
def Dv : Op → Bool
 | .call ⟨.value _, _, _⟩ => false
 | .call ⟨.builtin .append, _, _⟩ => false
 | .call ⟨.builtin .copy, _, _⟩ => false
 | .store _ _ _ => false
 | .box _ _ => false
 | .alloc _ => false
 | .makeSlice _ _ _ => false
 | .buildSlice _ _ _ => false
 | .makeMap _ _ => false
 | .mapUpdate _ _ _ _ => false
 | _ => true
def w9 : PV → Bool
 | .int _ _ => true
 | .bool _ => true
 | .str _ => true
 | .aO => true
 | _ => false
def O8 (P : Program) (fo : PV) (args : List PV) (h : List aj) (K : PV → Prop) : Prop :=
 match fo with
 | .fn f => dM (args.all lF) (∃ (j7 : List PV) (v : PV), wU h [] [] args j7 ∧ j7.all lF = true ∧ ACall P f j7 [] (fun res _ => res = v) ∧ dM (w9 v) (K v))
 | _ => False
def Wl (P : Program) (T : oO) (op : Op) (env : Env) (h : List aj) (K : PV → Prop) : Prop :=
 match op with
 | .call ⟨.value fo, args, _⟩ => O8 P (ev env fo) (args.toList.map (ev env)) h K
 | op => cm T op env h K
def vN (P : Program) (T : oO) (all : List Oper) (h : List aj) (K : Env → Prop) (l : List Oper) : Env → Prop :=
 List.rec (motive := fun _ => Env → Prop) K (fun o _ ih env => match o.guard with
  | none => Wl P T o.op env h (fun v => ih (dx env o.dst v))
  | some (j, want) => match (all[j]?).bind (·.dst) with
   | some t => match env t with
    | .bool b => eH b
      (match want with
       | true => Wl P T o.op (qb env t (.bool true)) h (fun v => ih (dx (qb env t (.bool true)) o.dst v))
       | false => ih (dx (qb env t (.bool true)) o.dst (.dG [])))
      (match want with
       | true => ih (dx (qb env t (.bool false)) o.dst (.dG []))
       | false => Wl P T o.op (qb env t (.bool false)) h (fun v => ih (dx (qb env t (.bool false)) o.dst v)))
    | .dG [] => ih (dx env o.dst (.dG []))
    | _ => False
   | none => False) l
def kb : List Nat → Nat → Bool
 | [], _ => false
 | a :: r, x => match Nat.beq a x with
  | true => true
  | false => kb r x
def RJ (done : List Nat) : Nat → List Oper → List Nat
 | _, [] => []
 | j, o :: r => match kb done j || !(o.after.toList.all fun e => !(Region.binds .any e) || kb done e.on) with
  | true => RJ done (j + 1) r
  | false => j :: RJ done (j + 1) r
def Wn : List Nat → (Nat → Prop) → Prop
 | [], _ => True
 | [i], F => F i
 | i :: r, F => F i ∧ Wn r F
def Wo (P : Program) (T : oO) (all : List Oper) (K : Env → List aj → Prop) : Nat → List Nat → Env → List aj → Prop
 | 0, _, env, h => K env h
 | f + 1, done, env, h => Wn (RJ done 0 all) (fun i => match all[i]? with
  | some o => qP P T all (fun env' h' => Wo P T all K f (i :: done) env' h') [o] env h
  | none => False)
def O9 (ops : Array Oper) : Nat → Array Bool → List Nat → Bool
 | 0, listed, _ => (Region.ready .any ops listed).isEmpty
 | f + 1, listed, done => !(Region.ready .any ops listed).isEmpty && (Region.ready .any ops listed).all (fun i => kb (RJ done 0 ops.toList) i && O9 ops f (listed.setIfInBounds i true) (i :: done))
def sI : PV → List Nat
 | .own id _ _ _ => [id]
 | .aN id _ _ _ => [id]
 | .kN id => [id]
 | .om _ bN => bN.map (·.1)
 | _ => []
def j9 (env : Env) (op : Op) : List Nat := match op with | .move _ => [] | _ => op.operands.toList.flatMap fun x => sI (ev env x)
def Pc (o : Oper) : List Nat := o.after.toList.filterMap fun e => match Region.binds .any e with | true => some e.on | false => none
def bK (all : List Oper) (i : Nat) : List Nat := match all[i]? with | some o => Pc o | none => []
def dc : List (Nat × List Nat) → Nat → List Nat
 | [], _ => []
 | (j, A) :: r, i => match Nat.beq j i with | true => A | false => dc r i
def ddL : List Nat → List Nat → List Nat
 | [], acc => acc
 | a :: r, acc => match kb acc a with | true => ddL r acc | false => ddL r (a :: acc)
def uP (all : List Oper) : List (Nat × Bool) → List (Nat × List Nat) → List (Nat × List Nat)
 | [], t => t
 | (i, _) :: r, t => uP all r ((i, ddL (bK all i ++ (bK all i).flatMap (dc t)) []) :: t)
def qA (ops : Array Oper) (i j : Nat) : Bool := match ops[i]?, ops[j]? with | some x, some y => Oper.apart ops x y | _, _ => false
def ep (ops : Array Oper) (t : List (Nat × List Nat)) (p i : Nat × Bool) : Bool :=
 !(Nat.beq p.1 i.1) && !(kb (bK ops.toList p.1) i.1) && (kb (bK ops.toList i.1) p.1 || (qA ops p.1 i.1 && (p.2 || kb (dc t i.1) p.1)))
def bW (ops : Array Oper) (t : List (Nat × List Nat)) : List (Nat × Bool) → Bool
 | [] => true
 | p :: r => r.all (ep ops t p) && bW ops t r
def KP (ops : Array Oper) (ord : List (Nat × Bool)) : Bool :=
 Nat.beq ord.length ops.size && (List.range ops.size).all (fun j => kb (ord.map (·.1)) j) && ord.all (fun p => Nat.blt p.1 ops.size && (bK ops.toList p.1).all (fun d => Nat.blt d ops.size && !(Nat.beq d p.1))) && bW ops (uP ops.toList ord []) ord
def Ft (h h' : List aj) (K : Prop) : List Nat → Prop
 | [] => K
 | id :: r => cO h id = cO h' id ∧ Ft h h' K r
def ns (Ww : List Nat) (h h' : List aj) (K : Prop) : List (Nat × List Nat) → Prop
 | [] => K
 | (j, ids) :: r => match kb Ww j with
  | true => ns Ww h h' K r
  | false => Ft h h' (ns Ww h h' K r) ids
def CN (P : Program) (T : oO) (st : Bool) (op : Op) (env : Env) (h : List aj) (G : PV → List aj → Prop) : Prop :=
 match st with
 | true => cm T op env h (fun v => G v h)
 | false => pop P T op env h G
def qC (P : Program) (T : oO) (all : List Oper) (st : Bool) (o : Oper) (F : Env → PV → List aj → Prop) (env : Env) (h : List aj) : Prop :=
 match o.guard with
 | none => CN P T st o.op env h (F env)
 | some (j, want) => match (all[j]?).bind (·.dst) with
  | some t => match env t with
   | .bool b => eH b
     (match want with
      | true => CN P T st o.op (qb env t (.bool true)) h (F (qb env t (.bool true)))
      | false => F (qb env t (.bool true)) (.dG []) h)
     (match want with
      | true => F (qb env t (.bool false)) (.dG []) h
      | false => CN P T st o.op (qb env t (.bool false)) h (F (qb env t (.bool false))))
   | .dG [] => F env (.dG []) h
   | _ => False
  | none => False
def fw (P : Program) (T : oO) (all : List Oper) (t : List (Nat × List Nat)) (K : Env → List aj → Prop) (l : List (Nat × Bool)) : List (Nat × List Nat) → Env → List aj → Prop :=
 List.rec (motive := fun _ => List (Nat × List Nat) → Env → List aj → Prop) (fun _ env h => K env h) (fun p _ ih bI env h => match all[p.1]? with
  | some o => match p.2 with
   | true => qC P T all true o (fun env' v h' => ih ((p.1, j9 env' o.op) :: bI) (dx env' o.dst v) h') env h
   | false => qC P T all false o (fun env' v h' => ns (dc t p.1) h h' (ih bI (dx env' o.dst v) h') bI) env h
  | none => False) l
def HL (ops : Array Oper) (ord : List (Nat × Bool)) (x : Nat) (ra : List (Nat × Bool)) (y : Nat) (rb : List (Nat × Bool)) : Bool :=
 Nat.beq (ord.length + (ra.length + 1)) ops.size && Nat.beq rb.length ra.length && (List.range ops.size).all (fun j => kb ((ord ++ (x, false) :: ra).map (·.1)) j) && (ord ++ (x, false) :: ra).all (fun p => Nat.blt p.1 ops.size && (bK ops.toList p.1).all (fun d => Nat.blt d ops.size && !(Nat.beq d p.1))) &&
  bW ops (uP ops.toList (ord ++ (x, false) :: ra) []) (ord ++ ra) && bW ops (uP ops.toList (ord ++ (x, false) :: ra) []) (ord ++ rb) &&
  ord.all (fun p => ep ops (uP ops.toList (ord ++ (x, false) :: ra) []) p (x, false) && ep ops (uP ops.toList (ord ++ (x, false) :: ra) []) p (y, false) && (bK ops.toList p.1).all (fun d => !(kb (((x, false) :: ra).map (·.1)) d))) &&
  (((x, false) :: ra).map (·.1)).all (fun j => kb (((y, false) :: rb).map (·.1)) j) && (((y, false) :: rb).map (·.1)).all (fun j => kb (((x, false) :: ra).map (·.1)) j) &&
  (bK ops.toList x).all (fun d => !(kb (((x, false) :: ra).map (·.1)) d)) && !(kb (ra.map (·.1)) x) && !(kb (rb.map (·.1)) y) &&
  ra.all (fun p => Nat.beq p.1 y || kb (dc (uP ops.toList (ord ++ (x, false) :: ra) []) p.1) x || kb (dc (uP ops.toList (ord ++ (x, false) :: ra) []) p.1) y)
def fw2 (P : Program) (T : oO) (all : List Oper) (t : List (Nat × List Nat)) (A B : List (Nat × Bool)) (K : Env → List aj → Prop) (l : List (Nat × Bool)) : List (Nat × List Nat) → Env → List aj → Prop :=
 List.rec (motive := fun _ => List (Nat × List Nat) → Env → List aj → Prop) (fun bI env h => fw P T all t K A bI env h ∧ fw P T all t K B bI env h) (fun p _ ih bI env h => match all[p.1]? with
  | some o => match p.2 with
   | true => qC P T all true o (fun env' v h' => ih ((p.1, j9 env' o.op) :: bI) (dx env' o.dst v) h') env h
   | false => qC P T all false o (fun env' v h' => ns (dc t p.1) h h' (ih bI (dx env' o.dst v) h') bI) env h
  | none => False) l
def fwE (P : Program) (T : oO) (all : List Oper) (t : List (Nat × List Nat)) (E : List (Nat × List Nat) → Env → List aj → Prop) (l : List (Nat × Bool)) : List (Nat × List Nat) → Env → List aj → Prop :=
 List.rec (motive := fun _ => List (Nat × List Nat) → Env → List aj → Prop) (fun bI env h => E bI env h) (fun p _ ih bI env h => match all[p.1]? with
  | some o => match p.2 with
   | true => qC P T all true o (fun env' v h' => ih ((p.1, j9 env' o.op) :: bI) (dx env' o.dst v) h') env h
   | false => qC P T all false o (fun env' v h' => ns (dc t p.1) h h' (ih bI (dx env' o.dst v) h') bI) env h
  | none => False) l
def RB (ops : Array Oper) (t : List (Nat × List Nat)) (ord : List (Nat × Bool)) (x y : Nat) (RX RY : List Nat) : Bool :=
 Nat.beq RX.length RY.length && ord.all (fun p => ep ops t p (x, false) && ep ops t p (y, false) && (bK ops.toList p.1).all (fun d => !(kb (x :: RX) d)) && !(kb (x :: RX) p.1)) &&
  (x :: RX).all (fun j => kb (y :: RY) j) && (y :: RY).all (fun j => kb (x :: RX) j) && (bK ops.toList x).all (fun d => !(kb (x :: RX) d)) && !(kb RX x) && !(kb RY y) &&
  RX.all (fun j => Nat.beq j y || kb (dc t j) x || kb (dc t j) y)
def BL (ops : Array Oper) (ord : List (Nat × Bool)) (x : Nat) (o1 : List (Nat × Bool)) (x1 : Nat) (xu : List (Nat × Bool)) (y1 : Nat) (HK : List (Nat × Bool)) (y : Nat) (rb : List (Nat × Bool)) : Bool :=
 (fun all => (fun t => Nat.beq all.length ops.size && (List.range ops.size).all (fun j => kb (all.map (·.1)) j) && all.all (fun p => Nat.blt p.1 ops.size && (bK ops.toList p.1).all (fun d => Nat.blt d ops.size && !(Nat.beq d p.1))) &&
  bW ops t ((ord ++ o1) ++ xu) && bW ops t ((ord ++ o1) ++ HK) && bW ops t (ord ++ rb) &&
  RB ops t ord x y (o1.map (·.1) ++ x1 :: xu.map (·.1)) (rb.map (·.1)) && RB ops t (ord ++ o1) x1 y1 (xu.map (·.1)) (HK.map (·.1))) (uP ops.toList all [])) (ord ++ (x, false) :: (o1 ++ (x1, false) :: xu))
def fw3 (P : Program) (T : oO) (all : List Oper) (t : List (Nat × List Nat)) (x : Nat) (o1 : List (Nat × Bool)) (x1 : Nat) (xu : List (Nat × Bool)) (y1 : Nat) (HK : List (Nat × Bool)) (y : Nat) (rb : List (Nat × Bool)) (K : Env → List aj → Prop) (l : List (Nat × Bool)) : List (Nat × List Nat) → Env → List aj → Prop :=
 fwE P T all t (fun bI env h => fwE P T all t (fun bI env h => fw P T all t K ((x1, false) :: xu) bI env h ∧ fw P T all t K ((y1, false) :: HK) bI env h) ((x, false) :: o1) bI env h ∧ fw P T all t K ((y, false) :: rb) bI env h) l
inductive vQ (P : Program) (T : oO) (m : Nat) (ops : Array Oper) (K : Env → List aj → Prop) (env : Env) (h : List aj) : Prop
 | quiet (hq : vN P T ops.toList h (fun env' => K env' h) ops.toList env) : vQ P T m ops K env h
 | orders (σ : List (Nat × PV)) (η : List aj) (hc : O9 ops ops.size (Array.replicate ops.size false) [] = true) (hd : Wo P T ops.toList (fun env' h' => tR m env' h' σ η) ops.toList.length [] env h)
   (hk : K (yl nr σ) η) : vQ P T m ops K env h
 | Ws (ord : List (Nat × Bool)) (x : Nat) (ra : List (Nat × Bool)) (y : Nat) (rb : List (Nat × Bool)) (hc : HL ops ord x ra y rb = true) (hf : fw2 P T ops.toList (uP ops.toList (ord ++ (x, false) :: ra) []) ((x, false) :: ra) ((y, false) :: rb) K ord [] env h) : vQ P T m ops K env h
 | Wt (ord : List (Nat × Bool)) (x : Nat) (o1 : List (Nat × Bool)) (x1 : Nat) (xu : List (Nat × Bool)) (y1 : Nat) (HK : List (Nat × Bool)) (y : Nat) (rb : List (Nat × Bool)) (hc : BL ops ord x o1 x1 xu y1 HK y rb = true)
   (hf : fw3 P T ops.toList (uP ops.toList (ord ++ (x, false) :: (o1 ++ (x1, false) :: xu)) []) x o1 x1 xu y1 HK y rb K ord [] env h) : vQ P T m ops K env h
 | float (ord : List (Nat × Bool)) (hc : KP ops ord = true) (hf : fw P T ops.toList (uP ops.toList ord []) K ord [] env h) : vQ P T m ops K env h
def Ph (Q : XQ) (env : Env) (h : List aj) : Prop := Q .normal env h
def aaz (Q : XQ) (h : List aj) (env : Env) : Prop := Q .normal env h
def vc (P : Program) (T : oO) (m : Nat) (c : Code) : XQ → Env → List aj → Prop :=
 Code.rec (motive := fun _ => XQ → Env → List aj → Prop)
  (fun Q env h => Q .normal env h)
  (fun _ ops d Q env h => match d with
   | false => qP P T ops.toList (Q .normal) ops.toList env h
   | true => match ops.toList.all (fun o => Dv o.op) with
    | true => vN P T ops.toList h (aaz Q h) ops.toList env
    | false => vQ P T m ops (Ph Q) env h)
  (fun _ _ iha ihb Q env h => tS m iha ihb Q env h)
  (fun c _ _ iha ihb Q env h => match ev env c with
   | .bool t => eH t (iha Q env h) (ihb Q env h)
   | _ => False)
  (fun id _ ih Q env h => ih (XQ.inBlock id Q) env h)
  (fun _ ih Q env h => qw m (fun next => ih (XQ.then next Q)) env h)
  (fun _ _ _ _ _ _ _ _ _ => False)
  (fun id Q env h => Q (.exit id) env h)
  (fun _ _ _ _ _ => False)
  (fun _ Q env h => Q .normal env h)
  (fun _ _ _ _ => False)
  (fun Q env h => Q .ret env h)
  (fun _ _ _ _ => False) c
def codeOk (nt : Nat) : Code → Bool
 | .region _ ops d => ops.toList.all (fun o => match o.dst with | some t => Nat.blt t nt | none => true) && (!d || Region.lexB .any ops)
 | .seq a b => codeOk nt a && codeOk nt b
 | .cond _ a b => codeOk nt a && codeOk nt b
 | .block _ c => codeOk nt c
 | .loop c => codeOk nt c
 | _ => true
def uC (T : oO) (env : Env) (h : List aj) : List ResultVar → (List PV → Prop) → Prop
 | [], K => K []
 | .tmp t :: r, K => uC T env h r (fun vs => K (env t :: vs))
 | .cell t ty :: r, K => wL T ty (env t) h (fun v => uC T env h r (fun vs => K (v :: vs)))
def oneOf : List PV → PV
 | [v] => v
 | vs => .dG vs
inductive Ends (m : Nat) (R : PV → List aj → Prop) : List aj → List PV → Prop
 | mk {h : List aj} {vs : List PV} (hn : vs.all lF = true) (k : List Nat) (res : PV) (η : List aj) (hk : oc (nR η k) = true) (hm : m ≤ k.length) (hz : Fz h η k (oneOf vs) res) (hh : pO h η k m 0 η k) (hR : R res η) : Ends m R h vs
 | ex {h : List aj} {vs : List PV} (h1 : List aj) (hx : Hs h h1) (hk : Ends m R h1 vs) : Ends m R h vs
 | ab {h : List aj} {vs : List PV} (id i j sub : Nat) (h1 : (Nat → Prop) → List aj) (ha : ∀ F, Ht h id i j sub F (h1 F)) (hk : ∀ F, Ends m R (h1 F) vs) : Ends m R h vs
def aab (T : oO) (rs : List ResultVar) (m : Nat) (R : PV → List aj → Prop) : XQ
 | .ret, env, h => uC T env h rs (Ends m R h)
 | .normal, env, h => uC T env h rs (Ends m R h)
 | _, _, _ => False
def tT (args : List PV) : Env := fun t => args.getD t .jc
def JX (env env' : Env) (op : Op) : Prop := ∀ x, x ∈ op.operands.toList → ev env x = ev env' x
def Wx (h h' : List aj) (env : Env) (op : Op) : Prop := ∀ x, x ∈ op.operands.toList → ∀ id, id ∈ sI (ev env x) → cO h id = cO h' id
theorem ju {v : PV} {K : PV → Prop} (h : K v) : force v K := by cases v <;> exact h
theorem BR {env env' : Env} {sz : Nat} {fl : List (Nat × Nat × Bool)} {K : List PV → Prop} : ∀ (l : List (Nat × Operand)) (acc : List PV), (∀ p, p ∈ l → ev env p.2 = ev env' p.2) → pH env sz fl K l acc = pH env' sz fl K l acc
 | [], acc, _ => rfl
 | (k, x) :: r, acc, hs => by
  have e := hs (k, x) agk
  simp only at e
  unfold pH
  rw [e]
  split
  ·congr 1
   funext v
   rw [BR r _ (fun p hp => hs p (aen _ hp))]
  ·rfl
theorem BS {env env' : Env} {sz : Nat} {K : List (List PV) → Prop} : ∀ (l : List (Nat × Operand)) (acc : List (List PV)), (∀ p, p ∈ l → ev env p.2 = ev env' p.2) → qS env sz K l acc = qS env' sz K l acc
 | [], acc, _ => rfl
 | (k, x) :: r, acc, hs => by
  have e := hs (k, x) agk
  simp only at e
  unfold qS
  rw [e]
  congr 1
  funext v
  rw [BS r _ (fun p hp => hs p (aen _ hp))]
theorem JY {env env' : Env} {o : Option Operand} (hs : ∀ x, o = some x → ev env x = ev env' x) : o.map (ev env) = o.map (ev env') := by
 cases o with
 | none => rfl
 | some x => simp [hs x rfl]
theorem DC {env env' : Env} {K : List (Nat × Nat) → Prop} : ∀ (l : List Operand) (acc : List (Nat × Nat)), (∀ x, x ∈ l → ev env x = ev env' x) → tM env K l acc = tM env' K l acc
 | [], _, _ => rfl
 | x :: r, acc, hs => by
  unfold tM
  rw [hs x agk]
  split
  ·exact DC r _ (fun y hy => hs y (aen _ hy))
  ·rfl
theorem xl {T : oO} {env env' : Env} {h : List aj} {K : PV → Prop} (op : Op) (hs : JX env env' op) : cm T op env h K = cm T op env' h K := by
 cases op with
 | move x => simp only [cm, hs x agl]
 | assign x => simp only [cm, hs x agl]
 | pick c a b => simp only [cm, hs c agl, hs a agl, hs b agl]
 | binOp bo t x y t' => simp only [cm, hs x agl, hs y agl]
 | unOp u t x => simp only [cm, hs x agl]
 | load t a => simp only [cm, hs a agl]
 | convert s d x => simp only [cm, hs x agl]
 | nilCheck x => simp only [cm, hs x agl]
 | fieldAddr s x k => simp only [cm, hs x agl]
 | field s x k => simp only [cm, hs x agl]
 | build t parts =>
  have e : ∀ sz fl (K : List PV → Prop) z, pH env sz fl K parts.toList z = pH env' sz fl K parts.toList z := fun sz fl K z => BR _ _ (fun p hp => hs p.2 (by simp [Op.operands]; exact ⟨p.1, by simpa using hp⟩))
  simp only [cm, e]
 | indexAddr t x i => simp only [cm, hs x agl, hs i agl]
 | index t x i => simp only [cm, hs x agl, hs i agl]
 | extract x i => simp only [cm, hs x agl]
 | lookup t x i ok => simp only [cm, hs x agl, hs i agl]
 | makeFunc fn first captured =>
  have e : ∀ (K : List (Nat × Nat) → Prop) acc, tM env K captured.toList acc = tM env' K captured.toList acc := fun K acc => DC _ _ (fun x hx => hs x (by simp [Op.operands]; right; simpa using hx))
  simp only [cm, e]
 | slice t x lo hi mx =>
  have e1 : lo.map (ev env) = lo.map (ev env') := JY (fun y hy => hs y (by subst hy; simp [Op.operands]))
  have e2 : hi.map (ev env) = hi.map (ev env') := JY (fun y hy => hs y (by subst hy; simp [Op.operands]))
  have e3 : mx.map (ev env) = mx.map (ev env') := JY (fun y hy => hs y (by subst hy; simp [Op.operands]))
  simp only [cm, hs x agl, e1, e2, e3]
 | call c =>
  obtain ⟨callee, args, ts⟩ := c
  cases callee with
  | builtin b =>
   cases b with
   | len =>
    simp only [cm]
    split
    ·rename_i x t hx ht
     have e := hs x agH
     rw [e]
    ·rfl
   | _ => rfl
  | _ => rfl
 | _ => rfl
theorem L0 {T : oO} {env : Env} {h h' : List aj} {K : PV → Prop} (op : Op) (hs : Wx h h' env op) : cm T op env h K = cm T op env h' K := by
 cases op with
 | load t a =>
  have q := hs a agl
  simp only [cm]
  revert q
  generalize ev env a = v
  intro q
  cases v with
  | aN id g i o => simp only [wL, q id (by simp [sI])]
  | _ => rfl
 | convert s d x =>
  have q := hs x agl
  simp only [cm]
  revert q
  generalize ev env x = v
  intro q
  have e : ∀ K, vB v h K = vB v h' K := fun K => by
   cases v with
   | own id g i o => simp only [vB, q id (by simp [sI])]
   | _ => rfl
  generalize T.get s = ti
  generalize T.get d = td
  cases ti with
  | slice a b c z => cases td with
   | str => simp only [e]
   | _ => rfl
  | int k => cases td <;> cases v <;> rfl
  | _ => rfl
 | nilCheck x =>
  have q := hs x agl
  simp only [cm]
  revert q
  generalize ev env x = v
  intro q
  cases v with
  | aN id g i o => simp only [q id (by simp [sI])]
  | _ => rfl
 | fieldAddr s x k =>
  have q := hs x agl
  simp only [cm]
  revert q
  generalize ev env x = v
  intro q
  cases v with
  | aN id g i o => simp only [q id (by simp [sI])]
  | _ => rfl
 | indexAddr t x i =>
  have q := hs x agl
  simp only [cm]
  revert q
  generalize ev env x = v
  generalize ev env i = u
  generalize T.get t = ti
  intro q
  cases ti with
  | slice e sz b z => cases v with
   | own id g o l => cases u with
    | int k n => simp only [q id (by simp [sI])]
    | _ => rfl
   | fM a b c => cases u <;> rfl
   | _ => rfl
  | _ => rfl
 | lookup t x i ok =>
  have q := hs x agl
  simp only [cm]
  revert q
  generalize ev env x = v
  generalize T.get t = ti
  intro q
  cases ti with
  | map k e z => cases v with
   | kN id => simp only [q id (by simp [sI])]
   | _ => rfl
  | _ => cases v <;> rfl
 | slice t x lo hi mx =>
  have q := hs x agl
  simp only [cm]
  revert q
  generalize ev env x = v
  generalize T.get t = ti
  intro q
  cases ti with
  | slice e sz b z => cases v with
   | own id g o l => simp only [q id (by simp [sI])]
   | _ => rfl
  | str => cases v <;> rfl
  | _ => rfl
 | call c =>
  obtain ⟨callee, args, ts⟩ := c
  cases callee with
  | builtin b =>
   cases b with
   | len =>
    simp only [cm]
    split
    ·rename_i x t hx ht
     have q := hs x agH
     revert q
     generalize ev env x = v
     generalize T.get t = ti
     intro q
     cases ti with
     | slice e sz b z => cases v with
      | own id g o l => simp only [q id (by simp [sI])]
      | _ => rfl
     | map k e z => cases v with
      | kN id => simp only [q id (by simp [sI])]
      | _ => rfl
     | str => cases v <;> rfl
     | _ => rfl
    ·rfl
   | _ => rfl
  | _ => rfl
 | _ => rfl
def One (F : (PV → Prop) → Prop) : Prop := ∀ K, F K → ∃ v, K v ∧ ∀ K', K' v → F K'
theorem rA (v : PV) : One (force v) := fun K h => ⟨v, bX h, fun K' hk => ju hk⟩
theorem bu (v : PV) : One (fun K => K v) := fun K h => ⟨v, h, fun _ hk => hk⟩
theorem dh {A : Prop} {F : (PV → Prop) → Prop} (h : One F) : One (fun K => A ∧ F K) := fun K hk =>
 let ⟨v, h1, h2⟩ := h K hk.2
 ⟨v, h1, fun K' uO => ⟨hk.1, h2 K' uO⟩⟩
theorem gW {b : Bool} {F : (PV → Prop) → Prop} (h : One F) : One (fun K => dM b (F K)) := fun K hk => by
 cases b with
 | true => exact h K hk
 | false => exact hk.elim
theorem uc {α : Type} {A : α → Prop} {F : α → (PV → Prop) → Prop} (h : ∀ c, One (F c)) : One (fun K => ∃ c, A c ∧ F c K) := fun K ⟨c, ha, hk⟩ =>
 let ⟨v, h1, h2⟩ := h c K hk
 ⟨v, h1, fun K' uO => ⟨c, ha, h2 K' uO⟩⟩
theorem BT {F : (PV → Prop) → Prop} (h : One F) : One (fun K => F (Hc K)) := fun K hk => by
 obtain ⟨v, h1, h2⟩ := h _ hk
 cases v with
 | fM sz n f =>
  obtain ⟨n', f', e1, e2, hK⟩ := h1
  exact ⟨.fM sz n' f', hK, fun K' uO => h2 _ ⟨n', f', e1, e2, uO⟩⟩
 | own id g off n =>
  obtain ⟨o', n', e1, e2, hK⟩ := h1
  exact ⟨.own id g o' n', hK, fun K' uO => h2 _ ⟨o', n', e1, e2, uO⟩⟩
 | str s =>
  obtain ⟨s', e1, hK⟩ := h1
  exact ⟨.str s', hK, fun K' uO => h2 _ ⟨s', e1, uO⟩⟩
 | _ => exact ⟨_, h1, fun K' uO => h2 _ uO⟩
theorem yo {K : List PV → Prop} : ∀ (n : Nat) (l acc : List PV), n ≤ l.length → K (acc.reverse ++ l.take n) → DB K n l acc
 | 0, l, acc, _, h => by unfold DB; simpa using h
 | n + 1, [], acc, hl, _ => by simp at hl
 | n + 1, c :: r, acc, hl, h => ju (yo n r (c :: acc) (by simp at hl; omega) agz)
theorem BU (T : oO) (t : Nat) (cells : List PV) : One (xY T t cells) := fun K hk => by
 unfold xY at hk ⊢
 generalize T.get t = q1 at hk ⊢
 cases q1 with
 | struct sz fl z =>
  obtain ⟨h1, h2⟩ := pG _ _ _ hk
  exact ⟨_, h2, fun K' uO => yo _ _ _ h1 uO⟩
 | other => exact hk.elim
 | _ =>
  cases cells with
  | nil => exact hk.elim
  | cons c r => exact rA c K hk
theorem L1 (T : oO) (t : Nat) (a : PV) (h : List aj) : One (wL T t a h) := fun K hk => by
 cases a with
 | fx cells => exact BU T t cells K hk
 | aN id gen i off =>
  simp only [wL] at hk ⊢
  generalize cO h id = q2 at hk ⊢
  cases q2 with
  | row g sz n e f => exact dh (uc (fun c => BU T t _)) K hk
  | dead => exact hk.elim
 | _ => exact hk.elim
theorem Ps (ti : TI) (bo : BinOp) (x y : PV) : One (Lw ti bo x y) := fun K hk => by
 cases x with
 | int k a => cases y with
  | int k' b =>
   cases bo with
   | shl => exact dh (bu _) K hk
   | shr => exact dh (bu _) K hk
   | quo => exact gW (dh (bu _)) K hk
   | rem => exact gW (dh (bu _)) K hk
   | _ => exact gW (bu _) K hk
  | _ => exact hk.elim
 | bool a => cases y with
  | bool b => cases ti with
   | bool => cases bo with
    | eql => exact bu _ K hk
    | neq => exact bu _ K hk
    | _ => exact hk.elim
   | _ => exact hk.elim
  | _ => exact hk.elim
 | str a => cases y with
  | str b => cases bo with
   | add => exact dh (uc fun c => bu _) K hk
   | eql => exact bu _ K hk
   | neq => exact bu _ K hk
   | lss => exact bu _ K hk
   | leq => exact bu _ K hk
   | gtr => exact bu _ K hk
   | geq => exact bu _ K hk
   | _ => exact hk.elim
  | _ => exact hk.elim
 | agg xs => cases y with
  | agg ys => cases ti with
   | struct sz fl z =>
    simp only [Lw] at hk ⊢
    generalize yR z = fz at hk ⊢
    cases fz with
    | false => exact hk.elim
    | true =>
     simp only [dM] at hk ⊢
     generalize C8 z xs ys = q at hk ⊢
     cases q with
     | none => exact hk.elim
     | some b => cases bo <;> first | exact hk.elim | exact uc (fun c => bu _) K hk
   | _ => exact hk.elim
  | _ => exact hk.elim
 | _ => exact hk.elim
theorem vS (x : PV) (lo hi : Option PV) : One (Bb x lo hi) := fun K hk => by
 cases x with
 | fM sz n f =>
  cases lo with
  | none => cases hi with
   | none => exact bu _ K hk
   | some u => cases u <;> first | exact hk.elim | exact dh (bu _) K hk
  | some l => cases l with
   | int k l => cases hi with
    | none => exact dh (bu _) K hk
    | some u => cases u <;> first | exact hk.elim | exact dh (bu _) K hk
   | _ => cases hi <;> exact hk.elim
 | own id gen off len =>
  cases lo with
  | none => cases hi with
   | none => exact bu _ K hk
   | some u => cases u <;> first | exact hk.elim | exact dh (bu _) K hk
  | some l => cases l with
   | int k l => cases hi with
    | none => exact dh (bu _) K hk
    | some u => cases u <;> first | exact hk.elim | exact dh (bu _) K hk
   | _ => cases hi <;> exact hk.elim
 | str s =>
  cases lo with
  | none => cases hi with
   | none => exact bu _ K hk
   | some u => cases u <;> first | exact hk.elim | exact dh (bu _) K hk
  | some l => cases l with
   | int k l => cases hi with
    | none => exact dh (bu _) K hk
    | some u => cases u <;> first | exact hk.elim | exact dh (bu _) K hk
   | _ => cases hi <;> exact hk.elim
 | _ => exact hk.elim
theorem JZ (v : PV) (h : List aj) : One (fun K => vB v h (fun s => K (.str s))) := fun K hk => by
 cases v with
 | aO => exact bu _ K hk
 | fM sz n f => exact gW (uc fun s => dh (bu _)) K hk
 | own id gen off n =>
  simp only [vB] at hk ⊢
  generalize cO h id = q3 at hk ⊢
  cases q3 with
  | row g sz n e f => exact dh (gW (uc fun s => dh (bu _))) K hk
  | dead => exact hk.elim
 | _ => exact hk.elim
theorem BV (env : Env) (sz : Nat) (fl : List (Nat × Nat × Bool)) : ∀ (l : List (Nat × Operand)) (acc : List PV), One (fun K => pH env sz fl (fun cs => K (.agg cs)) l acc)
 | [], acc => bu _
 | (k, x) :: r, acc => fun K hk => by
  unfold pH at hk ⊢
  generalize fl[k]? = q4 at hk ⊢
  cases q4 with
  | none => exact hk.elim
  | some p =>
   obtain ⟨o, size, b⟩ := p
   have h1 := bX hk
   obtain ⟨v, h2, h3⟩ := gW (BV env sz fl r _) K h1
   exact ⟨v, h2, fun K' uO => ju (h3 K' uO)⟩
theorem DD {env : Env} (f : Nat) : ∀ (l : List Operand) (acc : List (Nat × Nat)), One (fun K => tM env (fun bN => K (.om f bN)) l acc)
 | [], _ => bu _
 | x :: r, acc => fun K hk => by
  unfold tM at hk ⊢
  generalize ev env x = v at hk ⊢
  split at hk
  ·exact DD f r _ K hk
  ·exact hk.elim
theorem Pt (ti : TI) (n : Nat) (f : Nat → List PV) (kv zv : PV) (ok : Bool) : One (fun K => dM (ky ti kv kv).isSome (∃ r b, OH ti f n kv zv r b ∧ match ok with
  | true => K (.dG [r, .bool b])
  | false => force r K)) := gW (fun K hk => by
 obtain ⟨r, b, hm, hK⟩ := hk
 cases ok with
 | true => exact ⟨_, hK, fun K' uO => ⟨r, b, hm, uO⟩⟩
 | false => exact ⟨_, bX hK, fun K' uO => ⟨r, b, hm, ju uO⟩⟩)
theorem HP (T : oO) (op : Op) (env : Env) (h : List aj) : One (cm T op env h) := fun K hk => by
 cases op with
 | move x => exact rA _ K hk
 | assign x => exact rA _ K hk
 | pick c a b =>
  simp only [cm] at hk ⊢
  generalize ev env c = v at hk ⊢
  cases v with
  | bool t =>
   obtain ⟨h1, h2⟩ := kz hk
   cases t with
   | true => exact ⟨_, bX (h1 rfl), fun K' uO => .mk (fun _ => ju uO) (fun h => by cases h)⟩
   | false => exact ⟨_, bX (h2 rfl), fun K' uO => .mk (fun h => by cases h) (fun _ => ju uO)⟩
  | _ => exact hk.elim
 | binOp bo t x y t' => exact Ps _ _ _ _ K hk
 | unOp u t x =>
  simp only [cm] at hk ⊢
  generalize ev env x = v at hk ⊢
  cases u <;> cases v <;> first | exact hk.elim | exact bu _ K hk
 | load t a => exact L1 _ _ _ _ K hk
 | convert s d x =>
  simp only [cm] at hk ⊢
  generalize ev env x = v at hk ⊢
  generalize T.get s = ti at hk ⊢
  generalize T.get d = td at hk ⊢
  cases ti with
  | int k => cases td with
   | int k' => cases v <;> first | exact hk.elim | exact bu _ K hk
   | _ => cases v <;> exact hk.elim
  | slice e sz b z => cases td with
   | str =>
    simp only at hk ⊢
    generalize T.get e = q5 at hk ⊢
    cases q5 with
    | int k => cases k <;> first | exact hk.elim | exact JZ _ _ K hk
    | _ => exact hk.elim
   | _ => cases v <;> exact hk.elim
  | _ => cases td <;> cases v <;> exact hk.elim
 | nilCheck x =>
  simp only [cm] at hk ⊢
  generalize ev env x = v at hk ⊢
  cases v with
  | fx cs => exact bu _ K hk
  | aN id gen i off =>
   simp only at hk ⊢
   generalize cO h id = q6 at hk ⊢
   cases q6 with
   | row g sz n e f => exact dh (bu _) K hk
   | dead => exact hk.elim
  | _ => exact hk.elim
 | fieldAddr s x k =>
  simp only [cm] at hk ⊢
  generalize ev env x = v at hk ⊢
  generalize T.get s = q7 at hk ⊢
  cases q7 with
  | struct sz fl z =>
   simp only at hk ⊢
   generalize fl[k]? = q8 at hk ⊢
   cases q8 with
   | none => exact hk.elim
   | some p =>
    obtain ⟨o, a, b⟩ := p
    cases v with
    | fx cs => exact bu _ K hk
    | aN id gen i off =>
     simp only at hk ⊢
     generalize cO h id = q9 at hk ⊢
     cases q9 with
     | row g sz n e f => exact dh (bu _) K hk
     | dead => exact hk.elim
    | _ => exact hk.elim
  | _ => exact hk.elim
 | field s x k =>
  simp only [cm] at hk ⊢
  generalize ev env x = v at hk ⊢
  generalize T.get s = q7 at hk ⊢
  cases q7 with
  | struct sz fl z =>
   simp only at hk ⊢
   generalize fl[k]? = q8 at hk ⊢
   cases q8 with
   | none => exact hk.elim
   | some p =>
    obtain ⟨o, a, b⟩ := p
    cases v with
    | agg cs =>
     cases b with
     | true =>
      obtain ⟨h1, h2⟩ := pG _ _ _ hk
      exact ⟨_, h2, fun K' uO => yo _ _ _ h1 uO⟩
     | false =>
      simp only at hk ⊢
      generalize cs.drop o = q9 at hk ⊢
      cases q9 with
      | nil => exact hk.elim
      | cons c r => exact rA c K hk
    | _ => exact hk.elim
  | _ => exact hk.elim
 | build t parts =>
  simp only [cm] at hk ⊢
  generalize T.get t = q10 at hk ⊢
  cases q10 with
  | struct sz fl z => exact BV _ _ _ _ _ K hk
  | _ => exact hk.elim
 | indexAddr t x i =>
  simp only [cm] at hk ⊢
  generalize ev env x = v at hk ⊢
  generalize ev env i = u at hk ⊢
  generalize T.get t = q11 at hk ⊢
  cases q11 with
  | slice e sz b z => cases v with
   | fM bV n f => cases u <;> first | exact hk.elim | exact gW (dh (uc fun c => bu _)) K hk
   | own id gen off len => cases u with
    | int k n =>
     simp only at hk ⊢
     generalize cO h id = q12 at hk ⊢
     cases q12 with
     | row g sz n e f => exact dh (gW (dh (uc fun j => bu _))) K hk
     | dead => exact hk.elim
    | _ => exact hk.elim
   | _ => cases u <;> exact hk.elim
  | _ => cases v <;> cases u <;> exact hk.elim
 | index t x i =>
  simp only [cm] at hk ⊢
  generalize ev env x = v at hk ⊢
  generalize ev env i = u at hk ⊢
  generalize T.get t = q13 at hk ⊢
  cases q13 with
  | str => cases v with
   | str s => cases u <;> first | exact hk.elim | exact dh (uc fun c => bu _) K hk
   | _ => cases u <;> exact hk.elim
  | _ => cases v <;> cases u <;> exact hk.elim
 | extract x i =>
  simp only [cm] at hk ⊢
  generalize ev env x = v at hk ⊢
  cases v with
  | dG vs =>
   simp only at hk ⊢
   generalize vs[i]? = q14 at hk ⊢
   cases q14 with
   | none => exact hk.elim
   | some u => exact rA _ K hk
  | _ => exact hk.elim
 | makeFunc fn first captured =>
  cases fn with
  | func f => exact gW (DD f _ _) K hk
  | _ => exact hk.elim
 | lookup t x i ok =>
  simp only [cm] at hk ⊢
  generalize ev env x = v at hk ⊢
  generalize T.get t = q19 at hk ⊢
  cases q19 with
  | map kt et zv => cases v with
   | kN id =>
    simp only at hk ⊢
    generalize cO h id = q20 at hk ⊢
    cases q20 with
    | row g sz n e f =>
     obtain ⟨u, h2, h3⟩ := Pt (T.get kt) n f (ev env i) zv ok K (bX hk)
     exact ⟨u, h2, fun K' uO => ju (h3 K' uO)⟩
    | dead => exact hk.elim
   | _ => exact hk.elim
  | _ => cases v <;> exact hk.elim
 | slice t x lo hi mx =>
  simp only [cm] at hk ⊢
  generalize ev env x = v at hk ⊢
  generalize T.get t = q15 at hk ⊢
  cases q15 with
  | slice e sz b z => cases v with
   | fM bV n f => exact gW (dh (BT (vS _ _ _))) K hk
   | own id gen off len =>
    simp only at hk ⊢
    generalize cO h id = q16 at hk ⊢
    cases q16 with
    | row g sz n e f => exact dh (gW (dh (BT (vS _ _ _)))) K hk
    | dead => exact hk.elim
   | _ => exact hk.elim
  | str => cases v with
   | str s => exact gW (BT (vS _ _ _)) K hk
   | _ => exact hk.elim
  | _ => cases v <;> exact hk.elim
 | call c =>
  obtain ⟨callee, args, ts⟩ := c
  cases callee with
  | builtin b =>
   cases b with
   | len =>
    simp only [cm] at hk ⊢
    split at hk
    ·rename_i x t hx ht
     generalize ev env x = v at hk ⊢
     generalize T.get t = q17 at hk ⊢
     cases q17 with
     | slice e sz b z => cases v with
      | fM a n f => exact bu _ K hk
      | aO => exact bu _ K hk
      | own id gen off n =>
       simp only at hk ⊢
       generalize cO h id = q18 at hk ⊢
       cases q18 with
       | row g sz n e f => exact dh (bu _) K hk
       | dead => exact hk.elim
      | _ => exact hk.elim
     | str => cases v <;> first | exact hk.elim | exact bu _ K hk
     | map kt et zv => cases v with
      | kN id =>
       simp only at hk ⊢
       generalize cO h id = q18 at hk ⊢
       cases q18 with
       | row g sz n e f => exact bu _ K hk
       | dead => exact hk.elim
      | _ => exact hk.elim
     | _ => cases v <;> exact hk.elim
    ·exact hk.elim
   | _ => exact hk.elim
  | _ => exact hk.elim
 | _ => exact hk.elim
theorem pR {v : PV} {K K' : PV → Prop} (hk : ∀ v, K v → K' v) (h : force v K) : force v K' := ju (hk _ (bX h))
theorem eG {b : Bool} {K K' : Prop} (hk : K → K') (h : dM b K) : dM b K' := by cases b; exact h; exact hk h
theorem zb {env : Env} {sz : Nat} {K K' : List (List PV) → Prop} (hk : ∀ l, K l → K' l) : ∀ (l : List (Nat × Operand)) (acc : List (List PV)), qS env sz K l acc → qS env sz K' l acc
 | [], acc, h => hk _ h
 | (k, x) :: r, acc, h => pR (fun v h => eG (zb hk r _) h) h
theorem yp {x : PV} {h : List aj} {sz : Nat} {K K' : Nat → (Nat → List PV) → Prop} (hk : ∀ n g, K n g → K' n g) (hp : HA x h sz K) : HA x h sz K' := by
 cases x with
 | aO => exact hk _ _ hp
 | fM bV m g => exact eG (hk _ _) hp
 | own id gen off m =>
  simp only [HA] at hp ⊢
  generalize cO h id = q at hp ⊢
  cases q with
  | row g bV n e f => exact ⟨hp.1, hp.2.1, eG (hk _ _) hp.2.2⟩
  | dead => exact hp
 | str s => exact eG (hk _ _) hp
 | _ => exact hp
theorem Fu {e sz bytes : Nat} {s x : PV} {h : List aj} {K K' : PV → List aj → Prop} (hk : ∀ v h', K v h' → K' v h') (hp : qz e sz bytes s x h K) : qz e sz bytes s x h K' := by
 cases s with
 | aO =>
  simp only [qz] at hp ⊢
  exact yp (fun m g ⟨h, n', f', e1, e2, h2⟩ => ⟨h, n', f', e1, e2, hk _ _ h2⟩) hp
 | own id gen off len =>
  simp only [qz] at hp ⊢
  generalize cO h id = q at hp ⊢
  cases q with
  | row g bV n e' f => exact ⟨hp.1, eG (yp (fun m g ⟨h, n', f', e1, e2, h2⟩ => ⟨h, n', f', e1, e2, hk _ _ h2⟩)) hp.2⟩
  | dead => exact hp
 | _ => exact hp
theorem J0 {e sz : Nat} {s x : PV} {h : List aj} {K K' : PV → List aj → Prop} (hk : ∀ v h', K v h' → K' v h') (hp : BA e sz s x h K) : BA e sz s x h K' := by
 cases s with
 | own id gen off len =>
  simp only [BA] at hp ⊢
  generalize cO h id = q at hp ⊢
  cases q with
  | row g bV n e' f => exact ⟨hp.1, eG (yp (fun m g ⟨h, f', e2, h2⟩ => ⟨h, f', e2, hk _ _ h2⟩)) hp.2⟩
  | dead => exact hp
 | _ => exact hp
theorem rB {T : oO} {op : Op} {env : Env} {h : List aj} {K K' : PV → Prop} (hk : ∀ v, K v → K' v) (hp : cm T op env h K) : cm T op env h K' :=
 let ⟨v, h1, h2⟩ := HP T op env h K hp
 h2 K' (hk v h1)
theorem Pu {P : Program} {T : oO} {env : Env} {h : List aj} {K K' : PV → List aj → Prop} (hk : ∀ v h', K v h' → K' v h') (op : Op) (hp : pop P T op env h K) : pop P T op env h K' := by
 cases op with
 | store t a x =>
  simp only [pop] at hp ⊢
  generalize ev env a = v at hp ⊢
  cases v with
  | aN id gen i off =>
   simp only at hp ⊢
   generalize cO h id = q at hp ⊢
   cases q with
   | row g sz n e f => exact ⟨hp.1, pR (fun v h => eG (fun ⟨c, f', e1, e2, h2⟩ => ⟨c, f', e1, e2, hk _ _ h2⟩) h) hp.2⟩
   | dead => exact hp
  | _ => exact hp
 | box t x =>
  simp only [pop] at hp ⊢
  exact pR (fun v h => eG (hk _ _) h) hp
 | alloc t =>
  simp only [pop] at hp ⊢
  generalize A3 (T.get t) = q at hp ⊢
  cases q <;> first | exact hp | exact hk _ _ hp
 | makeSlice t l c =>
  simp only [pop] at hp ⊢
  generalize T.get t = q at hp ⊢
  generalize ev env l = u at hp ⊢
  generalize ev env c = v at hp ⊢
  cases q with
  | slice e sz b z => cases u with
   | int k n => cases v with
    | int k' m => (obtain ⟨h, n', f', e1, e2, h2⟩ := hp; exact ⟨h, n', f', e1, e2, hk _ _ h2⟩)
    | _ => exact hp
   | _ => cases v <;> exact hp
  | _ => cases u <;> cases v <;> exact hp
 | buildSlice t len parts =>
  simp only [pop] at hp ⊢
  generalize T.get t = q at hp ⊢
  cases q with
  | slice e sz b z => exact eG (zb (fun _ ⟨f', e1, h2⟩ => ⟨f', e1, hk _ _ h2⟩) _ _) hp
  | _ => exact hp
 | convert s d x =>
  simp only [pop] at hp ⊢
  split at hp
  ·split at hp
   ·exact let ⟨f', e1, h2⟩ := hp; ⟨f', e1, hk _ _ h2⟩
   ·exact hp
  ·exact rB (fun v => hk v h) hp
 | binOp bo t x y ty =>
  simp only [pop] at hp ⊢
  split at hp
  ·exact ⟨fun h0 => hk _ _ (hp.1 h0), hk _ _ hp.2⟩
  ·exact rB (fun v => hk v h) hp
 | makeMap t r =>
  cases r with
  | none =>
   simp only [pop] at hp ⊢
   generalize T.get t = q at hp ⊢
   cases q with
   | map k e z => exact let ⟨f', h2⟩ := hp; ⟨f', hk _ _ h2⟩
   | _ => exact hp
  | some r => exact hp
 | mapUpdate t m k x =>
  simp only [pop] at hp ⊢
  generalize T.get t = q at hp ⊢
  generalize ev env m = v at hp ⊢
  cases q with
  | map kt et z => cases v with
   | kN id =>
    simp only at hp ⊢
    generalize cO h id = q2 at hp ⊢
    cases q2 with
    | row g sz n e f => exact pR (fun kv h => pR (fun vv h => eG (fun ⟨n', f', e1, h2⟩ => ⟨n', f', e1, hk _ _ h2⟩) h) h) hp
    | dead => exact hp
   | _ => exact hp
  | _ => cases v <;> exact hp
 | call c =>
  obtain ⟨callee, args, ts⟩ := c
  cases callee with
  | value fo =>
   simp only [pop] at hp ⊢
   generalize ev env fo = v at hp ⊢
   cases v with
   | fn f => exact eG (fun ⟨R, h1, h2⟩ => ⟨R, h1, fun res h' hr => hk _ _ (h2 res h' hr)⟩) hp
   | om f bN => exact eG (fun ⟨R, h1, h2⟩ => ⟨R, h1, fun res h' hr => hk _ _ (h2 res h' hr)⟩) hp
   | _ => exact hp
  | builtin b =>
   cases b with
   | append =>
    simp only [pop] at hp ⊢
    split at hp
    ·rename_i s x t tx ha ht
     generalize T.get t = q at hp ⊢
     generalize T.get tx = qx at hp ⊢
     cases q with
     | slice e sz b z => cases qx <;> first | exact hp | exact Fu hk hp
     | _ => cases qx <;> exact hp
    ·exact hp
   | copy =>
    simp only [pop] at hp ⊢
    split at hp
    ·rename_i s x t tx ha ht
     generalize T.get t = q at hp ⊢
     generalize T.get tx = qx at hp ⊢
     cases q with
     | slice e sz b z => cases qx <;> first | exact hp | exact J0 hk hp
     | _ => cases qx <;> exact hp
    ·exact hp
   | len => (simp only [pop] at hp ⊢; exact rB (fun v => hk v h) hp)
   | _ => exact hp
  | _ => exact hp
 | _ => (simp only [pop] at hp ⊢; exact rB (fun v => hk v h) hp)
theorem Pv {env env' : Env} {args : Array Operand} (hs : ∀ x, x ∈ args.toList → ev env x = ev env' x) : args.toList.map (ev env) = args.toList.map (ev env') :=
 List.map_congr_left hs
theorem RK {env env' : Env} {l : List Operand} (hs : ∀ x, x ∈ l → ev env x = ev env' x) : l.all (fun x => lF (ev env x)) = l.all (fun x => lF (ev env' x)) := by
 induction l with
 | nil => rfl
 | cons a r ih => simp only [afc, hs a agk, ih (fun x hx => hs x (aen _ hx))]
theorem RL {P : Program} {T : oO} {env env' : Env} {h : List aj} {K : PV → List aj → Prop} (op : Op) (hs : JX env env' op) : pop P T op env h K = pop P T op env' h K := by
 cases op with
 | store t a x => simp only [pop, hs a agl, hs x agl]
 | box t x => simp only [pop, hs x agl]
 | alloc t => rfl
 | makeSlice t l c => simp only [pop, hs l agl, hs c agl]
 | buildSlice t len parts =>
  have e : ∀ sz (K : List (List PV) → Prop) z, qS env sz K parts.toList z = qS env' sz K parts.toList z := fun sz K z => BS _ _ (fun p hp => hs p.2 (by simp [Op.operands]; exact ⟨p.1, by simpa using hp⟩))
  simp only [pop, e]
 | convert s d x => simp only [pop, cm, hs x agl]
 | binOp bo t x y ty => simp only [pop, cm, hs x agl, hs y agl]
 | makeMap t r => cases r <;> rfl
 | mapUpdate t m k x => simp only [pop, hs m agl, hs k agl, hs x agl]
 | call c =>
  obtain ⟨callee, args, ts⟩ := c
  cases callee with
  | value fo =>
   have e0 := hs fo (by simp [Op.operands, Call.operands])
   have e1 : ∀ x, x ∈ args.toList → ev env x = ev env' x := fun x hx => hs x (by simp [Op.operands, Call.operands]; right; simpa using hx)
   simp only [pop, e0, Pv e1, RK e1]
  | builtin b =>
   have e1 : ∀ x, x ∈ args.toList → ev env x = ev env' x := fun x hx => hs x (by simp [Op.operands, Call.operands]; simpa using hx)
   cases b with
   | append =>
    simp only [pop]
    split
    ·rename_i s x t tx ha ht
     rw [e1 s (by rw [ha]; simp), e1 x (by rw [ha]; simp)]
    ·rfl
   | copy =>
    simp only [pop]
    split
    ·rename_i s x t tx ha ht
     rw [e1 s (by rw [ha]; simp), e1 x (by rw [ha]; simp)]
    ·rfl
   | len => (simp only [pop]; exact xl _ hs)
   | _ => rfl
  | _ => rfl
 | _ => (simp only [pop]; exact xl _ hs)
section
variable {P : Program} {T : oO}
def fs (P : Program) (T : oO) (all : List Oper) (st : Bool) (o : Oper) (G : PV → List aj → Prop) (env : Env) (h : List aj) : Prop :=
 match o.guard with
 | none => CN P T st o.op env h G
 | some (j, want) => match (all[j]?).bind (·.dst) with
  | some t => match env t with
   | .bool b => match b == want with
    | true => CN P T st o.op env h G
    | false => G (.dG []) h
   | .dG [] => G (.dG []) h
   | _ => False
  | none => False
theorem zY {env : Env} {t : Nat} {v : PV} (h : env t = v) : qb env t v = env := by
 funext j
 unfold qb
 cases hb : Nat.beq j t with
 | true => rw [Is hb, ← h]; rfl
 | false => rfl
theorem DE {st : Bool} {op : Op} {env : Env} {h : List aj} {G G' : PV → List aj → Prop} (hk : ∀ v h', G v h' → G' v h') (hp : CN P T st op env h G) : CN P T st op env h G' := by
 cases st with
 | true => exact rB (fun v => hk v h) hp
 | false => exact Pu hk _ hp
theorem du {all : List Oper} {st : Bool} {o : Oper} {env : Env} {h : List aj} {G G' : PV → List aj → Prop} (hk : ∀ v h', G v h' → G' v h') (hp : fs P T all st o G env h) : fs P T all st o G' env h := by
 unfold fs at hp ⊢
 generalize o.guard = g at hp ⊢
 cases g with
 | none => exact DE hk hp
 | some q =>
  obtain ⟨j, want⟩ := q
  simp only at hp ⊢
  generalize (all[j]?).bind (·.dst) = d at hp ⊢
  cases d with
  | none => exact hp
  | some t =>
   simp only at hp ⊢
   generalize env t = v at hp ⊢
   cases v with
   | bool b =>
    simp only at hp ⊢
    generalize (b == want) = c at hp ⊢
    cases c with
    | true => exact DE hk hp
    | false => exact hk _ _ hp
   | dG l => cases l with
    | nil => exact hk _ _ hp
    | cons a r => exact hp
   | _ => exact hp
theorem lS {all : List Oper} {st : Bool} {o : Oper} {F : Env → PV → List aj → Prop} {env : Env} {h : List aj} (hp : qC P T all st o F env h) : fs P T all st o (F env) env h := by
 unfold qC at hp
 unfold fs
 generalize o.guard = g at hp ⊢
 cases g with
 | none => exact hp
 | some q =>
  obtain ⟨j, want⟩ := q
  simp only at hp ⊢
  generalize (all[j]?).bind (·.dst) = d at hp ⊢
  cases d with
  | none => exact hp
  | some t =>
   simp only at hp ⊢
   generalize hv : env t = v at hp ⊢
   cases v with
   | bool b =>
    simp only at hp ⊢
    obtain ⟨h1, h2⟩ := kz hp
    cases b with
    | true =>
     have h1 := h1 rfl
     rw [zY hv] at h1
     cases want <;> exact h1
    | false =>
     have h2 := h2 rfl
     rw [zY hv] at h2
     cases want <;> exact h2
   | dG l => cases l with
    | nil => exact hp
    | cons a r => exact hp
   | _ => exact hp
theorem uD {env env' : Env} {o : Oper} {ops : Array Oper} (hl : ∀ t, t ∈ o.looksAt ops → env t = env' t) : JX env env' o.op := fun x hx => by
 cases x with
 | tmp t => exact hl t (by unfold Oper.looksAt; rw [aeh]; left; rw [List.mem_filterMap]; exact ⟨_, hx, rfl⟩)
 | _ => rfl
theorem sr {env env' : Env} {o : Oper} {ops : Array Oper} (hl : ∀ t, t ∈ o.looksAt ops → env t = env' t) {j : Nat} {w : Bool} (hg : o.guard = some (j, w)) {t : Nat} (ht : (ops.toList[j]?).bind (·.dst) = some t) : env t = env' t :=
 hl t (by
  unfold Oper.looksAt
  rw [aeh, hg]
  right
  have : ops.toList[j]? = ops[j]? := by simp
  rw [this] at ht
  show t ∈ ((ops[j]?).bind (·.dst)).toList
  rw [ht]
  simp)
theorem J1 {ops : Array Oper} {st : Bool} {o : Oper} {G : PV → List aj → Prop} {env env' : Env} {h : List aj} (hl : ∀ t, t ∈ o.looksAt ops → env t = env' t) (hp : fs P T ops.toList st o G env h) : fs P T ops.toList st o G env' h := by
 have hr : CN P T st o.op env h G = CN P T st o.op env' h G := by
  cases st with
  | true => exact xl _ (uD hl)
  | false => exact RL _ (uD hl)
 unfold fs at hp ⊢
 cases hg : o.guard with
 | none => rw [hg] at hp; simp only at hp ⊢; rw [← hr]; exact hp
 | some q =>
  obtain ⟨j, want⟩ := q
  rw [hg] at hp
  simp only at hp ⊢
  cases hd : (ops.toList[j]?).bind (·.dst) with
  | none => rw [hd] at hp; exact hp
  | some t =>
   rw [hd] at hp
   simp only at hp ⊢
   rw [← sr hl hg hd, ← hr]
   exact hp
theorem xm {α β : Type} {f g : α → List β} : ∀ (l : List α), (∀ x, x ∈ l → f x = g x) → l.flatMap f = l.flatMap g
 | [], _ => rfl
 | a :: r, h => by rw [List.flatMap_cons, List.flatMap_cons, h a agk, xm r (fun x hx => h x (aen _ hx))]
theorem BW (env : Env) (op : Op) : (∃ x, op = .move x) ∨ j9 env op = op.operands.toList.flatMap (fun x => sI (ev env x)) := by
 cases op <;> first | exact .inl ⟨_, rfl⟩ | exact .inr rfl
theorem J2 {T : oO} {env : Env} {h h' : List aj} {K : PV → Prop} {op : Op} (hi : ∀ id, id ∈ j9 env op → cO h id = cO h' id) : cm T op env h K = cm T op env h' K := by
 rcases BW env op with ⟨x, rfl⟩ | e
 ·rfl
 ·exact L0 op (fun x hx id hid => hi id (by rw [e, List.mem_flatMap]; exact ⟨x, hx, hid⟩))
theorem vT {env env' : Env} {op : Op} (hs : ∀ x, x ∈ op.operands.toList → ev env x = ev env' x) : j9 env' op = j9 env op := by
 rcases BW env op with ⟨x, rfl⟩ | e
 ·rfl
 ·rcases BW env' op with ⟨x, rfl⟩ | e'
  ·rfl
  ·rw [e, e']
   exact xm _ (fun x hx => by rw [hs x hx])
theorem yq {ops : Array Oper} {o : Oper} {G : PV → List aj → Prop} {env : Env} {h : List aj} (hp : fs P T ops.toList true o G env h) :
  ∃ v, G v h ∧ ∀ (env' : Env) (h' : List aj) (G' : PV → List aj → Prop), (∀ t, t ∈ o.looksAt ops → env t = env' t) → (∀ id, id ∈ j9 env o.op → cO h id = cO h' id) → G' v h' → fs P T ops.toList true o G' env' h' := by
 have run : cm T o.op env h (fun v => G v h) → ∃ v, G v h ∧ ∀ (env' : Env) (h' : List aj) (G' : PV → List aj → Prop), (∀ t, t ∈ o.looksAt ops → env t = env' t) → (∀ id, id ∈ j9 env o.op → cO h id = cO h' id) → G' v h' → cm T o.op env' h' (fun v => G' v h') := fun hs => by
  obtain ⟨v, h1, h2⟩ := HP T o.op env h _ hs
  refine ⟨v, h1, fun env' h' G' hl hi hg => ?_⟩
  rw [← xl o.op (uD hl), ← J2 (op := o.op) hi]
  exact h2 _ hg
 unfold fs at hp
 cases hg : o.guard with
 | none =>
  rw [hg] at hp
  obtain ⟨v, h1, h2⟩ := run hp
  refine ⟨v, h1, fun env' h' G' hl hi hk => ?_⟩
  unfold fs
  rw [hg]
  exact h2 env' h' G' hl hi hk
 | some q =>
  obtain ⟨j, want⟩ := q
  rw [hg] at hp
  simp only at hp
  cases hd : (ops.toList[j]?).bind (·.dst) with
  | none => rw [hd] at hp; exact hp.elim
  | some t =>
   rw [hd] at hp
   simp only at hp
   cases hv : env t with
   | bool b =>
    rw [hv] at hp
    simp only at hp
    cases hc : (b == want) with
    | true =>
     rw [hc] at hp
     obtain ⟨v, h1, h2⟩ := run hp
     refine ⟨v, h1, fun env' h' G' hl hi hk => ?_⟩
     unfold fs
     rw [hg]; simp only; rw [hd]; simp only; rw [← sr hl hg hd, hv]; simp only; rw [hc]
     exact h2 env' h' G' hl hi hk
    | false =>
     rw [hc] at hp
     refine ⟨_, hp, fun env' h' G' hl hi hk => ?_⟩
     unfold fs
     rw [hg]; simp only; rw [hd]; simp only; rw [← sr hl hg hd, hv]; simp only; rw [hc]
     exact hk
   | dG l =>
    rw [hv] at hp
    cases l with
    | nil =>
     refine ⟨_, hp, fun env' h' G' hl hi hk => ?_⟩
     unfold fs
     rw [hg]; simp only; rw [hd]; simp only; rw [← sr hl hg hd, hv]
     exact hk
    | cons a r => exact hp.elim
   | _ => rw [hv] at hp; exact hp.elim
def CO (P : Program) (T : oO) (all : List Oper) (t : List (Nat × List Nat)) (K : Env → List aj → Prop) : List (Nat × Bool) → List (Nat × List Nat) → Env → List aj → Prop
 | [], _, env, h => K env h
 | (i, st) :: r, bI, env, h => ∃ o, all[i]? = some o ∧ fs P T all st o (fun v h' => match st with
   | true => CO P T all t K r ((i, j9 env o.op) :: bI) (dx env o.dst v) h'
   | false => (∀ j ids, (j, ids) ∈ bI → kb (dc t i) j = false → ∀ id, id ∈ ids → cO h id = cO h' id) ∧ CO P T all t K r bI (dx env o.dst v) h') env h
theorem xn {h h' : List aj} {K : Prop} : ∀ (ids : List Nat), Ft h h' K ids → (∀ id, id ∈ ids → cO h id = cO h' id) ∧ K
 | [], hk => ⟨fun id hid => by simp at hid, hk⟩
 | a :: r, hk => by
  obtain ⟨h1, h2⟩ := xn r hk.2
  refine ⟨fun id hid => ?_, h2⟩
  simp only [aej] at hid
  rcases hid with rfl | hid
  ·exact hk.1
  ·exact h1 id hid
theorem mN {Ww : List Nat} {h h' : List aj} {K : Prop} : ∀ (bI : List (Nat × List Nat)), ns Ww h h' K bI → (∀ j ids, (j, ids) ∈ bI → kb Ww j = false → ∀ id, id ∈ ids → cO h id = cO h' id) ∧ K
 | [], hk => ⟨fun j ids hj => by simp at hj, hk⟩
 | (a, l) :: r, hk => by
  unfold ns at hk
  cases ha : kb Ww a with
  | true =>
   rw [ha] at hk
   obtain ⟨h1, h2⟩ := mN r hk
   refine ⟨fun j ids hj hn => ?_, h2⟩
   simp only [aej] at hj
   rcases hj with hj | hj
   ·injection hj with e1 e2; subst e1; rw [ha] at hn; cases hn
   ·exact h1 j ids hj hn
  | false =>
   rw [ha] at hk
   obtain ⟨q1, q2⟩ := xn l hk
   obtain ⟨h1, h2⟩ := mN r q2
   refine ⟨fun j ids hj hn => ?_, h2⟩
   simp only [aej] at hj
   rcases hj with hj | hj
   ·injection hj with e1 e2; subst e2; exact q1
   ·exact h1 j ids hj hn
theorem lR {all : List Oper} {t : List (Nat × List Nat)} {K : Env → List aj → Prop} : ∀ (l : List (Nat × Bool)) (bI : List (Nat × List Nat)) (env : Env) (h : List aj), fw P T all t K l bI env h → CO P T all t K l bI env h
 | [], _, _, _, hp => hp
 | (i, true) :: r, bI, env, h, hp => by
  have hp : (match all[i]? with
   | some o => qC P T all true o (fun env' v h' => fw P T all t K r ((i, j9 env' o.op) :: bI) (dx env' o.dst v) h') env h
   | none => False) := hp
  cases ho : all[i]? with
  | none => rw [ho] at hp; exact hp.elim
  | some o =>
   rw [ho] at hp
   exact ⟨o, ho, du (fun v h' hk => lR r _ _ _ hk) (lS hp)⟩
 | (i, false) :: r, bI, env, h, hp => by
  have hp : (match all[i]? with
   | some o => qC P T all false o (fun env' v h' => ns (dc t i) h h' (fw P T all t K r bI (dx env' o.dst v) h') bI) env h
   | none => False) := hp
  cases ho : all[i]? with
  | none => rw [ho] at hp; exact hp.elim
  | some o =>
   rw [ho] at hp
   refine ⟨o, ho, du (fun v h' hk => ?_) (lS hp)⟩
   obtain ⟨h1, h2⟩ := mN _ hk
   exact ⟨h1, lR r _ _ _ h2⟩
theorem rC {all : List Oper} {t : List (Nat × List Nat)} {K : Env → List aj → Prop} : ∀ (l : List (Nat × Bool)) (bI nV : List (Nat × List Nat)) (env : Env) (h : List aj), (∀ x, x ∈ nV → x ∈ bI) → CO P T all t K l bI env h → CO P T all t K l nV env h
 | [], _, _, _, _, _, hp => hp
 | (i, st) :: r, bI, nV, env, h, hs, hp => by
  obtain ⟨o, ho, hp⟩ := hp
  refine ⟨o, ho, du (fun v h' hk => ?_) hp⟩
  cases st with
  | true => exact rC r _ _ _ _ (fun x hx => by simp only [aej] at hx ⊢; exact hx.imp id (hs x)) hk
  | false => exact ⟨fun j ids hj => hk.1 j ids (hs _ hj), rC r _ _ _ _ hs hk.2⟩
theorem yr {env : Env} {d e : Option Nat} {u v : PV} (rZ : ∀ x, d = some x → e ≠ some x) : dx (dx env d u) e v = dx (dx env e v) d u := by
 cases d with
 | none => rfl
 | some x =>
  cases e with
  | none => rfl
  | some y =>
   have hxy : x ≠ y := fun he => rZ x rfl (by rw [he])
   funext j
   simp only [dx, qb]
   cases h1 : Nat.beq j y with
   | true =>
    have := Is h1
    subst this
    cases h2 : Nat.beq j x with
    | true => exact absurd (Is h2).symm hxy
    | false => rfl
   | false => cases h2 : Nat.beq j x <;> rfl
theorem oQ {env : Env} {d : Option Nat} {v : PV} {l : List Nat} (hn : ∀ x, d = some x → x ∉ l) : ∀ t, t ∈ l → env t = dx env d v t := fun t ht => by
 cases d with
 | none => rfl
 | some x =>
  have : t ≠ x := fun he => hn x rfl (he ▸ ht)
  simp only [dx, qb]
  cases h2 : Nat.beq t x with
  | true => exact absurd (Is h2) this
  | false => rfl
theorem xj {ops : Array Oper} {t : List (Nat × List Nat)} {K : Env → List aj → Prop} {i : Nat} {st : Bool} {oi : Oper} (wa : ops.toList[i]? = some oi) :
  ∀ (l1 l2 : List (Nat × Bool)) (bI : List (Nat × List Nat)) (env : Env) (h : List aj), (∀ p, p ∈ l1 → p.2 = true ∧ kb (dc t i) p.1 = false ∧ qA ops p.1 i = true) → CO P T ops.toList t K (l1 ++ (i, st) :: l2) bI env h →
   fs P T ops.toList st oi (fun v h' => (st = true → h' = h) ∧ (st = false → ∀ j ids, (j, ids) ∈ bI → kb (dc t i) j = false → ∀ id, id ∈ ids → cO h id = cO h' id) ∧ CO P T ops.toList t K (l1 ++ l2) bI (dx env oi.dst v) h') env h
 | [], l2, bI, env, h, _, hp => by
  obtain ⟨o, ho, hp⟩ := hp
  rw [wa] at ho
  injection ho with ho
  subst ho
  cases st with
  | true =>
   obtain ⟨v, h1, h2⟩ := yq hp
   exact h2 env h _ (fun _ _ => rfl) (fun _ _ => rfl) ⟨fun _ => rfl, fun hc => Bool.noConfusion hc, rC _ _ _ _ _ (fun x hx => aen _ hx) h1⟩
  | false => exact du (fun v h' hk => ⟨fun hc => Bool.noConfusion hc, fun _ => hk.1, hk.2⟩) hp
 | (a, sa) :: l1, l2, bI, env, h, lz, hp => by
  obtain ⟨h1, h2, h3⟩ := lz (a, sa) agk
  simp only at h1 h2 h3
  subst h1
  obtain ⟨o, ho, hp⟩ := hp
  have hap : Oper.apart ops o oi = true := by
   unfold qA at h3
   have e1 : ops[a]? = some o := by simpa using ho
   have e2 : ops[i]? = some oi := by simpa using wa
   rw [e1, e2] at h3
   exact h3
  obtain ⟨a1, a2, a3⟩ := Oper.apart_spec hap
  obtain ⟨u, k1, k2⟩ := yq hp
  have ih := xj wa l1 l2 _ _ h (fun p hp => lz p (aen _ hp)) k1
  have ih' := J1 (env' := env) (fun x hx => (oQ (fun d hd => a1 d hd) x hx).symm) ih
  refine du (fun v h' hk => ⟨hk.1, fun hc j ids hj => hk.2.1 hc j ids (aen _ hj), ?_⟩) ih'
  have Pw : ∀ id, id ∈ j9 env o.op → cO h id = cO h' id := fun id hid => by
   cases st with
   | true => rw [hk.1 rfl]
   | false => exact hk.2.1 rfl a _ agk h2 id hid
  have zc : ∀ x, x ∈ o.looksAt ops → env x = dx env oi.dst v x := oQ (fun d hd => a3 d hd)
  refine ⟨o, ho, k2 _ h' _ zc Pw ?_⟩
  have Px : j9 (dx env oi.dst v) o.op = j9 env o.op := by
   exact vT (uD zc)
  simp only
  rw [Px, yr (fun x hx => (fun he => a2 x he hx) : ∀ x, oi.dst = some x → o.dst ≠ some x)]
  exact hk.2.2
def yn (P : Program) (T : oO) (all : List Oper) (t : List (Nat × List Nat)) (A0 B0 : List (Nat × Bool)) (K : Env → List aj → Prop) : List (Nat × Bool) → List (Nat × List Nat) → Env → List aj → Prop
 | [], bI, env, h => CO P T all t K A0 bI env h ∧ CO P T all t K B0 bI env h
 | (i, st) :: r, bI, env, h => ∃ o, all[i]? = some o ∧ fs P T all st o (fun v h' => match st with
   | true => yn P T all t A0 B0 K r ((i, j9 env o.op) :: bI) (dx env o.dst v) h'
   | false => (∀ j ids, (j, ids) ∈ bI → kb (dc t i) j = false → ∀ id, id ∈ ids → cO h id = cO h' id) ∧ yn P T all t A0 B0 K r bI (dx env o.dst v) h') env h
theorem ua {all : List Oper} {t : List (Nat × List Nat)} {A0 B0 : List (Nat × Bool)} {K : Env → List aj → Prop} : ∀ (l : List (Nat × Bool)) (bI : List (Nat × List Nat)) (env : Env) (h : List aj), fw2 P T all t A0 B0 K l bI env h → yn P T all t A0 B0 K l bI env h
 | [], _, _, _, hp => ⟨lR _ _ _ _ hp.1, lR _ _ _ _ hp.2⟩
 | (i, true) :: r, bI, env, h, hp => by
  have hp : (match all[i]? with
   | some o => qC P T all true o (fun env' v h' => fw2 P T all t A0 B0 K r ((i, j9 env' o.op) :: bI) (dx env' o.dst v) h') env h
   | none => False) := hp
  cases ho : all[i]? with
  | none => rw [ho] at hp; exact hp.elim
  | some o =>
   rw [ho] at hp
   exact ⟨o, ho, du (fun v h' hk => ua r _ _ _ hk) (lS hp)⟩
 | (i, false) :: r, bI, env, h, hp => by
  have hp : (match all[i]? with
   | some o => qC P T all false o (fun env' v h' => ns (dc t i) h h' (fw2 P T all t A0 B0 K r bI (dx env' o.dst v) h') bI) env h
   | none => False) := hp
  cases ho : all[i]? with
  | none => rw [ho] at hp; exact hp.elim
  | some o =>
   rw [ho] at hp
   refine ⟨o, ho, du (fun v h' hk => ?_) (lS hp)⟩
   obtain ⟨h1, h2⟩ := mN _ hk
   exact ⟨h1, ua r _ _ _ h2⟩
theorem yt {all : List Oper} {t : List (Nat × List Nat)} {A0 B0 : List (Nat × Bool)} {K : Env → List aj → Prop} : ∀ (l : List (Nat × Bool)) (bI nV : List (Nat × List Nat)) (env : Env) (h : List aj), (∀ x, x ∈ nV → x ∈ bI) → yn P T all t A0 B0 K l bI env h → yn P T all t A0 B0 K l nV env h
 | [], bI, nV, _, _, hs, hp => ⟨rC _ bI nV _ _ hs hp.1, rC _ bI nV _ _ hs hp.2⟩
 | (i, st) :: r, bI, nV, env, h, hs, hp => by
  obtain ⟨o, ho, hp⟩ := hp
  refine ⟨o, ho, du (fun v h' hk => ?_) hp⟩
  cases st with
  | true => exact yt r _ _ _ _ (fun x hx => by simp only [aej] at hx ⊢; exact hx.imp id (hs x)) hk
  | false => exact ⟨fun j ids hj => hk.1 j ids (hs _ hj), yt r _ _ _ _ hs hk.2⟩
theorem Ds {ops : Array Oper} {t : List (Nat × List Nat)} {A0 B0 : List (Nat × Bool)} {K : Env → List aj → Prop} {i : Nat} {st : Bool} {oi : Oper} (wa : ops.toList[i]? = some oi) :
  ∀ (l1 l2 : List (Nat × Bool)) (bI : List (Nat × List Nat)) (env : Env) (h : List aj), (∀ p, p ∈ l1 → p.2 = true ∧ kb (dc t i) p.1 = false ∧ qA ops p.1 i = true) → yn P T ops.toList t A0 B0 K (l1 ++ (i, st) :: l2) bI env h →
   fs P T ops.toList st oi (fun v h' => (st = true → h' = h) ∧ (st = false → ∀ j ids, (j, ids) ∈ bI → kb (dc t i) j = false → ∀ id, id ∈ ids → cO h id = cO h' id) ∧ yn P T ops.toList t A0 B0 K (l1 ++ l2) bI (dx env oi.dst v) h') env h
 | [], l2, bI, env, h, _, hp => by
  obtain ⟨o, ho, hp⟩ := hp
  rw [wa] at ho
  injection ho with ho
  subst ho
  cases st with
  | true =>
   obtain ⟨v, h1, h2⟩ := yq hp
   exact h2 env h _ (fun _ _ => rfl) (fun _ _ => rfl) ⟨fun _ => rfl, fun hc => Bool.noConfusion hc, yt _ _ _ _ _ (fun x hx => aen _ hx) h1⟩
  | false => exact du (fun v h' hk => ⟨fun hc => Bool.noConfusion hc, fun _ => hk.1, hk.2⟩) hp
 | (a, sa) :: l1, l2, bI, env, h, lz, hp => by
  obtain ⟨h1, h2, h3⟩ := lz (a, sa) agk
  simp only at h1 h2 h3
  subst h1
  obtain ⟨o, ho, hp⟩ := hp
  have hap : Oper.apart ops o oi = true := by
   unfold qA at h3
   have e1 : ops[a]? = some o := by simpa using ho
   have e2 : ops[i]? = some oi := by simpa using wa
   rw [e1, e2] at h3
   exact h3
  obtain ⟨a1, a2, a3⟩ := Oper.apart_spec hap
  obtain ⟨u, k1, k2⟩ := yq hp
  have ih := Ds wa l1 l2 _ _ h (fun p hp => lz p (aen _ hp)) k1
  have ih' := J1 (env' := env) (fun x hx => (oQ (fun d hd => a1 d hd) x hx).symm) ih
  refine du (fun v h' hk => ⟨hk.1, fun hc j ids hj => hk.2.1 hc j ids (aen _ hj), ?_⟩) ih'
  have Pw : ∀ id, id ∈ j9 env o.op → cO h id = cO h' id := fun id hid => by
   cases st with
   | true => rw [hk.1 rfl]
   | false => exact hk.2.1 rfl a _ agk h2 id hid
  have zc : ∀ x, x ∈ o.looksAt ops → env x = dx env oi.dst v x := oQ (fun d hd => a3 d hd)
  refine ⟨o, ho, k2 _ h' _ zc Pw ?_⟩
  have Px : j9 (dx env oi.dst v) o.op = j9 env o.op := by
   exact vT (uD zc)
  simp only
  rw [Px, yr (fun x hx => (fun he => a2 x he hx) : ∀ x, oi.dst = some x → o.dst ≠ some x)]
  exact hk.2.2
theorem JT {all : List Oper} {t : List (Nat × List Nat)} {A0 B0 : List (Nat × Bool)} {K : Env → List aj → Prop} : ∀ (l : List (Nat × Bool)) (bI : List (Nat × List Nat)) (env : Env) (h : List aj), yn P T all t A0 B0 K l bI env h → CO P T all t K (l ++ A0) bI env h
 | [], _, _, _, hp => hp.1
 | (i, st) :: r, bI, env, h, hp => by
  obtain ⟨o, ho, hp⟩ := hp
  refine ⟨o, ho, du (fun v h' hk => ?_) hp⟩
  cases st with
  | true => exact JT r _ _ _ hk
  | false => exact ⟨hk.1, JT r _ _ _ hk.2⟩
theorem JU {all : List Oper} {t : List (Nat × List Nat)} {A0 B0 : List (Nat × Bool)} {K : Env → List aj → Prop} : ∀ (l : List (Nat × Bool)) (bI : List (Nat × List Nat)) (env : Env) (h : List aj), yn P T all t A0 B0 K l bI env h → CO P T all t K (l ++ B0) bI env h
 | [], _, _, _, hp => hp.2
 | (i, st) :: r, bI, env, h, hp => by
  obtain ⟨o, ho, hp⟩ := hp
  refine ⟨o, ho, du (fun v h' hk => ?_) hp⟩
  cases st with
  | true => exact JU r _ _ _ hk
  | false => exact ⟨hk.1, JU r _ _ _ hk.2⟩
def ng (P : Program) (T : oO) (all : List Oper) (t : List (Nat × List Nat)) (E : List (Nat × List Nat) → Env → List aj → Prop) : List (Nat × Bool) → List (Nat × List Nat) → Env → List aj → Prop
 | [], bI, env, h => E bI env h
 | (i, st) :: r, bI, env, h => ∃ o, all[i]? = some o ∧ fs P T all st o (fun v h' => match st with
   | true => ng P T all t E r ((i, j9 env o.op) :: bI) (dx env o.dst v) h'
   | false => (∀ j ids, (j, ids) ∈ bI → kb (dc t i) j = false → ∀ id, id ∈ ids → cO h id = cO h' id) ∧ ng P T all t E r bI (dx env o.dst v) h') env h
def tY (E : List (Nat × List Nat) → Env → List aj → Prop) : Prop := ∀ (bI nV : List (Nat × List Nat)) (env : Env) (h : List aj), (∀ x, x ∈ nV → x ∈ bI) → E bI env h → E nV env h
theorem uE {all : List Oper} {t : List (Nat × List Nat)} {E : List (Nat × List Nat) → Env → List aj → Prop} (hE : tY E) : ∀ (l : List (Nat × Bool)) (bI nV : List (Nat × List Nat)) (env : Env) (h : List aj), (∀ x, x ∈ nV → x ∈ bI) → ng P T all t E l bI env h → ng P T all t E l nV env h
 | [], bI, nV, _, _, hs, hp => hE bI nV _ _ hs hp
 | (i, st) :: r, bI, nV, env, h, hs, hp => by
  obtain ⟨o, ho, hp⟩ := hp
  refine ⟨o, ho, du (fun v h' hk => ?_) hp⟩
  cases st with
  | true => exact uE hE r _ _ _ _ (fun x hx => by simp only [aej] at hx ⊢; exact hx.imp id (hs x)) hk
  | false => exact ⟨fun j ids hj => hk.1 j ids (hs _ hj), uE hE r _ _ _ _ hs hk.2⟩
theorem uB {ops : Array Oper} {t : List (Nat × List Nat)} {E : List (Nat × List Nat) → Env → List aj → Prop} (hE : tY E) {i : Nat} {st : Bool} {oi : Oper} (wa : ops.toList[i]? = some oi) :
  ∀ (l1 l2 : List (Nat × Bool)) (bI : List (Nat × List Nat)) (env : Env) (h : List aj), (∀ p, p ∈ l1 → p.2 = true ∧ kb (dc t i) p.1 = false ∧ qA ops p.1 i = true) → ng P T ops.toList t E (l1 ++ (i, st) :: l2) bI env h →
   fs P T ops.toList st oi (fun v h' => (st = true → h' = h) ∧ (st = false → ∀ j ids, (j, ids) ∈ bI → kb (dc t i) j = false → ∀ id, id ∈ ids → cO h id = cO h' id) ∧ ng P T ops.toList t E (l1 ++ l2) bI (dx env oi.dst v) h') env h
 | [], l2, bI, env, h, _, hp => by
  obtain ⟨o, ho, hp⟩ := hp
  rw [wa] at ho
  injection ho with ho
  subst ho
  cases st with
  | true =>
   obtain ⟨v, h1, h2⟩ := yq hp
   exact h2 env h _ (fun _ _ => rfl) (fun _ _ => rfl) ⟨fun _ => rfl, fun hc => Bool.noConfusion hc, uE hE _ _ _ _ _ (fun x hx => aen _ hx) h1⟩
  | false => exact du (fun v h' hk => ⟨fun hc => Bool.noConfusion hc, fun _ => hk.1, hk.2⟩) hp
 | (a, sa) :: l1, l2, bI, env, h, lz, hp => by
  obtain ⟨h1, h2, h3⟩ := lz (a, sa) agk
  simp only at h1 h2 h3
  subst h1
  obtain ⟨o, ho, hp⟩ := hp
  have hap : Oper.apart ops o oi = true := by
   unfold qA at h3
   have e1 : ops[a]? = some o := by simpa using ho
   have e2 : ops[i]? = some oi := by simpa using wa
   rw [e1, e2] at h3
   exact h3
  obtain ⟨a1, a2, a3⟩ := Oper.apart_spec hap
  obtain ⟨u, k1, k2⟩ := yq hp
  have ih := uB hE wa l1 l2 _ _ h (fun p hp => lz p (aen _ hp)) k1
  have ih' := J1 (env' := env) (fun x hx => (oQ (fun d hd => a1 d hd) x hx).symm) ih
  refine du (fun v h' hk => ⟨hk.1, fun hc j ids hj => hk.2.1 hc j ids (aen _ hj), ?_⟩) ih'
  have Pw : ∀ id, id ∈ j9 env o.op → cO h id = cO h' id := fun id hid => by
   cases st with
   | true => rw [hk.1 rfl]
   | false => exact hk.2.1 rfl a _ agk h2 id hid
  have zc : ∀ x, x ∈ o.looksAt ops → env x = dx env oi.dst v x := oQ (fun d hd => a3 d hd)
  refine ⟨o, ho, k2 _ h' _ zc Pw ?_⟩
  have Px : j9 (dx env oi.dst v) o.op = j9 env o.op := by
   exact vT (uD zc)
  simp only
  rw [Px, yr (fun x hx => (fun he => a2 x he hx) : ∀ x, oi.dst = some x → o.dst ≠ some x)]
  exact hk.2.2
theorem tX {all : List Oper} {t : List (Nat × List Nat)} {E : List (Nat × List Nat) → Env → List aj → Prop} {l' : List (Nat × Bool)} : ∀ (l : List (Nat × Bool)) (bI : List (Nat × List Nat)) (env : Env) (h : List aj), ng P T all t (fun bI env h => ng P T all t E l' bI env h) l bI env h → ng P T all t E (l ++ l') bI env h
 | [], _, _, _, hp => hp
 | (i, st) :: r, bI, env, h, hp => by
  obtain ⟨o, ho, hp⟩ := hp
  refine ⟨o, ho, du (fun v h' hk => ?_) hp⟩
  cases st with
  | true => exact tX r _ _ _ hk
  | false => exact ⟨hk.1, tX r _ _ _ hk.2⟩
theorem xk {all : List Oper} {t : List (Nat × List Nat)} {E E' : List (Nat × List Nat) → Env → List aj → Prop} (hi : ∀ bI env h, E bI env h → E' bI env h) : ∀ (l : List (Nat × Bool)) (bI : List (Nat × List Nat)) (env : Env) (h : List aj), ng P T all t E l bI env h → ng P T all t E' l bI env h
 | [], _, _, _, hp => hi _ _ _ hp
 | (i, st) :: r, bI, env, h, hp => by
  obtain ⟨o, ho, hp⟩ := hp
  refine ⟨o, ho, du (fun v h' hk => ?_) hp⟩
  cases st with
  | true => exact xk hi r _ _ _ hk
  | false => exact ⟨hk.1, xk hi r _ _ _ hk.2⟩
theorem tW {all : List Oper} {t : List (Nat × List Nat)} {K : Env → List aj → Prop} {l' : List (Nat × Bool)} : ∀ (l : List (Nat × Bool)) (bI : List (Nat × List Nat)) (env : Env) (h : List aj), ng P T all t (fun bI env h => CO P T all t K l' bI env h) l bI env h → CO P T all t K (l ++ l') bI env h
 | [], _, _, _, hp => hp
 | (i, st) :: r, bI, env, h, hp => by
  obtain ⟨o, ho, hp⟩ := hp
  refine ⟨o, ho, du (fun v h' hk => ?_) hp⟩
  cases st with
  | true => exact tW r _ _ _ hk
  | false => exact ⟨hk.1, tW r _ _ _ hk.2⟩
theorem qB {all : List Oper} {t : List (Nat × List Nat)} {E E' : List (Nat × List Nat) → Env → List aj → Prop} (hi : ∀ bI env h, E bI env h → E' bI env h) : ∀ (l : List (Nat × Bool)) (bI : List (Nat × List Nat)) (env : Env) (h : List aj), fwE P T all t E l bI env h → ng P T all t E' l bI env h
 | [], _, _, _, hp => hi _ _ _ hp
 | (i, true) :: r, bI, env, h, hp => by
  have hp : (match all[i]? with
   | some o => qC P T all true o (fun env' v h' => fwE P T all t E r ((i, j9 env' o.op) :: bI) (dx env' o.dst v) h') env h
   | none => False) := hp
  cases ho : all[i]? with
  | none => rw [ho] at hp; exact hp.elim
  | some o =>
   rw [ho] at hp
   exact ⟨o, ho, du (fun v h' hk => qB hi r _ _ _ hk) (lS hp)⟩
 | (i, false) :: r, bI, env, h, hp => by
  have hp : (match all[i]? with
   | some o => qC P T all false o (fun env' v h' => ns (dc t i) h h' (fwE P T all t E r bI (dx env' o.dst v) h') bI) env h
   | none => False) := hp
  cases ho : all[i]? with
  | none => rw [ho] at hp; exact hp.elim
  | some o =>
   rw [ho] at hp
   refine ⟨o, ho, du (fun v h' hk => ?_) (lS hp)⟩
   obtain ⟨h1, h2⟩ := mN _ hk
   exact ⟨h1, qB hi r _ _ _ h2⟩
theorem rz {all : List Oper} {t : List (Nat × List Nat)} {K : Env → List aj → Prop} (l : List (Nat × Bool)) : tY (fun bI env h => CO P T all t K l bI env h) := fun bI nV env h hs hp => rC l bI nV env h hs hp
theorem pQ {all : List Oper} {t : List (Nat × List Nat)} {E : List (Nat × List Nat) → Env → List aj → Prop} (hE : tY E) (l : List (Nat × Bool)) : tY (fun bI env h => ng P T all t E l bI env h) := fun bI nV env h hs hp => uE hE l bI nV env h hs hp
theorem Dt {E E' : List (Nat × List Nat) → Env → List aj → Prop} (h1 : tY E) (h2 : tY E') : tY (fun bI env h => E bI env h ∧ E' bI env h) := fun bI nV env h hs hp => ⟨h1 bI nV env h hs hp.1, h2 bI nV env h hs hp.2⟩
end
theorem aT.mono {S S' : Nat → Prop} {w w' : World} (hw : ∀ b, S b → w'.heap[b]? = w.heap[b]?) (hS : ∀ b, S b → S' b) {pv : PV} {v : Value} (h : aT S w pv v) : aT S' w' pv v := by
 induction h with
 | int k n => exact .int k n
 | bool b => exact .bool b
 | str s => exact .str s
 | aO => exact .aO
 | fn f => exact .fn f
 | p6 sz f a c => exact .p6 sz f a c
 | fM sz n f b off c vf h1 h2 h3 h4 _ ih =>
  exact .fM sz n f b off c vf (hS b h1) h2 h3 (fun i j pv hi hj => (World.cell?_of_block (w := w) (hw b h1)).trans (h4 i j pv hi hj)) ih
 | fx cs b off vf h1 h4 _ ih =>
  exact .fx cs b off vf (hS b h1) (fun j pv hj => (World.cell?_of_block (w := w) (hw b h1)).trans (h4 j pv hj)) ih
theorem kA.of_same {w w' : World} {b k : Nat} (h : w'.heap[b]? = w.heap[b]?) (hc : kA w b k) : kA w' b k := by
 obtain ⟨cur, e, h1, h2⟩ := hc
 exact ⟨cur, e, h.trans h1, h2⟩
theorem kA.least {w : World} {b k : Nat} (h : kA w b k) : kA w b 0 := by
 obtain ⟨cur, e, h1, h2⟩ := h
 exact ⟨cur, e, h1, aeE _⟩
theorem lE.mono {S S' : Nat → Prop} {w w' : World} (hw : ∀ b, S b → w'.heap[b]? = w.heap[b]?) (hS : ∀ b, S b → S' b) {pv : PV} {v : Value} (h : lE S w pv v) :
  (∀ sz n e f F, pv = .aY sz n e f F → ∀ b, F b → w'.heap[b]? = w.heap[b]?) → lE S' w' pv v := by
 induction h with
 | nil sz e f F hF => exact fun _ => .nil sz e f F hF
 | HF sz n e f F b off c a cur vf hF hb hlen hc ha ig bp mX wQ CM HG ih =>
  intro hk
  have hk := hk _ _ _ _ _ rfl
  exact .HF sz n e f F b off c a cur vf hF ((hk b hF).trans hb) hlen hc ha ig bp (fun i j pv hi hj => (mX i j pv hi hj).imp_left (fun q => q.mono hw hS))
   (fun i j bV n' e' f' F' hi hj => ih i j bV n' e' f' F' hi hj (fun _ _ _ _ _ he b' nO => by
    injection he with _ _ _ _ he
    subst he
    exact hk b' (CM i j bV n' e' f' _ hi hj b' nO).1)) CM HG
inductive OG (G : PV → Prop) : PV → Prop
 | mk (sz n : Nat) (e : TypeId) (f : Nat → List PV) (F : Nat → Prop) (h1 : ∀ (i j : Nat) (pv : PV), i < n → (f i)[j]? = some pv → dK pv = false → G pv)
   (h2 : ∀ (i j bV n' : Nat) (e' : TypeId) (f' : Nat → List PV) (F' : Nat → Prop), i < n → (f i)[j]? = some (.aY bV n' e' f' F') → OG G (.aY bV n' e' f' F')) : OG G (.aY sz n e f F)
theorem lE.og {S S' : Nat → Prop} {w : World} {G : PV → Prop} (hG : ∀ pv v, G pv → aT S w pv v → aT S' w pv v) {pv : PV} {v : Value} (h : lE S w pv v) : OG G pv → lE S' w pv v := by
 induction h with
 | nil sz e f F hF => exact fun _ => .nil sz e f F hF
 | HF sz n e f F b off c a cur vf hF hb hlen hc ha ig bp mX wQ CM HG ih =>
  intro hg
  cases hg with
  | mk _ _ _ _ _ h1 h2 =>
   exact .HF sz n e f F b off c a cur vf hF hb hlen hc ha ig bp (fun i j pv hi hj => by
    cases hx : dK pv with
    | false => exact (mX i j pv hi hj).imp_left (fun q => hG pv _ (h1 i j pv hi hj hx) q)
    | true => exact .inr (by cases pv <;> first | exact ⟨_, _, _, _, _, rfl⟩ | cases hx)) (fun i j bV n' e' f' F' hi hj => ih i j bV n' e' f' F' hi hj (h2 i j bV n' e' f' F' hi hj)) CM HG
theorem lE.all {S : Nat → Prop} {w : World} {pv : PV} {v : Value} (h : lE S w pv v) : OG (fun _ => True) pv := by
 induction h with
 | nil sz e f F hF => exact .mk sz 0 e f F (fun _ _ _ _ _ _ => trivial) (fun i j _ _ _ _ _ hi => absurd hi (aeB _))
 | HF sz n e f F b off c a cur vf hF hb hlen hc ha ig bp mX wQ CM HG ih => exact .mk sz n e f F (fun _ _ _ _ _ _ => trivial) ih
theorem lE.one {S : Nat → Prop} {w : World} {pv : PV} {v : Value} (h : lE S w pv v) : v.oneCell' = true := by cases h <;> rfl
section
variable {μ μ' : Mu} {h h' : List aj} {S S' : Nat → Prop} {w w' : World}
theorem bR.j5 {pv : PV} {v : Value} (hp : aT S w pv v) : bR μ h S w pv v := by
 cases hp <;> first | exact .int _ _ | exact .bool _ | exact .str _ | exact .aO | exact .fn _ | exact .p6 _ _ _ _ | (rename_i h1 h2 h3 h4 h5 _; first | exact .fM _ _ _ _ _ _ _ ‹_› ‹_› ‹_› ‹_› ‹_›) | exact .fx _ _ _ _ ‹_› ‹_› ‹_›
theorem bR.fr (hf : Fr μ h S w μ' h' S' w') (hm : sR μ h S w) {pv : PV} {v : Value} (hc : bR μ h S w pv v) : bR μ' h' S' w' pv v := by
 have hS : ∀ b, S b → w'.heap[b]? = w.heap[b]? := fun b hb => hf.blocks b (hm.slt b hb) (fun ho => hm.apart b ho hb)
 have ub : ∀ (id gen i off : Nat) (v : Value), bU μ h w id gen i off v → bU μ' h' w' id gen i off v := fun id gen i off v hc => by
  unfold bU at hc ⊢
  obtain ⟨KY, hc⟩ := hc
  refine ⟨KY, ?_⟩
  cases ho : h[id]? with
  | none => rw [ho] at hc; exact hc.elim
  | some o =>
   cases o with
   | dead => rw [hf.dead id ho]; trivial
   | row g sz n e f =>
    rw [ho] at hc
    have hg := hf.Bl id g sz n e f ho
    cases Mk : h'[id]? with
    | none => rw [Mk] at hg; exact hg
    | some o' =>
     cases o' with
     | dead => trivial
     | row g' bV n' e' f' =>
      rw [Mk] at hg
      obtain ⟨hle, j6⟩ := hg
      obtain ⟨Wy, hc⟩ := hc
      refine ⟨aeQ Wy hle, fun he => ?_⟩
      have heq : g' = g := by omega
      obtain ⟨hμ, rfl, rfl, rfl⟩ := j6 heq
      obtain ⟨h1, h2⟩ := hc agi
      refine ⟨h1, ?_⟩
      rw [hμ]
      obtain ⟨b, base, q1, q2, q3⟩ := h2
      exact ⟨b, base, q1, hf.bN b _ (.inl ⟨id, g, _, _, _, _, base, ho, q1⟩) q2, q3⟩
 cases pv with
 | own id gen off len =>
  have hc : bE μ h w id gen off len v := hc
  show bE μ' h' w' id gen off len v
  unfold bE at hc ⊢
  obtain ⟨KY, hc⟩ := hc
  refine ⟨KY, ?_⟩
  cases ho : h[id]? with
  | none => rw [ho] at hc; exact hc.elim
  | some o =>
   cases o with
   | dead => rw [hf.dead id ho]; trivial
   | row g sz n e f =>
    rw [ho] at hc
    have hg := hf.Bl id g sz n e f ho
    cases Mk : h'[id]? with
    | none => rw [Mk] at hg; exact hg
    | some o' =>
     cases o' with
     | dead => trivial
     | row g' bV n' e' f' =>
      rw [Mk] at hg
      obtain ⟨hle, j6⟩ := hg
      obtain ⟨Wy, hc⟩ := hc
      refine ⟨aeQ Wy hle, fun he => ?_⟩
      have heq : g' = g := by omega
      obtain ⟨hμ, rfl, rfl, rfl⟩ := j6 heq
      obtain ⟨h1, h2⟩ := hc agi
      refine ⟨h1, ?_⟩
      rw [hμ]
      cases iH : μ id with
      | none => rw [iH] at h2; exact h2
      | some p =>
       obtain ⟨b, base⟩ := p
       rw [iH] at h2
       obtain ⟨a, cap, h3, h4, h5, h6⟩ := h2
       exact ⟨a, cap, h3, h4, h5, hf.bN b _ (.inl ⟨id, g, _, _, _, _, base, ho, iH⟩) h6⟩
 | aN id gen i off => exact ub _ _ _ _ _ hc
 | om f bN => exact sS.mono (show n9 μ h w f bN v from hc) (fun id g u hu => ub _ _ _ _ _ hu)
 | kN id =>
  have hc : fX μ h w id v := hc
  show fX μ' h' w' id v
  unfold fX at hc ⊢
  obtain ⟨KY, hc⟩ := hc
  refine ⟨KY, ?_⟩
  cases ho : h[id]? with
  | none => rw [ho] at hc; exact hc.elim
  | some o =>
   cases o with
   | dead => rw [hf.dead id ho]; trivial
   | row g sz n e f =>
    rw [ho] at hc
    obtain ⟨b, base, q1, q2, q3⟩ := hc
    obtain ⟨r1, r2⟩ := hf.maps id g sz n e f b base ho q1 q2
    rcases r2 with r2 | ⟨⟨g', bV, n', e', f', r2⟩, r3⟩
    ·rw [r2]; trivial
    ·rw [r2]; exact ⟨b, base, r3, r1, q3⟩
 | jc => exact hc
 | aY sz n e f F => exact hc
 | agg cs => exact hc.elim
 | dG cs => exact hc.elim
 | int k n => exact aT.mono hS hf.sub hc
 | bool b => exact aT.mono hS hf.sub hc
 | str s => exact aT.mono hS hf.sub hc
 | aO => exact aT.mono hS hf.sub hc
 | fM sz n f => exact aT.mono hS hf.sub hc
 | fx cs => exact aT.mono hS hf.sub hc
 | fn f => exact aT.mono hS hf.sub hc
theorem jm.fr (hf : Fr μ h S w μ' h' S' w') (hm : sR μ h S w) {pv : PV} {v : Value} (hc : jm μ h S w pv v) : jm μ' h' S' w' pv v := by
 cases pv with
 | agg cs =>
  obtain ⟨vs, h1, h2, h3⟩ := hc
  exact ⟨vs, h1, h2, fun j pv hj => let ⟨u, hu, hr⟩ := h3 j pv hj; ⟨u, hu, hr.fr hf hm⟩⟩
 | int k n => exact bR.fr (pv := .int k n) hf hm hc
 | bool b => exact bR.fr (pv := .bool b) hf hm hc
 | str s => exact bR.fr (pv := .str s) hf hm hc
 | aO  => exact bR.fr (pv := .aO ) hf hm hc
 | fM sz n f => exact bR.fr (pv := .fM sz n f) hf hm hc
 | fx cs => exact bR.fr (pv := .fx cs) hf hm hc
 | own id gen off len => exact bR.fr (pv := .own id gen off len) hf hm hc
 | aN id gen i off => exact bR.fr (pv := .aN id gen i off) hf hm hc
 | kN id => exact bR.fr (pv := .kN id) hf hm hc
 | om f bN => exact bR.fr (pv := .om f bN) hf hm hc
 | fn f => exact bR.fr (pv := .fn f) hf hm hc
 | jc => trivial
 | aY sz n e f F => exact bR.fr (pv := .aY sz n e f F) hf hm hc
 | dG cs => exact (show False from hc).elim
theorem bG.fr (hf : Fr μ h S w μ' h' S' w') (hm : sR μ h S w) {pv : PV} {v : Value} (hc : bG μ h S w pv v) : bG μ' h' S' w' pv v := by
 cases pv with
 | dG cs =>
  obtain ⟨vs, h1, h2, h3⟩ := hc
  exact ⟨vs, h1, h2, fun j pv hj => let ⟨u, hu, hr⟩ := h3 j pv hj; ⟨u, hu, hr.fr hf hm⟩⟩
 | int k n => exact jm.fr (pv := .int k n) hf hm hc
 | bool b => exact jm.fr (pv := .bool b) hf hm hc
 | str s => exact jm.fr (pv := .str s) hf hm hc
 | aO  => exact jm.fr (pv := .aO ) hf hm hc
 | fM sz n f => exact jm.fr (pv := .fM sz n f) hf hm hc
 | fx cs => exact jm.fr (pv := .fx cs) hf hm hc
 | own id gen off len => exact jm.fr (pv := .own id gen off len) hf hm hc
 | aN id gen i off => exact jm.fr (pv := .aN id gen i off) hf hm hc
 | kN id => exact jm.fr (pv := .kN id) hf hm hc
 | om f bN => exact jm.fr (pv := .om f bN) hf hm hc
 | fn f => exact jm.fr (pv := .fn f) hf hm hc
 | jc => trivial
 | aY sz n e f F => exact jm.fr (pv := .aY sz n e f F) hf hm hc
 | agg cs => exact jm.fr (pv := .agg cs) hf hm hc
theorem aT.one {pv : PV} {v : Value} (hp : aT S w pv v) : v.oneCell' = true := by cases hp <;> rfl
theorem bR.one {pv : PV} {v : Value} (hc : bR μ h S w pv v) : v.oneCell' = true := by
 cases pv with
 | own id gen off len =>
  obtain ⟨⟨a, l, c, rfl⟩, _⟩ := (show bE μ h w id gen off len v from hc)
  rfl
 | aN id gen i off =>
  obtain ⟨⟨a, rfl⟩, _⟩ := (show bU μ h w id gen i off v from hc)
  rfl
 | kN id =>
  obtain ⟨⟨a, rfl⟩, _⟩ := (show fX μ h w id v from hc)
  rfl
 | om f bN =>
  obtain ⟨vs, rfl, _⟩ := (show n9 μ h w f bN v from hc)
  rfl
 | jc => exact hc
 | aY sz n e f F => exact hc
 | agg cs => exact (show False from hc).elim
 | dG cs => exact (show False from hc).elim
 | int k n => exact aT.one (show aT S w _ v from hc)
 | bool b => exact aT.one (show aT S w _ v from hc)
 | str s => exact aT.one (show aT S w _ v from hc)
 | aO => exact aT.one (show aT S w _ v from hc)
 | fM sz n f => exact aT.one (show aT S w _ v from hc)
 | fx cs => exact aT.one (show aT S w _ v from hc)
 | fn f => exact aT.one (show aT S w _ v from hc)
theorem oG.c {pv : PV} {v : Value} (hc : oG μ h S w pv v) : bR μ h S w pv v := by
 cases pv with
 | aY sz n e f F => exact lE.one (show lE S w (.aY sz n e f F) v from hc)
 | _ => exact hc
theorem bR.k {pv : PV} {v : Value} (hc : bR μ h S w pv v) (ho : dK pv = false) : oG μ h S w pv v := by
 cases pv with
 | aY sz n e f F => cases ho
 | _ => exact hc
theorem oG.fr (hf : Fr μ h S w μ' h' S' w') (hm : sR μ h S w) {pv : PV} {v : Value} (hF : ∀ sz n e f F, pv = .aY sz n e f F → ∀ b, F b → w'.heap[b]? = w.heap[b]?) (hc : oG μ h S w pv v) : oG μ' h' S' w' pv v := by
 cases pv with
 | aY sz n e f F => exact lE.mono (fun b hb => hf.blocks b (hm.slt b hb) (fun ho => hm.apart b ho hb)) hf.sub (show lE S w (.aY sz n e f F) v from hc) hF
 | _ => exact (bR.fr hf hm (oG.c hc)).k rfl
theorem uu {id i j b : Nat} : ¬ dL [] id i j b := fun ⟨_, _, _, _, _, _, _, _, _, _, h1, _⟩ => by simp at h1
theorem jQ {μ : Mu} {b : Nat} : ¬ cz μ [] b := fun h => by
 rcases h with ⟨id, g, sz, n, e, f, base, h1, _⟩ | ⟨_, _, _, h1⟩
 ·simp at h1
 ·exact uu h1
theorem Fr.refl : Fr μ h S w μ h S w where
 len := aeb _
 blocks _ _ _ := rfl
 sub _ hb := hb
 new _ hb := .inl hb
 own _ hb := .inl hb
 size := aeb _
 os := rfl
 tape := rfl
 output := rfl
 Bl id g sz n e f hh := by rw [hh]; exact ⟨aeb _, fun _ => ⟨rfl, rfl, rfl, rfl⟩⟩
 dead _ hh := hh
 bN _ _ _ hc := hc
 maps id g sz n e f b base ho hm hb := ⟨hb, .inr ⟨⟨g, sz, n, e, f, ho⟩, hm⟩⟩
 u5 b id i j hh hb := hb
theorem Fr.trans {μ'' : Mu} {RE : List aj} {Wu : Nat → Prop} {Of : World} (a : Fr μ h S w μ' h' S' w') (b : Fr μ' h' S' w' μ'' RE Wu Of) : Fr μ h S w μ'' RE Wu Of where
 len := aeQ a.len b.len
 blocks k hk hn := (b.blocks k (aez hk a.size) (fun ho => by
  rcases a.own k ho with h1 | h1
  ·exact hn h1
  ·omega)).trans (a.blocks k hk hn)
 sub k hk := b.sub k (a.sub k hk)
 new k hk := by
  rcases b.new k hk with h1 | h1 | h1
  ·exact a.new k h1
  ·rcases a.own k h1 with h2 | h2
   ·exact .inr (.inl h2)
   ·exact .inr (.inr h2)
  ·exact .inr (.inr (aeQ a.size h1))
 own k hk := by
  rcases b.own k hk with h1 | h1
  ·exact a.own k h1
  ·exact .inr (aeQ a.size h1)
 size := aeQ a.size b.size
 os := b.os.trans a.os
 tape := b.tape.trans a.tape
 output := b.output.trans a.output
 Bl id g sz n e f hh := by
  have h1 := a.Bl id g sz n e f hh
  cases Mk : h'[id]? with
  | none => rw [Mk] at h1; exact h1.elim
  | some o' =>
   cases o' with
   | dead => rw [b.dead id Mk]; trivial
   | row g' bV n' e' f' =>
    rw [Mk] at h1
    have h2 := b.Bl id g' bV n' e' f' Mk
    cases ho'' : RE[id]? with
    | none => rw [ho''] at h2; exact h2
    | some o'' =>
     cases o'' with
     | dead => trivial
     | row g'' sz'' n'' e'' f'' =>
      rw [ho''] at h2
      refine ⟨aeQ h1.1 h2.1, fun he => ?_⟩
      have e1 : g' = g := by have := h1.1; have := h2.1; omega
      have e2 : g'' = g' := by omega
      obtain ⟨x1, x2, x3, x4⟩ := h1.2 e1
      obtain ⟨y1, y2, y3, y4⟩ := h2.2 e2
      exact ⟨y1.trans x1, y2.trans x2, y3.trans x3, y4.trans x4⟩
 dead id hh := b.dead id (a.dead id hh)
 bN k c ho hc := by
  have h1 := a.bN k c ho hc
  by_cases h2 : cz μ' h' k
  ·exact b.bN k c h2 h1
  ·refine kA.of_same (b.blocks k ?_ h2) h1
   obtain ⟨cur, e, h3, _⟩ := h1
   exact (aed.1 h3).1
 maps id g sz n e f k base ho hm hb := by
  obtain ⟨h1, h2⟩ := a.maps id g sz n e f k base ho hm hb
  rcases h2 with h2 | ⟨⟨g', bV, n', e', f', h2⟩, h3⟩
  ·refine ⟨?_, .inl (b.dead id h2)⟩
   by_cases h4 : cz μ' h' k
   ·rcases h4 with ⟨j, g', bV, n', e', f', rk, j1, j2⟩ | ⟨j, x, y, h4⟩
    ·exact (b.maps j g' bV n' e' f' k rk j1 j2 h1).1
    ·exact b.u5 k j x y h4 h1
   ·obtain ⟨es, c, h5⟩ := h1
    exact ⟨es, c, (b.blocks k (aed.1 h5).1 h4).trans h5⟩
  ·exact b.maps id g' bV n' e' f' k base h2 h3 h1
 u5 k id i j hh hb := by
  have h1 := a.u5 k id i j hh hb
  by_cases h4 : cz μ' h' k
  ·rcases h4 with ⟨j, g', bV, n', e', f', rk, j1, j2⟩ | ⟨j, x, y, h4⟩
   ·exact (b.maps j g' bV n' e' f' k rk j1 j2 h1).1
   ·exact b.u5 k j x y h4 h1
  ·obtain ⟨es, c, h5⟩ := h1
   exact ⟨es, c, (b.blocks k (aed.1 h5).1 h4).trans h5⟩
structure cy (w w' : World) : Prop where
 blocks : ∀ b, b < w.heap.size → w'.heap[b]? = w.heap[b]?
 size : w.heap.size ≤ w'.heap.size
 os : w'.os = w.os
 tape : w'.tape = w.tape
 output : w'.output = w.output
theorem cy.refl (w : World) : cy w w := ⟨fun _ _ => rfl, aeb _, rfl, rfl, rfl⟩
theorem cy.trans {a b c : World} (x : cy a b) (y : cy b c) : cy a c :=
 ⟨fun k hk => (y.blocks k (aez hk x.size)).trans (x.blocks k hk), aeQ x.size y.size, y.os.trans x.os, y.tape.trans x.tape, y.output.trans x.output⟩
theorem cy.cell {w w' : World} (h : cy w w') {a : Addr} {u : Value} (hc : w.cell? a = some u) : w'.cell? a = some u :=
 (World.cell?_of_block (w := w) (h.blocks a.block (World.block_lt_of_cell? _ _ hc))).trans hc
theorem cy.drew (w : World) : cy w w.drew := ⟨fun _ _ => rfl, aeb _, rfl, rfl, rfl⟩
theorem cy.drewN (w : World) (n : Nat) : cy w (w.drewN n) := ⟨fun _ _ => rfl, aeb _, rfl, rfl, rfl⟩
theorem kA.lt {b k : Nat} (h : kA w b k) : b < w.heap.size := by
 obtain ⟨cur, e, h1, _⟩ := h
 exact (aed.1 h1).1
theorem Fr.xa (ha : cy w w') : Fr μ h S w μ h S w' where
 len := aeb _
 blocks b hb _ := ha.blocks b hb
 sub _ hb := hb
 new _ hb := .inl hb
 own _ hb := .inl hb
 size := ha.size
 os := ha.os
 tape := ha.tape
 output := ha.output
 Bl id g sz n e f hh := by rw [hh]; exact ⟨aeb _, fun _ => ⟨rfl, rfl, rfl, rfl⟩⟩
 dead _ hh := hh
 bN b k _ hc := kA.of_same (ha.blocks b hc.lt) hc
 maps id g sz n e f b base ho hm hb := ⟨let ⟨es, c, h5⟩ := hb; ⟨es, c, (ha.blocks b (aed.1 h5).1).trans h5⟩, .inr ⟨⟨g, sz, n, e, f, ho⟩, hm⟩⟩
 u5 b id i j _ hb := let ⟨es, c, h5⟩ := hb; ⟨es, c, (ha.blocks b (aed.1 h5).1).trans h5⟩
theorem sR.Bk (hm : sR μ h S w) (hF : Fr μ h S w μ' h' S' w') : L7 S' w' :=
 hm.known.AU (fun b hb => hF.blocks b (hm.slt b hb) (fun ho => hm.apart b ho hb)) hF.sub
theorem sR.agree (ha : cy w w') (hm : sR μ h S w) : sR μ h S w' :=
 ⟨hm.apart, fun b hb => aez (hm.lt b hb) ha.size, fun b hb => aez (hm.slt b hb) ha.size, hm.inj, hm.known.AU (fun b hb => ha.blocks b (hm.slt b hb)) (fun _ hb => hb), hm.hv, hm.hh⟩
theorem cp.agree (ha : cy w w') (hm : sR μ h S w) (hh : cp μ h S w) : cp μ h S w' := by
 intro id g sz n e f ho
 obtain ⟨h1, h2⟩ := hh id g sz n e f ho
 refine ⟨h1, ?_⟩
 cases iH : μ id with
 | none => rw [iH] at h2; exact h2
 | some p =>
  obtain ⟨b, base⟩ := p
  rw [iH] at h2
  obtain ⟨o, h3, h4⟩ := h2
  have bP : b < w.heap.size := (aed.1 h3).1
  exact ⟨o, (ha.blocks b bP).trans h3, h4.mono (fun i j pv v hi hj hr => hr.fr (Fr.xa ha) hm (fun bV n' e' f' F' he b' nO => ha.blocks b' (hm.lt b' (.inr ⟨id, i, j, g, sz, n, e, f, bV, n', e', f', F', ho, hi, by rw [hj, he], nO⟩))))⟩
end
end Go.Am
