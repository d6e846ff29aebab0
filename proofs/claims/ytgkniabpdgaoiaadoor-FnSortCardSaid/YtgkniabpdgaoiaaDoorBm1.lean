/- The abstract machine: values without addresses, a heap of numbered objects of the call's own, and the condition 'vc' under which a piece of code runs. Definitions alone; their meaning is proved in the texts that import this one. -/
import Derived.WalkKit
import Derived.Deep.Draws
import Derived.Deep.Quiet
import Derived.Test.YtgkniabpdgaoiaaDoorBm0
namespace Go.Am
open Go Go.RowKit
inductive PV where
 | int (k : IntKind) (n : Int)
 | bool (b : Bool)
 | str (s : List UInt8)
 | nils
 | slc (sz n : Nat) (f : Nat → List PV)
 | pptr (cells : List PV)
 | own (id gen off len : Nat)
 | optr (id gen i off : Nat)
 | omp (id : Nat)
 | clo (f : Nat) (caps : List (Nat × Nat))
 | fn (f : Nat)
 | agg (cs : List PV)
 | tup (vs : List PV)
 | junk
 deriving Inhabited
abbrev Env := Nat → PV
inductive AObj where
 | row (gen sz n : Nat) (e : TypeId) (f : Nat → List PV)
 | dead
 deriving Inhabited
inductive TI where
 | int (k : IntKind)
 | bool
 | str
 | slice (e sz bytes : Nat) (zero : List PV)
 | struct (sz : Nat) (fields : List (Nat × Nat × Bool)) (zero : List PV)
 | ptr (e : Nat)
 | map (k e : Nat) (zero : PV)
 | other
 deriving Inhabited
structure Tab where
 get : Nat → TI
def upd (env : Env) (t : Nat) (v : PV) : Env := fun j => bif Nat.beq j t then v else env j
def updO (env : Env) (d : Option Nat) (v : PV) : Env := match d with | some t => upd env t v | none => env
def updL (env : Env) : List (Nat × PV) → Env
 | [] => env
 | (t, v) :: r => upd (updL env r) t v
inductive splitB (b : Bool) (T F : Prop) : Prop
 | mk (ht : b = true → T) (hf : b = false → F) : splitB b T F
theorem splitB_elim {b : Bool} {T F : Prop} (h : splitB b T F) : (b = true → T) ∧ (b = false → F) := by cases h with | mk a b => exact ⟨a, b⟩
def guardB (b : Bool) (K : Prop) : Prop := match b with | true => K | false => False
theorem guardB_elim {b : Bool} {K : Prop} (h : guardB b K) : b = true ∧ K := by cases b; exact h.elim; exact ⟨rfl, h⟩
def kindEq : IntKind → IntKind → Bool
 | .i8, .i8 => true
 | .i16, .i16 => true
 | .i32, .i32 => true
 | .i64, .i64 => true
 | .u8, .u8 => true
 | .u16, .u16 => true
 | .u32, .u32 => true
 | .u64, .u64 => true
 | _, _ => false
theorem kindEq_elim {k k' : IntKind} (h : kindEq k k' = true) : k = k' := by cases k <;> cases k' <;> first | rfl | cases h
def ofV1 : Value → Option PV
 | .int k n => some (.int k n)
 | .bool b => some (.bool b)
 | .string s => some (.str s.data.toList)
 | .slice none 0 0 => some .nils
 | _ => none
def ofVL : List Value → Option (List PV)
 | [] => some []
 | v :: r => match ofV1 v, ofVL r with
  | some p, some l => some (p :: l)
  | _, _ => none
def aggOf : Option (List PV) → PV
 | some l => .agg l
 | none => .junk
def ofValue : Value → PV
 | .int k n => .int k n
 | .bool b => .bool b
 | .string s => .str s.data.toList
 | .slice none 0 0 => .nils
 | .agg vs => aggOf (ofVL vs.toList)
 | _ => .junk
inductive Le1 : PV → PV → Prop
 | same (a : PV) : Le1 a a
 | nil (sz : Nat) (f : Nat → List PV) : Le1 .nils (.slc sz 0 f)
def CLe : List PV → List PV → Prop
 | [], [] => True
 | a :: l, b :: r => Le1 a b ∧ CLe l r
 | _, _ => False
def ev (env : Env) : Operand → PV
 | .tmp t => env t
 | .const v => ofValue v
 | .func f => .fn f
 | .global _ => .junk
abbrev Mu := Nat → Option (Nat × Nat)
inductive PRep (S : Nat → Prop) (w : World) : PV → Value → Prop
 | int (k : IntKind) (n : Int) : PRep S w (.int k n) (.int k n)
 | bool (b : Bool) : PRep S w (.bool b) (.bool b)
 | str (s : List UInt8) : PRep S w (.str s) (.string ⟨⟨s⟩⟩)
 | nils : PRep S w .nils (.slice none 0 0)
 | fn (f : Nat) : PRep S w (.fn f) (.func (.func f) #[] #[])
 | slc0 (sz : Nat) (f : Nat → List PV) (a : Option Addr) (c : Nat) : PRep S w (.slc sz 0 f) (.slice a 0 c)
 | slc (sz n : Nat) (f : Nat → List PV) (b off c : Nat) (vf : Nat → Nat → Value) (hS : S b) (hlen : ∀ i, i < n → (f i).length = sz) (hc : n ≤ c)
   (hcell : ∀ (i j : Nat) (pv : PV), i < n → (f i)[j]? = some pv → w.cell? ⟨b, off + i * sz + j, none⟩ = some (vf i j))
   (hrep : ∀ (i j : Nat) (pv : PV), i < n → (f i)[j]? = some pv → PRep S w pv (vf i j)) : PRep S w (.slc sz n f) (.slice (some ⟨b, off, none⟩) n c)
 | pptr (cs : List PV) (b off : Nat) (vf : Nat → Value) (hS : S b)
   (hcell : ∀ (j : Nat) (pv : PV), cs[j]? = some pv → w.cell? ⟨b, off + j, none⟩ = some (vf j))
   (hrep : ∀ (j : Nat) (pv : PV), cs[j]? = some pv → PRep S w pv (vf j)) : PRep S w (.pptr cs) (.pointer (some ⟨b, off, none⟩))
def CapOk (w : World) (b k : Nat) : Prop := ∃ cur e, w.heap[b]? = some (.cells cur e (0, 0)) ∧ k ≤ cur.size
def OwnRep (μ : Mu) (h : List AObj) (w : World) (id gen off len : Nat) (v : Value) : Prop :=
 (∃ a l c, v = .slice a l c) ∧ match h[id]? with
 | some (AObj.row g sz n _ _) => gen ≤ g ∧ (gen = g → off + len ≤ n ∧ match μ id with
  | none => v = .slice none 0 0
  | some (b, base) => ∃ a cap, v = .slice (some a) len cap ∧ len ≤ cap ∧ (0 < cap → a = ⟨b, base + off * sz, none⟩) ∧ CapOk w b (base + (off + cap) * sz))
 | some AObj.dead => True
 | none => False
def OptrRep (μ : Mu) (h : List AObj) (w : World) (id gen i off : Nat) (v : Value) : Prop :=
 (∃ a, v = .pointer a) ∧ match h[id]? with
 | some (AObj.row g sz n _ _) => gen ≤ g ∧ (gen = g → i < n ∧ ∃ b base, μ id = some (b, base) ∧ CapOk w b 0 ∧ v = .pointer (some ⟨b, base + i * sz + off, none⟩))
 | some AObj.dead => True
 | none => False
def MapBlk (w : World) (b : Nat) : Prop := ∃ es clock, w.heap[b]? = some (.map es clock)
def OmpRep (μ : Mu) (h : List AObj) (w : World) (id : Nat) (v : Value) : Prop :=
 (∃ a, v = .map a) ∧ match h[id]? with
 | some (AObj.row _ _ _ _ _) => ∃ b base, μ id = some (b, base) ∧ MapBlk w b ∧ v = .map (some b)
 | some AObj.dead => True
 | none => False
def CloP (O : Nat → Nat → Value → Prop) (f : Nat) (caps : List (Nat × Nat)) (v : Value) : Prop :=
 ∃ vs : Array Value, v = .func (.func f) #[] vs ∧ vs.size = caps.length ∧ ∀ (j : Nat) (p : Nat × Nat), caps[j]? = some p → ∃ u : Value, vs[j]? = some u ∧ O p.1 p.2 u
theorem CloP.mono {O O' : Nat → Nat → Value → Prop} {f : Nat} {caps : List (Nat × Nat)} {v : Value} (h : CloP O f caps v) (hO : ∀ id g u, O id g u → O' id g u) : CloP O' f caps v := by
 obtain ⟨vs, h1, h2, h3⟩ := h
 exact ⟨vs, h1, h2, fun j p hj => let ⟨u, q1, q2⟩ := h3 j p hj; ⟨u, q1, hO _ _ _ q2⟩⟩
def capMap (σ : Nat → Nat) (caps : List (Nat × Nat)) : List (Nat × Nat) := caps.map fun p => (σ p.1, p.2)
theorem CloP.map {O : Nat → Nat → Value → Prop} {σ : Nat → Nat} {f : Nat} {caps : List (Nat × Nat)} {v : Value} (h : CloP (fun id g u => O (σ id) g u) f caps v) : CloP O f (capMap σ caps) v := by
 obtain ⟨vs, h1, h2, h3⟩ := h
 refine ⟨vs, h1, by unfold capMap; rw [List.length_map]; exact h2, fun j p hj => ?_⟩
 unfold capMap at hj
 rw [List.getElem?_map] at hj
 cases hx : caps[j]? with
 | none => rw [hx] at hj; cases hj
 | some q =>
  rw [hx] at hj
  injection hj with hj
  subst hj
  exact h3 j q hx
theorem CloP.unmap {O : Nat → Nat → Value → Prop} {σ : Nat → Nat} {f : Nat} {caps : List (Nat × Nat)} {v : Value} (h : CloP O f (capMap σ caps) v) : CloP (fun id g u => O (σ id) g u) f caps v := by
 obtain ⟨vs, h1, h2, h3⟩ := h
 refine ⟨vs, h1, by unfold capMap at h2; rw [List.length_map] at h2; exact h2, fun j p hj => ?_⟩
 obtain ⟨u, q1, q2⟩ := h3 j (σ p.1, p.2) (by unfold capMap; rw [List.getElem?_map, hj]; rfl)
 exact ⟨u, q1, q2⟩
def CloRep (μ : Mu) (h : List AObj) (w : World) (f : Nat) (caps : List (Nat × Nat)) (v : Value) : Prop := CloP (fun id g u => OptrRep μ h w id g 0 0 u) f caps v
def scal1 : PV → Bool
 | .int _ _ => true
 | .bool _ => true
 | .str _ => true
 | .junk => true
 | _ => false
def scalA : PV → Bool
 | .agg cs => cs.all scal1
 | v => scal1 v
def SRep1 : PV → Value → Prop
 | .int k n, v => v = .int k n
 | .bool b, v => v = .bool b
 | .str s, v => v = .string ⟨⟨s⟩⟩
 | _, v => v.oneCell' = true
def SRep : PV → Value → Prop
 | .agg cs, v => ∃ vs : Array Value, v = .agg vs ∧ vs.size = cs.length ∧ ∀ (j : Nat) (pv : PV), cs[j]? = some pv → ∃ u : Value, vs[j]? = some u ∧ SRep1 pv u
 | .junk, _ => True
 | pv, v => SRep1 pv v
def ObjRep (C : PV → Value → Prop) (base sz n : Nat) (e : TypeId) (f : Nat → List PV) : Obj → Prop
 | .cells cur e' z => e' = e ∧ z = (0, 0) ∧ base + n * sz ≤ cur.size ∧ ∀ (i j : Nat) (pv : PV), i < n → (f i)[j]? = some pv → ∃ v : Value, cur[base + i * sz + j]? = some v ∧ C pv v
 | .map es _ => es.size = n ∧ ∀ i, i < n → ∃ (kp vp : PV) (en : MapEntry), f i = [kp, vp] ∧ scalA kp = true ∧ scalA vp = true ∧ es[i]? = some en ∧ SRep kp en.key ∧ SRep vp en.val
 | _ => False
theorem ObjRep.mono {C C' : PV → Value → Prop} {base sz n : Nat} {e : TypeId} {f : Nat → List PV} {o : Obj} (h : ObjRep C base sz n e f o) (hc : ∀ (i j : Nat) (pv : PV) (v : Value), i < n → (f i)[j]? = some pv → C pv v → C' pv v) : ObjRep C' base sz n e f o := by
 cases o with
 | cells cur e' z =>
  obtain ⟨h1, h2, h3, h4⟩ := h
  exact ⟨h1, h2, h3, fun i j pv hi hj => let ⟨v, q1, q2⟩ := h4 i j pv hi hj; ⟨v, q1, hc i j pv v hi hj q2⟩⟩
 | map es c => exact h
 | _ => exact h.elim
def CRep (μ : Mu) (h : List AObj) (S : Nat → Prop) (w : World) : PV → Value → Prop
 | .own id gen off len, v => OwnRep μ h w id gen off len v
 | .optr id gen i off, v => OptrRep μ h w id gen i off v
 | .omp id, v => OmpRep μ h w id v
 | .clo f caps, v => CloRep μ h w f caps v
 | .junk, v => v.oneCell' = true
 | .agg _, _ => False
 | .tup _, _ => False
 | pv, v => PRep S w pv v
def ARep (μ : Mu) (h : List AObj) (S : Nat → Prop) (w : World) : PV → Value → Prop
 | .agg cs, v => ∃ vs : Array Value, v = .agg vs ∧ vs.size = cs.length ∧ ∀ (j : Nat) (pv : PV), cs[j]? = some pv → ∃ u : Value, vs[j]? = some u ∧ CRep μ h S w pv u
 | .junk, _ => True
 | pv, v => CRep μ h S w pv v
def VRep (μ : Mu) (h : List AObj) (S : Nat → Prop) (w : World) : PV → Value → Prop
 | .tup ps, v => ∃ vs : Array Value, v = .tuple vs ∧ vs.size = ps.length ∧ ∀ (j : Nat) (pv : PV), ps[j]? = some pv → ∃ u : Value, vs[j]? = some u ∧ ARep μ h S w pv u
 | pv, v => ARep μ h S w pv v
def HeapRep (μ : Mu) (h : List AObj) (S : Nat → Prop) (w : World) : Prop :=
 ∀ (id g sz n : Nat) (e : TypeId) (f : Nat → List PV), h[id]? = some (AObj.row g sz n e f) → (∀ i, i < n → (f i).length = sz) ∧ match μ id with
  | none => n = 0
  | some (b, base) => ∃ o : Obj, w.heap[b]? = some o ∧ ObjRep (CRep μ h S w) base sz n e f o
theorem HeapRep.cells {μ : Mu} {h : List AObj} {S : Nat → Prop} {w : World} {b base k sz n : Nat} {e : TypeId} {f : Nat → List PV} (hc : CapOk w b k) (ho : ∃ o : Obj, w.heap[b]? = some o ∧ ObjRep (CRep μ h S w) base sz n e f o) :
  ∃ cur : Array Value, w.heap[b]? = some (.cells cur e (0, 0)) ∧ base + n * sz ≤ cur.size ∧
    ∀ (i j : Nat) (pv : PV), i < n → (f i)[j]? = some pv → ∃ v : Value, cur[base + i * sz + j]? = some v ∧ CRep μ h S w pv v := by
 obtain ⟨cur, e', h1, _⟩ := hc
 obtain ⟨o, h2, h3⟩ := ho
 obtain rfl := Option.some.inj (h1.symm.trans h2)
 obtain ⟨rfl, _, q1, q2⟩ := h3
 exact ⟨cur, h1, q1, q2⟩
theorem HeapRep.of_cells {C : PV → Value → Prop} {w : World} {b base sz n : Nat} {e : TypeId} {f : Nat → List PV} (ho : ∃ cur : Array Value, w.heap[b]? = some (.cells cur e (0, 0)) ∧ base + n * sz ≤ cur.size ∧
    ∀ (i j : Nat) (pv : PV), i < n → (f i)[j]? = some pv → ∃ v : Value, cur[base + i * sz + j]? = some v ∧ C pv v) : ∃ o : Obj, w.heap[b]? = some o ∧ ObjRep C base sz n e f o := by
 obtain ⟨cur, h1, h2, h3⟩ := ho
 exact ⟨_, h1, rfl, rfl, h2, h3⟩
def Owned (μ : Mu) (h : List AObj) (b : Nat) : Prop := ∃ (id g sz n : Nat) (e : TypeId) (f : Nat → List PV) (base : Nat), h[id]? = some (AObj.row g sz n e f) ∧ μ id = some (b, base)
def amb (S : Nat → Prop) (w : World) : Prop := (∀ p, p ∈ ambTabs → S p.1 ∧ ∃ t z, w.heap[p.1]? = some (.cells p.2 t z)) ∧ (∀ g, g ∈ ambSents → S g ∧ ∃ tp p t z, w.heap[g]? = some (.cells #[.iface tp p] t z)) ∧
 ∀ g, g ∈ ambInts → S g ∧ ∃ m t z, w.heap[g]? = some (.cells #[.int .i64 m] t z)
theorem amb.keep {S S' : Nat → Prop} {w w' : World} (h : amb S w) (hb : ∀ b, S b → w'.heap[b]? = w.heap[b]?) (hs : ∀ b, S b → S' b) : amb S' w' :=
 ⟨fun p hp => ⟨hs _ (h.1 p hp).1, by rw [hb _ (h.1 p hp).1]; exact (h.1 p hp).2⟩, fun g hg => ⟨hs _ (h.2.1 g hg).1, by rw [hb _ (h.2.1 g hg).1]; exact (h.2.1 g hg).2⟩,
  fun g hg => ⟨hs _ (h.2.2 g hg).1, by rw [hb _ (h.2.2 g hg).1]; exact (h.2.2 g hg).2⟩⟩
structure MuOk (μ : Mu) (h : List AObj) (S : Nat → Prop) (w : World) : Prop where
 apart : ∀ b, Owned μ h b → ¬ S b
 lt : ∀ b, Owned μ h b → b < w.heap.size
 slt : ∀ b, S b → b < w.heap.size
 inj : ∀ (i j g sz n : Nat) (e : TypeId) (f : Nat → List PV) (g' sz' n' : Nat) (e' : TypeId) (f' : Nat → List PV) (b o o' : Nat), h[i]? = some (AObj.row g sz n e f) → h[j]? = some (AObj.row g' sz' n' e' f') → μ i = some (b, o) → μ j = some (b, o') → i = j
 known : amb S w
structure Fr (μ : Mu) (h : List AObj) (S : Nat → Prop) (w : World) (μ' : Mu) (h' : List AObj) (S' : Nat → Prop) (w' : World) : Prop where
 len : h.length ≤ h'.length
 blocks : ∀ b, b < w.heap.size → ¬ Owned μ h b → w'.heap[b]? = w.heap[b]?
 sub : ∀ b, S b → S' b
 new : ∀ b, S' b → S b ∨ Owned μ h b ∨ w.heap.size ≤ b
 own : ∀ b, Owned μ' h' b → Owned μ h b ∨ w.heap.size ≤ b
 size : w.heap.size ≤ w'.heap.size
 os : w'.os = w.os
 tape : w'.tape = w.tape
 output : w'.output = w.output
 gens : ∀ (id g sz n : Nat) (e : TypeId) (f : Nat → List PV), h[id]? = some (AObj.row g sz n e f) → match h'[id]? with
  | some (AObj.row g' sz' n' e' _) => g ≤ g' ∧ (g' = g → μ' id = μ id ∧ sz' = sz ∧ n' = n ∧ e' = e)
  | some AObj.dead => True
  | none => False
 dead : ∀ id : Nat, h[id]? = some AObj.dead → h'[id]? = some AObj.dead
 caps : ∀ b k, Owned μ h b → CapOk w b k → CapOk w' b k
 maps : ∀ (id g sz n : Nat) (e : TypeId) (f : Nat → List PV) (b base : Nat), h[id]? = some (AObj.row g sz n e f) → μ id = some (b, base) → MapBlk w b →
  MapBlk w' b ∧ (h'[id]? = some AObj.dead ∨ ((∃ g' sz' n' e' f', h'[id]? = some (AObj.row g' sz' n' e' f')) ∧ μ' id = some (b, base)))
def FnOk (P : Program) (f : FuncId) : Prop := ∃ fn c, P.funcs[f]? = some fn ∧ fn.body = some c ∧ (fn.name == "runtime.NumGoroutine") = false
def ACall (P : Program) (f : FuncId) (args : List PV) (h : List AObj) (R : PV → List AObj → Prop) : Prop :=
 FnOk P f ∧ ∀ (w : World) (vs : Array Value) (μ : Mu) (S : Nat → Prop), HeapRep μ h S w → MuOk μ h S w → vs.size = args.length →
  (∀ (j : Nat) (pv : PV), args[j]? = some pv → ∃ v : Value, vs[j]? = some v ∧ ARep μ h S w pv v) →
  Calls P f vs w (fun e w' => ∃ (v : Value) (res : PV) (h' : List AObj) (μ' : Mu) (S' : Nat → Prop), e = .returned v ∧ R res h' ∧ VRep μ' h' S' w' res v ∧ HeapRep μ' h' S' w' ∧ MuOk μ' h' S' w' ∧ Fr μ h S w μ' h' S' w')
def isPure : PV → Bool
 | .int _ _ => true
 | .bool _ => true
 | .str _ => true
 | .nils => true
 | .slc _ _ _ => true
 | .pptr _ => true
 | .fn _ => true
 | _ => false
inductive Fz (h η : List AObj) (k : List Nat) : PV → PV → Prop
 | int (k' : IntKind) (n : Int) : Fz h η k (.int k' n) (.int k' n)
 | bool (b : Bool) : Fz h η k (.bool b) (.bool b)
 | str (s : List UInt8) : Fz h η k (.str s) (.str s)
 | nils : Fz h η k .nils .nils
 | nils0 (sz : Nat) (f : Nat → List PV) : Fz h η k .nils (.slc sz 0 f)
 | nilo (id id' g' sz' : Nat) (e' : TypeId) (f' : Nat → List PV) (hk : k[id']? = some id) (ho : h[id]? = none) (hη : η[id']? = some (AObj.row g' sz' 0 e' f')) : Fz h η k .nils (.own id' g' 0 0)
 | fn (f : Nat) : Fz h η k (.fn f) (.fn f)
 | slc (sz n : Nat) (f f' : Nat → List PV) (hf : ∀ i, i < n → f' i = f i) : Fz h η k (.slc sz n f) (.slc sz n f')
 | pptr (cs : List PV) : Fz h η k (.pptr cs) (.pptr cs)
 | junk (pv : PV) : Fz h η k pv .junk
 | own (id id' g g' sz sz' n n' off len : Nat) (e e' : TypeId) (f f' : Nat → List PV) (hk : k[id']? = some id) (ho : h[id]? = some (AObj.row g sz n e f)) (hη : η[id']? = some (AObj.row g' sz' n' e' f')) (hn : off + len ≤ n') : Fz h η k (.own id g off len) (.own id' g' off len)
 | optr (id id' g g' sz sz' n n' i off : Nat) (e e' : TypeId) (f f' : Nat → List PV) (hk : k[id']? = some id) (ho : h[id]? = some (AObj.row g sz n e f)) (hη : η[id']? = some (AObj.row g' sz' n' e' f')) (hn : i < n') : Fz h η k (.optr id g i off) (.optr id' g' i off)
 | omp (id id' g g' sz sz' n n' : Nat) (e e' : TypeId) (f f' : Nat → List PV) (hk : k[id']? = some id) (ho : h[id]? = some (AObj.row g sz n e f)) (hη : η[id']? = some (AObj.row g' sz' n' e' f')) : Fz h η k (.omp id) (.omp id')
 | clo (f : Nat) (caps caps' : List (Nat × Nat)) (hl : caps'.length = caps.length) (hc : ∀ (j : Nat) (p p' : Nat × Nat), caps[j]? = some p → caps'[j]? = some p' → k[p'.1]? = some p.1 ∧ (∃ sz n e f, h[p.1]? = some (AObj.row p.2 sz n e f)) ∧ ∃ sz n e f, η[p'.1]? = some (AObj.row p'.2 sz n e f) ∧ 0 < n) : Fz h η k (.clo f caps) (.clo f caps')
 | frz (id g sz n off len : Nat) (e : TypeId) (f f' : Nat → List PV) (hk : id ∉ k) (ho : h[id]? = some (AObj.row g sz n e f)) (hl : ∀ i, i < len → (f' i).length = (f (off + i)).length)
   (hp : ∀ (i j : Nat) (pv' : PV), i < len → (f' i)[j]? = some pv' → isPure pv' = true)
   (hf : ∀ (i j : Nat) (pv pv' : PV), i < len → (f (off + i))[j]? = some pv → (f' i)[j]? = some pv' → Fz h η k pv pv') : Fz h η k (.own id g off len) (.slc sz len f')
 | agg (cs cs' : List PV) (hl : cs'.length = cs.length) (hc : ∀ (j : Nat) (pv pv' : PV), cs[j]? = some pv → cs'[j]? = some pv' → Fz h η k pv pv') : Fz h η k (.agg cs) (.agg cs')
 | tup (cs cs' : List PV) (hl : cs'.length = cs.length) (hc : ∀ (j : Nat) (pv pv' : PV), cs[j]? = some pv → cs'[j]? = some pv' → Fz h η k pv pv') : Fz h η k (.tup cs) (.tup cs')
def FzL (h η : List AObj) (k : List Nat) : List PV → List PV → Prop
 | [], [] => True
 | a :: l, b :: r => Fz h η k a b ∧ FzL h η k l r
 | _, _ => False
def memB : List Nat → Nat → Bool
 | [], _ => false
 | a :: r, x => match Nat.beq a x with
  | true => true
  | false => memB r x
def nodupB : List Nat → Bool
 | [] => true
 | a :: r => match memB r a with
  | true => false
  | false => nodupB r
def liveK : List AObj → List Nat → List Nat
 | .row _ _ _ _ _ :: r, i :: is => i :: liveK r is
 | .dead :: r, _ :: is => liveK r is
 | _, _ => []
def OFz (h η : List AObj) (k : List Nat) (m : Nat) (o : AObj) (id' id : Nat) : Prop :=
 match o, h[id]? with
 | .row g' sz' n' e' f', some (AObj.row g sz n e f) => (id' < m → id' = id ∧ g' = g) ∧ sz' = sz ∧ (n' = n ∨ m ≤ id' ∧ sz ≠ 2 ∧ n' ≤ n) ∧ e' = e ∧
   ∀ i, i < n' → FzL h η k (f i) (f' i)
 | .dead, _ => True
 | .row _ _ n' _ _, none => m ≤ id' ∧ n' = 0
 | _, _ => False
def listSet (l : List PV) (off : Nat) : List PV → List PV
 | [] => l
 | c :: r => listSet (l.set off c) (off + 1) r
def cellsOf : PV → List PV
 | .agg cs => cs
 | v => [v]
def hget (h : List AObj) (id : Nat) : AObj := h.getD id .dead
def force (v : PV) (K : PV → Prop) : Prop :=
 match v with
 | .int k n => K (.int k n)
 | .bool b => K (.bool b)
 | .str s => K (.str s)
 | .nils => K .nils
 | .slc sz n f => K (.slc sz n f)
 | .pptr cs => K (.pptr cs)
 | .own id gen off len => K (.own id gen off len)
 | .optr id gen i off => K (.optr id gen i off)
 | .omp id => K (.omp id)
 | .clo f caps => K (.clo f caps)
 | .fn f => K (.fn f)
 | .agg cs => K (.agg cs)
 | .tup vs => K (.tup vs)
 | .junk => K .junk
theorem force_elim {v : PV} {K : PV → Prop} (h : force v K) : K v := by cases v <;> exact h
def ptake (K : List PV → Prop) : Nat → List PV → List PV → Prop
 | 0, _, acc => K acc.reverse
 | _ + 1, [], _ => False
 | n + 1, c :: r, acc => force c fun v => ptake K n r (v :: acc)
theorem ptake_elim {K : List PV → Prop} : ∀ (n : Nat) (l acc : List PV), ptake K n l acc → n ≤ l.length ∧ K (acc.reverse ++ l.take n)
 | 0, l, acc, h => ⟨Nat.zero_le _, by simp only [List.take_zero, List.append_nil]; exact h⟩
 | _ + 1, [], _, h => h.elim
 | n + 1, c :: r, acc, h => by
  obtain ⟨h1, h2⟩ := ptake_elim n r (c :: acc) (force_elim h)
  exact ⟨by simp; omega, by simpa using h2⟩
def readAs (T : Tab) (t : Nat) (cells : List PV) (K : PV → Prop) : Prop :=
 match T.get t with
 | .struct sz _ _ => ptake (fun l => K (.agg l)) sz cells []
 | .other => False
 | _ => match cells with
  | c :: _ => force c K
  | [] => False
def pload (T : Tab) (t : Nat) (a : PV) (h : List AObj) (K : PV → Prop) : Prop :=
 match a with
 | .pptr cells => readAs T t cells K
 | .optr id gen i off => match hget h id with
  | .row g _ _ _ f => g = gen ∧ ∃ c, f i = c ∧ readAs T t (c.drop off) K
  | .dead => False
 | _ => False
def fset (f : Nat → List PV) (i : Nat) (l : List PV) : Nat → List PV := fun k => bif Nat.beq k i then l else f k
def flatZ : List PV → Bool
 | [] => true
 | .int _ _ :: r => flatZ r
 | .bool _ :: r => flatZ r
 | .str _ :: r => flatZ r
 | _ => false
def eqAnd (g : Bool) (q : Bool) : Option Bool → Option Bool
 | some c => match g with
  | true => some (q && c)
  | false => none
 | none => none
def eqC : List PV → List PV → List PV → Option Bool
 | [], [], [] => some true
 | .int k _ :: z, .int k1 a :: r, .int k2 b :: r' => eqAnd (kindEq k k1 && kindEq k k2) (a == b) (eqC z r r')
 | .bool _ :: z, .bool a :: r, .bool b :: r' => eqAnd true (a == b) (eqC z r r')
 | .str _ :: z, .str a :: r, .str b :: r' => eqAnd true (a == b) (eqC z r r')
 | _, _, _ => none
def keyEq (ti : TI) (a b : PV) : Option Bool :=
 match ti, a, b with
 | .int k, .int k1 x, .int k2 y => eqAnd (kindEq k k1 && kindEq k k2) (x == y) (some true)
 | .str, .str x, .str y => some (x == y)
 | .struct _ _ z, .agg xs, .agg ys => match flatZ z with
  | true => eqC z xs ys
  | false => none
 | _, _, _ => none
def MNone (ti : TI) (f : Nat → List PV) (n : Nat) (kv : PV) : Prop := ∀ j, j < n → ∃ kp vp, f j = [kp, vp] ∧ keyEq ti kv kp = some false
def MAt (ti : TI) (f : Nat → List PV) (n : Nat) (kv : PV) (i : Nat) (r : PV) : Prop := i < n ∧ MNone ti f i kv ∧ ∃ kp, f i = [kp, r] ∧ keyEq ti kv kp = some true
def MLook (ti : TI) (f : Nat → List PV) (n : Nat) (kv zv r : PV) (b : Bool) : Prop := (b = true ∧ ∃ i, MAt ti f n kv i r) ∨ (b = false ∧ r = zv ∧ MNone ti f n kv)
def MUpd (ti : TI) (f : Nat → List PV) (n : Nat) (kv vv : PV) (n' : Nat) (f' : Nat → List PV) : Prop :=
 (∃ i r, MAt ti f n kv i r ∧ n' = n ∧ f' i = [kv, vv] ∧ ∀ j, j < n → j ≠ i → f' j = f j) ∨ (MNone ti f n kv ∧ n' = n + 1 ∧ f' n = [kv, vv] ∧ ∀ j, j < n → f' j = f j)
def pbin (ti : TI) (bo : BinOp) (x y : PV) (K : PV → Prop) : Prop :=
 match x, y with
 | .int k a, .int k' b =>
  match bo with
  | .shl => 0 ≤ b ∧ K (.int k (k.wrap (a * 2 ^ min b.toNat k.bits)))
  | .shr => 0 ≤ b ∧ K (.int k (a.fdiv (2 ^ min b.toNat k.bits)))
  | _ => guardB (kindEq k k') <| match bo with
  | .and => K (.int k (bits .and k a b))
  | .or => K (.int k (bits .or k a b))
  | .xor => K (.int k (bits .xor k a b))
  | .andNot => K (.int k (bits .andNot k a b))
  | .add => K (.int k (k.wrap (a + b)))
  | .sub => K (.int k (k.wrap (a - b)))
  | .mul => K (.int k (k.wrap (a * b)))
  | .quo => b ≠ 0 ∧ K (.int k (k.wrap (a.tdiv b)))
  | .rem => b ≠ 0 ∧ K (.int k (a.tmod b))
  | .eql => K (.bool (a == b))
  | .neq => K (.bool (a != b))
  | .lss => K (.bool (decide (a < b)))
  | .leq => K (.bool (decide (a ≤ b)))
  | .gtr => K (.bool (decide (a > b)))
  | .geq => K (.bool (decide (a ≥ b)))
  | _ => False
 | .bool a, .bool b => match ti, bo with
  | .bool, .eql => K (.bool (a == b))
  | .bool, .neq => K (.bool (!(a == b)))
  | _, _ => False
 | .str a, .str b => match bo with
  | .add => a.length + b.length ≤ 4611686018427387904 ∧ ∃ s, a ++ b = s ∧ K (.str s)
  | .eql => K (.bool (a == b))
  | .neq => K (.bool (!(a == b)))
  | .lss => K (.bool (Op.bytesLess a b))
  | .leq => K (.bool (Op.bytesLess a b || a == b))
  | .gtr => K (.bool !(Op.bytesLess a b || a == b))
  | .geq => K (.bool !(Op.bytesLess a b))
  | _ => False
 | .agg xs, .agg ys => match ti with
  | .struct _ _ z => guardB (flatZ z) (match eqC z xs ys with
   | some b => match bo with
    | .eql => ∃ c, b = c ∧ K (.bool c)
    | .neq => ∃ c, b = c ∧ K (.bool !c)
    | _ => False
   | none => False)
  | _ => False
 | _, _ => False
def pslice (x : PV) (lo hi : Option PV) (K : PV → Prop) : Prop :=
 match x with
 | .slc sz n f => match lo, hi with
  | none, none => K (.slc sz n f)
  | some (.int _ l), none => (0 ≤ l ∧ l ≤ n) ∧ K (.slc sz (n - l.toNat) (fun i => f (l.toNat + i)))
  | none, some (.int _ m) => (0 ≤ m ∧ m ≤ n) ∧ K (.slc sz m.toNat f)
  | some (.int _ l), some (.int _ m) => (0 ≤ l ∧ l ≤ m ∧ m ≤ n) ∧ K (.slc sz (m.toNat - l.toNat) (fun i => f (l.toNat + i)))
  | _, _ => False
 | .own id gen off len => match lo, hi with
  | none, none => K (.own id gen off len)
  | some (.int _ l), none => (0 ≤ l ∧ l ≤ len) ∧ K (.own id gen (off + l.toNat) (len - l.toNat))
  | none, some (.int _ m) => (0 ≤ m ∧ m ≤ len) ∧ K (.own id gen off m.toNat)
  | some (.int _ l), some (.int _ m) => (0 ≤ l ∧ l ≤ m ∧ m ≤ len) ∧ K (.own id gen (off + l.toNat) (m.toNat - l.toNat))
  | _, _ => False
 | .str s => match lo, hi with
  | none, none => K (.str s)
  | some (.int _ l), none => (0 ≤ l ∧ l ≤ s.length) ∧ K (.str (s.drop l.toNat))
  | none, some (.int _ m) => (0 ≤ m ∧ m ≤ s.length) ∧ K (.str (s.take m.toNat))
  | some (.int _ l), some (.int _ m) => (0 ≤ l ∧ l ≤ m ∧ m ≤ s.length) ∧ K (.str ((s.take m.toNat).drop l.toNat))
  | _, _ => False
 | _ => False
def slcK (K : PV → Prop) (v : PV) : Prop :=
 match v with
 | .slc sz n f => ∃ n' f', n' = n ∧ (∀ i, i < n' → f' i = f i) ∧ K (.slc sz n' f')
 | .str s => ∃ s', s = s' ∧ K (.str s')
 | .own id g off n => ∃ off' n', off' = off ∧ n' = n ∧ K (.own id g off' n')
 | v => K v
def pmax (n : Nat) (hi mx : Option PV) : Prop :=
 match mx with
 | none => True
 | some (.int _ q) => match hi with
  | some (.int _ m) => m ≤ q ∧ q ≤ n
  | _ => False
 | _ => False
def isByte : List PV → Bool
 | [.int .u8 _] => true
 | _ => false
def byteOf : List PV → UInt8
 | [.int _ v] => UInt8.ofNat v.toNat
 | _ => 0
def pbytes (v : PV) (h : List AObj) (K : List UInt8 → Prop) : Prop :=
 match v with
 | .nils => K []
 | .slc sz n f => guardB (Nat.beq sz 1) (∃ s : List UInt8, s.length = n ∧ (∀ i, i < n → f i = [.int .u8 (s.getD i 0).toNat]) ∧ K s)
 | .own id gen off n => match hget h id with
  | .row g sz _ _ f => g = gen ∧ guardB (Nat.beq sz 1) (∃ s : List UInt8, s.length = n ∧ (∀ i, i < n → f (off + i) = [.int .u8 (s.getD i 0).toNat]) ∧ K s)
  | .dead => False
 | _ => False
def storable1 : PV → Bool
 | .agg _ => false
 | .tup _ => false
 | .junk => false
 | _ => true
def storable : PV → Bool
 | .agg cs => cs.all storable1
 | v => storable1 v
def pbuild (env : Env) (sz : Nat) (fl : List (Nat × Nat × Bool)) (K : List PV → Prop) : List (Nat × Operand) → List PV → Prop
 | [], acc => K acc
 | (k, x) :: r, acc => match fl[k]? with
  | some (o, size, _) => force (ev env x) fun v => guardB (storable v && Nat.beq (cellsOf v).length size && Nat.ble (o + size) sz) (pbuild env sz fl K r (listSet acc o (cellsOf v)))
  | none => False
def pcaps (env : Env) (K : List (Nat × Nat) → Prop) : List Operand → List (Nat × Nat) → Prop
 | [], acc => K acc.reverse
 | x :: r, acc => match ev env x with
  | .optr id gen 0 0 => pcaps env K r ((id, gen) :: acc)
  | _ => False
def spop (T : Tab) (op : Op) (env : Env) (h : List AObj) (K : PV → Prop) : Prop :=
 match op with
 | .move x => force (ev env x) K
 | .assign x => force (ev env x) K
 | .pick c a b => match ev env c with
  | .bool t => splitB t (force (ev env a) K) (force (ev env b) K)
  | _ => False
 | .binOp bo t x y _ => pbin (T.get t) bo (ev env x) (ev env y) K
 | .unOp u _ x => match u, ev env x with
  | .not, .bool b => K (.bool !b)
  | .neg, .int k n => K (.int k (k.wrap (0 - n)))
  | _, _ => False
 | .load t a => pload T t (ev env a) h K
 | .convert s d x => match T.get s, T.get d, ev env x with
  | .int _, .int k, .int _ n => K (.int k (k.wrap n))
  | .slice e _ _ _, .str, v => match T.get e with
   | .int .u8 => pbytes v h (fun s => K (.str s))
   | _ => False
  | _, _, _ => False
 | .nilCheck x => match ev env x with
  | .pptr cs => K (.pptr cs)
  | .optr id gen i off => match hget h id with
   | .row g _ _ _ _ => g = gen ∧ K (.optr id gen i off)
   | .dead => False
  | _ => False
 | .fieldAddr s x k => match T.get s with
  | .struct _ fl _ => match fl[k]? with
   | some (o, _, _) => match ev env x with
    | .pptr cs => K (.pptr (cs.drop o))
    | .optr id gen i off => match hget h id with
     | .row g _ _ _ _ => g = gen ∧ K (.optr id gen i (off + o))
     | .dead => False
    | _ => False
   | none => False
  | _ => False
 | .field s x k => match T.get s with
  | .struct _ fl _ => match fl[k]? with
   | some (o, size, ag) => match ev env x with
    | .agg cs => match ag with
     | true => ptake (fun l => K (.agg l)) size (cs.drop o) []
     | false => match cs.drop o with
      | c :: _ => force c K
      | [] => False
    | _ => False
   | none => False
  | _ => False
 | .build t parts => match T.get t with
  | .struct sz fl z => pbuild env sz fl (fun cs => K (.agg cs)) parts.toList z
  | _ => False
 | .indexAddr t x i => match T.get t, ev env x, ev env i with
  | .slice _ sz _ _, .slc sz' n f, .int _ i => guardB (Nat.beq sz sz') ((0 ≤ i ∧ i < n) ∧ ∃ c, f i.toNat = c ∧ K (.pptr c))
  | .slice _ sz _ _, .own id gen off len, .int _ i => match hget h id with
   | .row g sz' _ _ _ => g = gen ∧ guardB (Nat.beq sz sz') ((0 ≤ i ∧ i < len) ∧ ∃ j, off + i.toNat = j ∧ K (.optr id gen j 0))
   | .dead => False
  | _, _, _ => False
 | .index t x i => match T.get t, ev env x, ev env i with
  | .str, .str s, .int _ i => (0 ≤ i ∧ i < s.length) ∧ ∃ c, s.getD i.toNat 0 = c ∧ K (.int .u8 (c : UInt8).toNat)
  | _, _, _ => False
 | .lookup t x i ok => match T.get t, ev env x with
  | .map kt _ zv, .omp id => match hget h id with
   | .row _ _ n _ f => force (ev env i) fun kv => guardB (keyEq (T.get kt) kv kv).isSome (∃ r b, MLook (T.get kt) f n kv zv r b ∧ match ok with
    | true => K (.tup [r, .bool b])
    | false => force r K)
   | .dead => False
  | _, _ => False
 | .makeFunc fn first captured => match fn with
  | .func f => guardB first.isEmpty (pcaps env (fun caps => K (.clo f caps)) captured.toList [])
  | _ => False
 | .extract x i => match ev env x with
  | .tup vs => match vs[i]? with
   | some v => force v K
   | none => False
  | _ => False
 | .slice t x lo hi mx => match T.get t, ev env x with
  | .slice _ sz _ _, .slc sz' n f => guardB (Nat.beq sz sz') (pmax n (hi.map (ev env)) (mx.map (ev env)) ∧ pslice (.slc sz' n f) (lo.map (ev env)) (hi.map (ev env)) (slcK K))
  | .slice _ sz _ _, .own id gen off len => match hget h id with
   | .row g sz' _ _ _ => g = gen ∧ guardB (Nat.beq sz sz') (pmax len (hi.map (ev env)) (mx.map (ev env)) ∧ pslice (.own id gen off len) (lo.map (ev env)) (hi.map (ev env)) (slcK K))
   | .dead => False
  | .str, .str s => guardB mx.isNone (pslice (.str s) (lo.map (ev env)) (hi.map (ev env)) (slcK K))
  | _, _ => False
 | .call ⟨.builtin .len, args, ts⟩ => match args.toList, ts.toList with
  | [x], [t] => match T.get t, ev env x with
   | .slice _ _ _ _, .slc _ n _ => K (.int .i64 n)
   | .slice _ _ _ _, .nils => K (.int .i64 0)
   | .slice _ _ _ _, .own id gen _ n => match hget h id with
    | .row g _ _ _ _ => g = gen ∧ K (.int .i64 n)
    | .dead => False
   | .str, .str s => K (.int .i64 s.length)
   | .map _ _ _, .omp id => match hget h id with
    | .row _ _ n _ _ => K (.int .i64 n)
    | .dead => False
   | _, _ => False
  | _, _ => False
 | _ => False
def tySize : TI → Nat
 | .struct sz _ _ => sz
 | .other => 0
 | _ => 1
def tyZero : TI → Option (List PV)
 | .int k => some [.int k 0]
 | .bool => some [.bool false]
 | .str => some [.str []]
 | .slice _ _ _ _ => some [.nils]
 | .struct _ _ z => some z
 | _ => none
def idxOk (len : Nat) : Nat → List (Nat × Operand) → Bool
 | k, [] => Nat.beq k len
 | k, (i, _) :: r => Nat.beq i k && idxOk len (k + 1) r
def pparts (env : Env) (sz : Nat) (K : List (List PV) → Prop) : List (Nat × Operand) → List (List PV) → Prop
 | [], acc => K acc.reverse
 | (_, x) :: r, acc => force (ev env x) fun v => guardB (storable v && Nat.beq (cellsOf v).length sz) (pparts env sz K r (cellsOf v :: acc))
theorem pparts_elim {env : Env} {sz : Nat} {K : List (List PV) → Prop} : ∀ (l : List (Nat × Operand)) (acc : List (List PV)), pparts env sz K l acc →
  (∀ p ∈ l, storable (ev env p.2) = true ∧ Nat.beq (cellsOf (ev env p.2)).length sz = true) ∧ K (acc.reverse ++ l.map fun p => cellsOf (ev env p.2))
 | [], acc, h => ⟨fun p hp => by simp at hp, by simp only [List.map_nil, List.append_nil]; exact h⟩
 | (i, x) :: r, acc, h => by
  obtain ⟨h1, h2⟩ := guardB_elim (force_elim h)
  simp only [Bool.and_eq_true] at h1
  obtain ⟨h3, h4⟩ := pparts_elim r _ h2
  refine ⟨fun p hp => ?_, by simpa using h4⟩
  simp only [List.mem_cons] at hp
  rcases hp with rfl | hp
  ·exact h1
  ·exact h3 p hp
def psrc (x : PV) (h : List AObj) (sz : Nat) (K : Nat → (Nat → List PV) → Prop) : Prop :=
 match x with
 | .nils => K 0 (fun _ => [])
 | .slc sz' m g => guardB (Nat.beq sz sz') (K m g)
 | .own id gen off m => match hget h id with
  | .row g sz' _ _ f => g = gen ∧ guardB (Nat.beq sz sz') (K m (fun i => f (off + i)))
  | .dead => False
 | .str s => guardB (Nat.beq sz 1) <| K s.length (fun i => [.int .u8 (s.getD i 0).toNat])
 | _ => False
def pappend (e sz bytes : Nat) (s x : PV) (h : List AObj) (K : PV → List AObj → Prop) : Prop :=
 match s with
 | .nils => psrc x h sz fun m g => m * bytes ≤ 140737488355328 ∧ ∃ n' f', n' = m ∧ (∀ i, i < n' → CLe (g i) (f' i)) ∧ K (.own h.length 0 0 n') (h ++ [.row 0 sz n' e f'])
 | .own id gen off len => match hget h id with
  | .row g sz' _ e' f => g = gen ∧ guardB (Nat.beq sz sz' && Nat.beq e e') (psrc x h sz fun m q => (len + m) * bytes ≤ 140737488355328 ∧ ∃ n' f', n' = len + m ∧
    (∀ i, i < n' → CLe (bif Nat.blt i len then f (off + i) else q (i - len)) (f' i)) ∧
    K (.own id (gen + 1) 0 n') (h.set id (.row (gen + 1) sz n' e f')))
  | .dead => False
 | _ => False
def cpF (f : Nat → List PV) (off m : Nat) (q : Nat → List PV) : Nat → List PV := fun i => bif Nat.blt i off then f i else bif Nat.blt i (off + m) then q (i - off) else f i
def pcopy (e sz : Nat) (s x : PV) (h : List AObj) (K : PV → List AObj → Prop) : Prop :=
 match s with
 | .own id gen off len => match hget h id with
  | .row g sz' n e' f => g = gen ∧ guardB (Nat.beq sz sz' && Nat.beq e e') (psrc x h sz fun m q => m ≤ len ∧ ∃ f', (∀ i, i < n → CLe (cpF f off m q i) (f' i)) ∧ K (.int .i64 m) (h.set id (.row g sz n e f')))
  | .dead => False
 | _ => False
def notTup : PV → Bool
 | .tup _ => false
 | _ => true
inductive pcall (P : Program) (f : FuncId) (args : List PV) (h : List AObj) (K : PV → List AObj → Prop) : Prop
 | mk (R : PV → List AObj → Prop) (hA : ACall P f args h R) (hk : ∀ res h', R res h' → K res h')
def pop (P : Program) (T : Tab) (op : Op) (env : Env) (h : List AObj) (K : PV → List AObj → Prop) : Prop :=
 match op with
 | .store t a x => match ev env a with
  | .optr id gen i off => match hget h id with
   | .row g sz n e f => g = gen ∧ force (ev env x) fun v => guardB (storable v && Nat.ble 1 (tySize (T.get t)) && Nat.beq (tySize (T.get t)) (cellsOf v).length && Nat.ble (off + (cellsOf v).length) sz)
     (∃ c f', f i = c ∧ (∀ j, j < n → CLe (fset f i (listSet c off (cellsOf v)) j) (f' j)) ∧ K .junk (h.set id (.row g sz n e f')))
   | .dead => False
  | _ => False
 | .box t x => force (ev env x) fun v => guardB (storable v && Nat.beq (cellsOf v).length (tySize (T.get t))) (K (.optr h.length 0 0 0) (h ++ [.row 0 (tySize (T.get t)) 1 t (fun _ => cellsOf v)]))
 | .alloc t => match tyZero (T.get t) with
  | some z => K (.optr h.length 0 0 0) (h ++ [.row 0 (tySize (T.get t)) 1 t (fun _ => z)])
  | none => False
 | .makeSlice t l c => match T.get t, ev env l, ev env c with
  | .slice e sz bytes zero, .int _ n, .int _ m => (0 ≤ n ∧ n ≤ m ∧ m ≤ 4611686018427387904 ∧ m.toNat * bytes ≤ 140737488355328) ∧ ∃ n' f', n' = n.toNat ∧ (∀ i, i < n' → CLe zero (f' i)) ∧ K (.own h.length 0 0 n') (h ++ [.row 0 sz n' e f'])
  | _, _, _ => False
 | .buildSlice t len parts => match T.get t with
  | .slice e sz _ _ => guardB (idxOk len 0 parts.toList && Nat.ble (len * sz) 65536) (pparts env sz (fun cs => ∃ f', (∀ i, i < len → CLe (cs.getD i []) (f' i)) ∧ K (.own h.length 0 0 len) (h ++ [.row 0 sz len e f'])) parts.toList [])
  | _ => False
 | .convert s d x => match T.get s, T.get d, ev env x with
  | .str, .slice e _ _ _, .str b => match T.get e with
   | .int .u8 => ∃ f', (∀ i, i < b.length → f' i = [.int .u8 (b.getD i 0).toNat]) ∧ K (.slc 1 b.length f') h
   | _ => False
  | _, _, _ => spop T (.convert s d x) env h (fun v => K v h)
 | .binOp bo t x y ty => match bo, T.get t, ev env x, ev env y with
  | .eql, .slice _ _ _ _, .slc _ n _, .nils => (n = 0 → K (.bool true) h) ∧ K (.bool false) h
  | _, _, _, _ => spop T (.binOp bo t x y ty) env h (fun v => K v h)
 | .makeMap t none => match T.get t with
  | .map _ _ _ => ∃ f', K (.omp h.length) (h ++ [.row 0 2 0 t f'])
  | _ => False
 | .mapUpdate t m k x => match T.get t, ev env m with
  | .map kt _ _, .omp id => match hget h id with
   | .row g sz n e f => force (ev env k) fun kv => force (ev env x) fun vv => guardB ((keyEq (T.get kt) kv kv).isSome && scalA vv && storable vv && Nat.beq sz 2)
     (∃ n' f', MUpd (T.get kt) f n kv vv n' f' ∧ K .junk (h.set id (.row (g + 1) 2 n' e f')))
   | .dead => False
  | _, _ => False
 | .call ⟨.builtin .append, args, ts⟩ => match args.toList, ts.toList with
  | [s, x], [t, tx] => match T.get t, T.get tx with
   | .slice e sz bytes _, .slice _ _ _ _ => pappend e sz bytes (ev env s) (ev env x) h K
   | .slice e sz bytes _, .str => pappend e sz bytes (ev env s) (ev env x) h K
   | _, _ => False
  | _, _ => False
 | .call ⟨.builtin .copy, args, ts⟩ => match args.toList, ts.toList with
  | [s, x], [t, tx] => match T.get t, T.get tx with
   | .slice e sz _ _, .slice _ _ _ _ => pcopy e sz (ev env s) (ev env x) h K
   | .slice e sz _ _, .str => pcopy e sz (ev env s) (ev env x) h K
   | _, _ => False
  | _, _ => False
 | .call ⟨.value fo, args, _⟩ => match ev env fo with
  | .fn f => guardB (args.toList.all (fun x => notTup (ev env x))) (pcall P f (args.toList.map (ev env)) h K)
  | .clo f caps => guardB (args.toList.all (fun x => notTup (ev env x))) (pcall P f (args.toList.map (ev env) ++ caps.map fun p => .optr p.1 p.2 0 0) h K)
  | _ => False
 | op => spop T op env h (fun v => K v h)
def pops (P : Program) (T : Tab) (all : List Oper) (K : Env → List AObj → Prop) (l : List Oper) : Env → List AObj → Prop :=
 List.rec (motive := fun _ => Env → List AObj → Prop) K (fun o _ ih env h => match o.guard with
  | none => pop P T o.op env h (fun v h' => ih (updO env o.dst v) h')
  | some (j, want) => match (all[j]?).bind (·.dst) with
   | some t => match env t with
    | .bool b => splitB b
      (match want with
       | true => pop P T o.op (upd env t (.bool true)) h (fun v h' => ih (updO (upd env t (.bool true)) o.dst v) h')
       | false => ih (updO (upd env t (.bool true)) o.dst (.tup [])) h)
      (match want with
       | true => ih (updO (upd env t (.bool false)) o.dst (.tup [])) h
       | false => pop P T o.op (upd env t (.bool false)) h (fun v h' => ih (updO (upd env t (.bool false)) o.dst v) h'))
    | .tup [] => ih (updO env o.dst (.tup [])) h
    | _ => False
   | none => False) l
abbrev XQ := Exit → Env → List AObj → Prop
def XQ.then (next : Env → List AObj → Prop) (Q : XQ) : XQ
 | .normal, env, h => next env h
 | e, env, h => Q e env h
def XQ.inBlock (id : Nat) (Q : XQ) : XQ
 | .exit id', env, h => match Nat.beq id' id with
  | true => Q .normal env h
  | false => Q (.exit id') env h
 | e, env, h => Q e env h
def FzEnv (h η : List AObj) (k : List Nat) (env : Env) : List (Nat × PV) → Prop
 | [] => True
 | (t, v) :: r => Fz h η k (env t) v ∧ FzEnv h η k env r
def FzHeap (h η : List AObj) (k : List Nat) (m : Nat) : Nat → List AObj → List Nat → Prop
 | _, [], [] => True
 | i, o :: r, id :: r' => OFz h η k m o i id ∧ FzHeap h η k m (i + 1) r r'
 | _, _, _ => False
def Taken (m : Nat) (env : Env) (h : List AObj) (σ : List (Nat × PV)) (η : List AObj) : Prop :=
 ∃ k : List Nat, nodupB (liveK η k) = true ∧ m ≤ k.length ∧ FzEnv h η k env σ ∧ FzHeap h η k m 0 η k
def junkEnv : Env := fun _ => .junk
inductive LoopI (m : Nat) (body : (Env → List AObj → Prop) → Env → List AObj → Prop) : Env → List AObj → Prop
 | take {env : Env} {h : List AObj} (σ : List (Nat × PV)) (η : List AObj) (ht : Taken m env h σ η) (hk : LoopI m body (updL junkEnv σ) η) : LoopI m body env h
 | step {env : Env} {h : List AObj} (N : Env → List AObj → Prop) (hN : ∀ e h', N e h' → LoopI m body e h') (hb : body N env h) : LoopI m body env h
def LoopAt (m : Nat) (body : (Env → List AObj → Prop) → Env → List AObj → Prop) (σ : List (Nat × PV)) (η : List AObj) : Prop := LoopI m body (updL junkEnv σ) η
inductive loopGo (m : Nat) (body : (Env → List AObj → Prop) → Env → List AObj → Prop) (env : Env) (h : List AObj) : Prop
 | mk (σ : List (Nat × PV)) (η : List AObj) (ht : Taken m env h σ η) (hk : LoopAt m body σ η)
theorem LoopAt.enter {m : Nat} {body : (Env → List AObj → Prop) → Env → List AObj → Prop} {env : Env} {h : List AObj} (σ : List (Nat × PV)) (η : List AObj) (ht : Taken m env h σ η) (hk : LoopAt m body σ η) : LoopI m body env h := .take σ η ht hk
theorem LoopAt.round {m : Nat} {body : (Env → List AObj → Prop) → Env → List AObj → Prop} {σ : List (Nat × PV)} {η : List AObj} (hb : body (loopGo m body) (updL junkEnv σ) η) : LoopAt m body σ η :=
 .step (loopGo m body) (fun _ _ ⟨σ, η, ht, hk⟩ => .take σ η ht hk) hb
inductive cutGo (m : Nat) (J : List (Nat × PV) → List AObj → Prop) (env : Env) (h : List AObj) : Prop
 | mk (σ : List (Nat × PV)) (η : List AObj) (ht : Taken m env h σ η) (hj : J σ η)
inductive SeqVC (m : Nat) (A B : XQ → Env → List AObj → Prop) (Q : XQ) (env : Env) (h : List AObj) : Prop
 | direct (hd : A (XQ.then (B Q) Q) env h) : SeqVC m A B Q env h
 | cut (J : List (Nat × PV) → List AObj → Prop) (ha : A (XQ.then (cutGo m J) Q) env h) (hb : ∀ σ η, J σ η → B Q (updL junkEnv σ) η) : SeqVC m A B Q env h
def quietCall : Op → Bool
 | .call ⟨.value _, _, _⟩ => false
 | .call ⟨.builtin .append, _, _⟩ => false
 | .call ⟨.builtin .copy, _, _⟩ => false
 | .store _ _ _ => false
 | .box _ _ => false
 | .alloc _ => false
 | .makeSlice _ _ _ => false
 | .buildSlice _ _ _ => false
 | .makeMap _ _ => false
 | .mapUpdate _ _ _ _ => false
 | _ => true
def scalarB : PV → Bool
 | .int _ _ => true
 | .bool _ => true
 | .str _ => true
 | .nils => true
 | _ => false
def qcall (P : Program) (fo : PV) (args : List PV) (h : List AObj) (K : PV → Prop) : Prop :=
 match fo with
 | .fn f => guardB (args.all notTup) (∃ (args' : List PV) (v : PV), FzL h [] [] args args' ∧ args'.all notTup = true ∧ ACall P f args' [] (fun res _ => res = v) ∧ guardB (scalarB v) (K v))
 | _ => False
def qop (P : Program) (T : Tab) (op : Op) (env : Env) (h : List AObj) (K : PV → Prop) : Prop :=
 match op with
 | .call ⟨.value fo, args, _⟩ => qcall P (ev env fo) (args.toList.map (ev env)) h K
 | op => spop T op env h K
def qops (P : Program) (T : Tab) (all : List Oper) (h : List AObj) (K : Env → Prop) (l : List Oper) : Env → Prop :=
 List.rec (motive := fun _ => Env → Prop) K (fun o _ ih env => match o.guard with
  | none => qop P T o.op env h (fun v => ih (updO env o.dst v))
  | some (j, want) => match (all[j]?).bind (·.dst) with
   | some t => match env t with
    | .bool b => splitB b
      (match want with
       | true => qop P T o.op (upd env t (.bool true)) h (fun v => ih (updO (upd env t (.bool true)) o.dst v))
       | false => ih (updO (upd env t (.bool true)) o.dst (.tup [])))
      (match want with
       | true => ih (updO (upd env t (.bool false)) o.dst (.tup []))
       | false => qop P T o.op (upd env t (.bool false)) h (fun v => ih (updO (upd env t (.bool false)) o.dst v)))
    | .tup [] => ih (updO env o.dst (.tup []))
    | _ => False
   | none => False) l
def inL : List Nat → Nat → Bool
 | [], _ => false
 | a :: r, x => match Nat.beq a x with
  | true => true
  | false => inL r x
def rdyL (done : List Nat) : Nat → List Oper → List Nat
 | _, [] => []
 | j, o :: r => match inL done j || !(o.after.toList.all fun e => !(Region.binds .any e) || inL done e.on) with
  | true => rdyL done (j + 1) r
  | false => j :: rdyL done (j + 1) r
def allR : List Nat → (Nat → Prop) → Prop
 | [], _ => True
 | [i], F => F i
 | i :: r, F => F i ∧ allR r F
def dops (P : Program) (T : Tab) (all : List Oper) (K : Env → List AObj → Prop) : Nat → List Nat → Env → List AObj → Prop
 | 0, _, env, h => K env h
 | f + 1, done, env, h => allR (rdyL done 0 all) (fun i => match all[i]? with
  | some o => pops P T all (fun env' h' => dops P T all K f (i :: done) env' h') [o] env h
  | none => False)
def chkD (ops : Array Oper) : Nat → Array Bool → List Nat → Bool
 | 0, listed, _ => (Region.ready .any ops listed).isEmpty
 | f + 1, listed, done => !(Region.ready .any ops listed).isEmpty && (Region.ready .any ops listed).all (fun i => inL (rdyL done 0 ops.toList) i && chkD ops f (listed.setIfInBounds i true) (i :: done))
def idsOf : PV → List Nat
 | .own id _ _ _ => [id]
 | .optr id _ _ _ => [id]
 | .omp id => [id]
 | .clo _ caps => caps.map (·.1)
 | _ => []
def opIds (env : Env) (op : Op) : List Nat := match op with | .move _ => [] | _ => op.operands.toList.flatMap fun x => idsOf (ev env x)
def depsOf (o : Oper) : List Nat := o.after.toList.filterMap fun e => match Region.binds .any e with | true => some e.on | false => none
def depsAt (all : List Oper) (i : Nat) : List Nat := match all[i]? with | some o => depsOf o | none => []
def lookA : List (Nat × List Nat) → Nat → List Nat
 | [], _ => []
 | (j, A) :: r, i => match Nat.beq j i with | true => A | false => lookA r i
def ddL : List Nat → List Nat → List Nat
 | [], acc => acc
 | a :: r, acc => match inL acc a with | true => ddL r acc | false => ddL r (a :: acc)
def ancT (all : List Oper) : List (Nat × Bool) → List (Nat × List Nat) → List (Nat × List Nat)
 | [], t => t
 | (i, _) :: r, t => ancT all r ((i, ddL (depsAt all i ++ (depsAt all i).flatMap (lookA t)) []) :: t)
def apartAt (ops : Array Oper) (i j : Nat) : Bool := match ops[i]?, ops[j]? with | some x, some y => Oper.apart ops x y | _, _ => false
def pairOk (ops : Array Oper) (t : List (Nat × List Nat)) (p i : Nat × Bool) : Bool :=
 !(Nat.beq p.1 i.1) && !(inL (depsAt ops.toList p.1) i.1) && (inL (depsAt ops.toList i.1) p.1 || (apartAt ops p.1 i.1 && (p.2 || inL (lookA t i.1) p.1)))
def pairsOk (ops : Array Oper) (t : List (Nat × List Nat)) : List (Nat × Bool) → Bool
 | [] => true
 | p :: r => r.all (pairOk ops t p) && pairsOk ops t r
def floatOk (ops : Array Oper) (ord : List (Nat × Bool)) : Bool :=
 Nat.beq ord.length ops.size && (List.range ops.size).all (fun j => inL (ord.map (·.1)) j) && ord.all (fun p => Nat.blt p.1 ops.size && (depsAt ops.toList p.1).all (fun d => Nat.blt d ops.size && !(Nat.beq d p.1))) && pairsOk ops (ancT ops.toList ord []) ord
def keepIds (h h' : List AObj) (K : Prop) : List Nat → Prop
 | [] => K
 | id :: r => hget h id = hget h' id ∧ keepIds h h' K r
def keepAll (anc : List Nat) (h h' : List AObj) (K : Prop) : List (Nat × List Nat) → Prop
 | [] => K
 | (j, ids) :: r => match inL anc j with
  | true => keepAll anc h h' K r
  | false => keepIds h h' (keepAll anc h h' K r) ids
def frun (P : Program) (T : Tab) (st : Bool) (op : Op) (env : Env) (h : List AObj) (G : PV → List AObj → Prop) : Prop :=
 match st with
 | true => spop T op env h (fun v => G v h)
 | false => pop P T op env h G
def fstep (P : Program) (T : Tab) (all : List Oper) (st : Bool) (o : Oper) (F : Env → PV → List AObj → Prop) (env : Env) (h : List AObj) : Prop :=
 match o.guard with
 | none => frun P T st o.op env h (F env)
 | some (j, want) => match (all[j]?).bind (·.dst) with
  | some t => match env t with
   | .bool b => splitB b
     (match want with
      | true => frun P T st o.op (upd env t (.bool true)) h (F (upd env t (.bool true)))
      | false => F (upd env t (.bool true)) (.tup []) h)
     (match want with
      | true => F (upd env t (.bool false)) (.tup []) h
      | false => frun P T st o.op (upd env t (.bool false)) h (F (upd env t (.bool false))))
   | .tup [] => F env (.tup []) h
   | _ => False
  | none => False
def fw (P : Program) (T : Tab) (all : List Oper) (t : List (Nat × List Nat)) (K : Env → List AObj → Prop) (l : List (Nat × Bool)) : List (Nat × List Nat) → Env → List AObj → Prop :=
 List.rec (motive := fun _ => List (Nat × List Nat) → Env → List AObj → Prop) (fun _ env h => K env h) (fun p _ ih fps env h => match all[p.1]? with
  | some o => match p.2 with
   | true => fstep P T all true o (fun env' v h' => ih ((p.1, opIds env' o.op) :: fps) (updO env' o.dst v) h') env h
   | false => fstep P T all false o (fun env' v h' => keepAll (lookA t p.1) h h' (ih fps (updO env' o.dst v) h') fps) env h
  | none => False) l
def floatOk2 (ops : Array Oper) (ord : List (Nat × Bool)) (x : Nat) (ra : List (Nat × Bool)) (y : Nat) (rb : List (Nat × Bool)) : Bool :=
 Nat.beq (ord.length + (ra.length + 1)) ops.size && Nat.beq rb.length ra.length && (List.range ops.size).all (fun j => inL ((ord ++ (x, false) :: ra).map (·.1)) j) && (ord ++ (x, false) :: ra).all (fun p => Nat.blt p.1 ops.size && (depsAt ops.toList p.1).all (fun d => Nat.blt d ops.size && !(Nat.beq d p.1))) &&
  pairsOk ops (ancT ops.toList (ord ++ (x, false) :: ra) []) (ord ++ ra) && pairsOk ops (ancT ops.toList (ord ++ (x, false) :: ra) []) (ord ++ rb) &&
  ord.all (fun p => pairOk ops (ancT ops.toList (ord ++ (x, false) :: ra) []) p (x, false) && pairOk ops (ancT ops.toList (ord ++ (x, false) :: ra) []) p (y, false) && (depsAt ops.toList p.1).all (fun d => !(inL (((x, false) :: ra).map (·.1)) d))) &&
  (((x, false) :: ra).map (·.1)).all (fun j => inL (((y, false) :: rb).map (·.1)) j) && (((y, false) :: rb).map (·.1)).all (fun j => inL (((x, false) :: ra).map (·.1)) j) &&
  (depsAt ops.toList x).all (fun d => !(inL (((x, false) :: ra).map (·.1)) d)) && !(inL (ra.map (·.1)) x) && !(inL (rb.map (·.1)) y) &&
  ra.all (fun p => Nat.beq p.1 y || inL (lookA (ancT ops.toList (ord ++ (x, false) :: ra) []) p.1) x || inL (lookA (ancT ops.toList (ord ++ (x, false) :: ra) []) p.1) y)
def fw2 (P : Program) (T : Tab) (all : List Oper) (t : List (Nat × List Nat)) (A B : List (Nat × Bool)) (K : Env → List AObj → Prop) (l : List (Nat × Bool)) : List (Nat × List Nat) → Env → List AObj → Prop :=
 List.rec (motive := fun _ => List (Nat × List Nat) → Env → List AObj → Prop) (fun fps env h => fw P T all t K A fps env h ∧ fw P T all t K B fps env h) (fun p _ ih fps env h => match all[p.1]? with
  | some o => match p.2 with
   | true => fstep P T all true o (fun env' v h' => ih ((p.1, opIds env' o.op) :: fps) (updO env' o.dst v) h') env h
   | false => fstep P T all false o (fun env' v h' => keepAll (lookA t p.1) h h' (ih fps (updO env' o.dst v) h') fps) env h
  | none => False) l
def fwE (P : Program) (T : Tab) (all : List Oper) (t : List (Nat × List Nat)) (E : List (Nat × List Nat) → Env → List AObj → Prop) (l : List (Nat × Bool)) : List (Nat × List Nat) → Env → List AObj → Prop :=
 List.rec (motive := fun _ => List (Nat × List Nat) → Env → List AObj → Prop) (fun fps env h => E fps env h) (fun p _ ih fps env h => match all[p.1]? with
  | some o => match p.2 with
   | true => fstep P T all true o (fun env' v h' => ih ((p.1, opIds env' o.op) :: fps) (updO env' o.dst v) h') env h
   | false => fstep P T all false o (fun env' v h' => keepAll (lookA t p.1) h h' (ih fps (updO env' o.dst v) h') fps) env h
  | none => False) l
def brOk (ops : Array Oper) (t : List (Nat × List Nat)) (ord : List (Nat × Bool)) (x y : Nat) (RX RY : List Nat) : Bool :=
 Nat.beq RX.length RY.length && ord.all (fun p => pairOk ops t p (x, false) && pairOk ops t p (y, false) && (depsAt ops.toList p.1).all (fun d => !(inL (x :: RX) d)) && !(inL (x :: RX) p.1)) &&
  (x :: RX).all (fun j => inL (y :: RY) j) && (y :: RY).all (fun j => inL (x :: RX) j) && (depsAt ops.toList x).all (fun d => !(inL (x :: RX) d)) && !(inL RX x) && !(inL RY y) &&
  RX.all (fun j => Nat.beq j y || inL (lookA t j) x || inL (lookA t j) y)
def floatOk3 (ops : Array Oper) (ord : List (Nat × Bool)) (x : Nat) (o1 : List (Nat × Bool)) (x1 : Nat) (ra1 : List (Nat × Bool)) (y1 : Nat) (rb1 : List (Nat × Bool)) (y : Nat) (rb : List (Nat × Bool)) : Bool :=
 (fun all => (fun t => Nat.beq all.length ops.size && (List.range ops.size).all (fun j => inL (all.map (·.1)) j) && all.all (fun p => Nat.blt p.1 ops.size && (depsAt ops.toList p.1).all (fun d => Nat.blt d ops.size && !(Nat.beq d p.1))) &&
  pairsOk ops t ((ord ++ o1) ++ ra1) && pairsOk ops t ((ord ++ o1) ++ rb1) && pairsOk ops t (ord ++ rb) &&
  brOk ops t ord x y (o1.map (·.1) ++ x1 :: ra1.map (·.1)) (rb.map (·.1)) && brOk ops t (ord ++ o1) x1 y1 (ra1.map (·.1)) (rb1.map (·.1))) (ancT ops.toList all [])) (ord ++ (x, false) :: (o1 ++ (x1, false) :: ra1))
def fw3 (P : Program) (T : Tab) (all : List Oper) (t : List (Nat × List Nat)) (x : Nat) (o1 : List (Nat × Bool)) (x1 : Nat) (ra1 : List (Nat × Bool)) (y1 : Nat) (rb1 : List (Nat × Bool)) (y : Nat) (rb : List (Nat × Bool)) (K : Env → List AObj → Prop) (l : List (Nat × Bool)) : List (Nat × List Nat) → Env → List AObj → Prop :=
 fwE P T all t (fun fps env h => fwE P T all t (fun fps env h => fw P T all t K ((x1, false) :: ra1) fps env h ∧ fw P T all t K ((y1, false) :: rb1) fps env h) ((x, false) :: o1) fps env h ∧ fw P T all t K ((y, false) :: rb) fps env h) l
inductive DrawVC (P : Program) (T : Tab) (m : Nat) (ops : Array Oper) (K : Env → List AObj → Prop) (env : Env) (h : List AObj) : Prop
 | quiet (hq : qops P T ops.toList h (fun env' => K env' h) ops.toList env) : DrawVC P T m ops K env h
 | orders (σ : List (Nat × PV)) (η : List AObj) (hc : chkD ops ops.size (Array.replicate ops.size false) [] = true) (hd : dops P T ops.toList (fun env' h' => Taken m env' h' σ η) ops.toList.length [] env h)
   (hk : K (updL junkEnv σ) η) : DrawVC P T m ops K env h
 | float2 (ord : List (Nat × Bool)) (x : Nat) (ra : List (Nat × Bool)) (y : Nat) (rb : List (Nat × Bool)) (hc : floatOk2 ops ord x ra y rb = true) (hf : fw2 P T ops.toList (ancT ops.toList (ord ++ (x, false) :: ra) []) ((x, false) :: ra) ((y, false) :: rb) K ord [] env h) : DrawVC P T m ops K env h
 | float3 (ord : List (Nat × Bool)) (x : Nat) (o1 : List (Nat × Bool)) (x1 : Nat) (ra1 : List (Nat × Bool)) (y1 : Nat) (rb1 : List (Nat × Bool)) (y : Nat) (rb : List (Nat × Bool)) (hc : floatOk3 ops ord x o1 x1 ra1 y1 rb1 y rb = true)
   (hf : fw3 P T ops.toList (ancT ops.toList (ord ++ (x, false) :: (o1 ++ (x1, false) :: ra1)) []) x o1 x1 ra1 y1 rb1 y rb K ord [] env h) : DrawVC P T m ops K env h
 | float (ord : List (Nat × Bool)) (hc : floatOk ops ord = true) (hf : fw P T ops.toList (ancT ops.toList ord []) K ord [] env h) : DrawVC P T m ops K env h
def drawK (Q : XQ) (env : Env) (h : List AObj) : Prop := Q .normal env h
def drawQ (Q : XQ) (h : List AObj) (env : Env) : Prop := Q .normal env h
def vc (P : Program) (T : Tab) (m : Nat) (c : Code) : XQ → Env → List AObj → Prop :=
 Code.rec (motive := fun _ => XQ → Env → List AObj → Prop)
  (fun Q env h => Q .normal env h)
  (fun _ ops d Q env h => match d with
   | false => pops P T ops.toList (Q .normal) ops.toList env h
   | true => match ops.toList.all (fun o => quietCall o.op) with
    | true => qops P T ops.toList h (drawQ Q h) ops.toList env
    | false => DrawVC P T m ops (drawK Q) env h)
  (fun _ _ iha ihb Q env h => SeqVC m iha ihb Q env h)
  (fun c _ _ iha ihb Q env h => match ev env c with
   | .bool t => splitB t (iha Q env h) (ihb Q env h)
   | _ => False)
  (fun id _ ih Q env h => ih (XQ.inBlock id Q) env h)
  (fun _ ih Q env h => LoopI m (fun next => ih (XQ.then next Q)) env h)
  (fun _ _ _ _ _ _ _ _ _ => False)
  (fun id Q env h => Q (.exit id) env h)
  (fun _ _ _ _ _ => False)
  (fun _ Q env h => Q .normal env h)
  (fun _ _ _ _ => False)
  (fun Q env h => Q .ret env h)
  (fun _ _ _ _ => False) c
def codeOk (nt : Nat) : Code → Bool
 | .region _ ops d => ops.toList.all (fun o => match o.dst with | some t => Nat.blt t nt | none => true) && (!d || Region.lexB .any ops)
 | .seq a b => codeOk nt a && codeOk nt b
 | .cond _ a b => codeOk nt a && codeOk nt b
 | .block _ c => codeOk nt c
 | .loop c => codeOk nt c
 | _ => true
def retVals (T : Tab) (env : Env) (h : List AObj) : List ResultVar → (List PV → Prop) → Prop
 | [], K => K []
 | .tmp t :: r, K => retVals T env h r (fun vs => K (env t :: vs))
 | .cell t ty :: r, K => pload T ty (env t) h (fun v => retVals T env h r (fun vs => K (v :: vs)))
def oneOf : List PV → PV
 | [v] => v
 | vs => .tup vs
inductive Ends (m : Nat) (R : PV → List AObj → Prop) (h : List AObj) (vs : List PV) : Prop
 | mk (hn : vs.all notTup = true) (k : List Nat) (res : PV) (η : List AObj) (hk : nodupB (liveK η k) = true) (hm : m ≤ k.length) (hz : Fz h η k (oneOf vs) res) (hh : FzHeap h η k m 0 η k) (hR : R res η)
def RetQ (T : Tab) (rs : List ResultVar) (m : Nat) (R : PV → List AObj → Prop) : XQ
 | .ret, env, h => retVals T env h rs (Ends m R h)
 | .normal, env, h => retVals T env h rs (Ends m R h)
 | _, _, _ => False
def entryEnv (args : List PV) : Env := fun t => args.getD t .junk
end Go.Am
