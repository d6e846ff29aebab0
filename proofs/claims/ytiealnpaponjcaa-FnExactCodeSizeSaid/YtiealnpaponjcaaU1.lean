/- Trees of Param, Ins, Func, Field, Method, Class, Program: their types, and equality. -/
import Derived.Test.YtiealnpaponjcaaR0
set_option linter.unusedVariables false
set_option linter.unusedSimpArgs false
namespace Go.Am
open Go Go.RowKit Go.Proofs

def tabT : Tab := mkTab [(3, .int .i64),
  (4, .bool),
  (5, .int .u8),
  (9, .str),
  (45, .slice 104 4 80 [.str [], .str [], .nils, .nils]),
  (22, .slice 88 8 96 [.bool false, .int .i64 0, .str [], .int .i64 0, .int .i64 0, .str [], .int .i64 0, .nils]),
  (101, .slice 137 8 104 [.str [], .str [], .bool false, .int .i64 0, .int .i64 0, .str [], .int .i64 0, .nils]),
  (44, .slice 99 6 120 [.str [], .nils, .nils, .nils, .bool false, .nils]),
  (97, .slice 37 5 56 [.int .i64 0, .int .i64 0, .int .i64 0, .str [], .str []]),
  (102, .slice 140 5 56 [.str [], .str [], .str [], .bool false, .bool false]),
  (96, .slice 134 2 24 [.str [], .bool false]),
  (76, .slice 9 1 16 [.str []]),
  (104, .struct 4 [(0, 1, false), (1, 1, false), (2, 1, false), (3, 1, false)] [.str [], .str [], .nils, .nils]),
  (88, .struct 8 [(0, 3, true), (3, 5, true)] [.bool false, .int .i64 0, .str [], .int .i64 0, .int .i64 0, .str [], .int .i64 0, .nils]),
  (137, .struct 8 [(0, 1, false), (1, 1, false), (2, 1, false), (3, 5, true)] [.str [], .str [], .bool false, .int .i64 0, .int .i64 0, .str [], .int .i64 0, .nils]),
  (99, .struct 6 [(0, 1, false), (1, 1, false), (2, 1, false), (3, 1, false), (4, 1, false), (5, 1, false)] [.str [], .nils, .nils, .nils, .bool false, .nils]),
  (37, .struct 5 [(0, 1, false), (1, 1, false), (2, 1, false), (3, 1, false), (4, 1, false)] [.int .i64 0, .int .i64 0, .int .i64 0, .str [], .str []]),
  (86, .struct 3 [(0, 1, false), (1, 1, false), (2, 1, false)] [.bool false, .int .i64 0, .str []]),
  (140, .struct 5 [(0, 1, false), (1, 1, false), (2, 1, false), (3, 1, false), (4, 1, false)] [.str [], .str [], .str [], .bool false, .bool false]),
  (134, .struct 2 [(0, 1, false), (1, 1, false)] [.str [], .bool false]),
  (47, .struct 2 [(0, 1, false), (1, 1, false)] [.nils, .nils]),
  (24, .struct 5 [(0, 1, false), (1, 1, false), (2, 1, false), (3, 1, false), (4, 1, false)] [.int .i64 0, .int .i64 0, .str [], .int .i64 0, .nils]),
  (51, .slice 109 4 80 [.str [], .str [], .nils, .nils]),
  (30, .slice 91 8 96 [.bool false, .int .i64 0, .str [], .int .i64 0, .int .i64 0, .str [], .int .i64 0, .nils]),
  (106, .slice 144 8 104 [.str [], .str [], .bool false, .int .i64 0, .int .i64 0, .str [], .int .i64 0, .nils]),
  (50, .slice 79 6 120 [.str [], .nils, .nils, .nils, .bool false, .nils]),
  (77, .slice 27 5 56 [.int .i64 0, .int .i64 0, .int .i64 0, .str [], .str []]),
  (107, .slice 146 5 56 [.str [], .str [], .str [], .bool false, .bool false]),
  (75, .slice 141 2 24 [.str [], .bool false]),
  (109, .struct 4 [(0, 1, false), (1, 1, false), (2, 1, false), (3, 1, false)] [.str [], .str [], .nils, .nils]),
  (91, .struct 8 [(0, 3, true), (3, 5, true)] [.bool false, .int .i64 0, .str [], .int .i64 0, .int .i64 0, .str [], .int .i64 0, .nils]),
  (144, .struct 8 [(0, 1, false), (1, 1, false), (2, 1, false), (3, 5, true)] [.str [], .str [], .bool false, .int .i64 0, .int .i64 0, .str [], .int .i64 0, .nils]),
  (79, .struct 6 [(0, 1, false), (1, 1, false), (2, 1, false), (3, 1, false), (4, 1, false), (5, 1, false)] [.str [], .nils, .nils, .nils, .bool false, .nils]),
  (27, .struct 5 [(0, 1, false), (1, 1, false), (2, 1, false), (3, 1, false), (4, 1, false)] [.int .i64 0, .int .i64 0, .int .i64 0, .str [], .str []]),
  (89, .struct 3 [(0, 1, false), (1, 1, false), (2, 1, false)] [.bool false, .int .i64 0, .str []]),
  (146, .struct 5 [(0, 1, false), (1, 1, false), (2, 1, false), (3, 1, false), (4, 1, false)] [.str [], .str [], .str [], .bool false, .bool false]),
  (141, .struct 2 [(0, 1, false), (1, 1, false)] [.str [], .bool false]),
  (53, .struct 2 [(0, 1, false), (1, 1, false)] [.nils, .nils]),
  (32, .struct 5 [(0, 1, false), (1, 1, false), (2, 1, false), (3, 1, false), (4, 1, false)] [.int .i64 0, .int .i64 0, .str [], .int .i64 0, .nils])]
theorem tabT_ok : TabOk Try.prog tabT := tabOk (by kernel_rfl)

structure TParam where
  name : List UInt8
  ref : Bool
def TParam.zero : TParam := ⟨[], false⟩
abbrev TParam.cells (x : TParam) : List PV := [.str x.name, .bool x.ref]
structure TParam.Ok (x : TParam) : Prop where
  name : x.name.length ≤ 9223372036854775807
structure TParam.Small (x : TParam) : Prop where
  name : x.name.length ≤ 1048576

structure TIns where
  op : Int
  a : Int
  b : Int
  s : List UInt8
  t : List UInt8
def TIns.zero : TIns := ⟨0, 0, 0, [], []⟩
abbrev TIns.cells (x : TIns) : List PV := [.int .i64 x.op, .int .i64 x.a, .int .i64 x.b, .str x.s, .str x.t]
structure TIns.Ok (x : TIns) : Prop where
  s : x.s.length ≤ 9223372036854775807
  t : x.t.length ≤ 9223372036854775807
structure TIns.Small (x : TIns) : Prop where
  s : x.s.length ≤ 1048576
  t : x.t.length ≤ 1048576

structure TFunc where
  name : List UInt8
  paramsN : Nat
  params : Nat → TParam
  usesN : Nat
  uses : Nat → TParam
  slotsN : Nat
  slots : Nat → List UInt8
  gen : Bool
  codeN : Nat
  code : Nat → TIns
def TFunc.zero : TFunc := ⟨[], 0, fun _ => TParam.zero, 0, fun _ => TParam.zero, 0, fun _ => [], false, 0, fun _ => TIns.zero⟩
abbrev TFunc.cells (x : TFunc) : List PV := [.str x.name, .slc 2 x.paramsN (fun i => TParam.cells (x.params i)), .slc 2 x.usesN (fun i => TParam.cells (x.uses i)), .slc 1 x.slotsN (fun i => [.str (x.slots i)]), .bool x.gen, .slc 5 x.codeN (fun i => TIns.cells (x.code i))]
structure TFunc.Ok (x : TFunc) : Prop where
  name : x.name.length ≤ 9223372036854775807
  paramsN : x.paramsN ≤ 9223372036854775807
  params : ∀ i, i < x.paramsN → (x.params i).Ok
  usesN : x.usesN ≤ 9223372036854775807
  uses : ∀ i, i < x.usesN → (x.uses i).Ok
  slotsN : x.slotsN ≤ 9223372036854775807
  slots : ∀ i, i < x.slotsN → (x.slots i).length ≤ 9223372036854775807
  codeN : x.codeN ≤ 9223372036854775807
  code : ∀ i, i < x.codeN → (x.code i).Ok
structure TFunc.Small (x : TFunc) : Prop where
  name : x.name.length ≤ 1048576
  paramsN : x.paramsN ≤ 1048576
  params : ∀ i, i < x.paramsN → (x.params i).Small
  usesN : x.usesN ≤ 1048576
  uses : ∀ i, i < x.usesN → (x.uses i).Small
  slotsN : x.slotsN ≤ 1048576
  slots : ∀ i, i < x.slotsN → (x.slots i).length ≤ 1048576
  codeN : x.codeN ≤ 1048576
  code : ∀ i, i < x.codeN → (x.code i).Small

structure TField where
  name : List UInt8
  owner : List UInt8
  priv : Bool
  init : V
def TField.zero : TField := ⟨[], [], false, V.none⟩
abbrev TField.cells (x : TField) : List PV := [.str x.name, .str x.owner, .bool x.priv, .int .i64 x.init.kind, .int .i64 x.init.num, .str x.init.str, .int .i64 x.init.next, .slc 8 x.init.n x.init.items]
structure TField.Ok (x : TField) : Prop where
  name : x.name.length ≤ 9223372036854775807
  owner : x.owner.length ≤ 9223372036854775807
  init : x.init.Ok
structure TField.Small (x : TField) : Prop where
  name : x.name.length ≤ 1048576
  owner : x.owner.length ≤ 1048576
  init : x.init.Small

structure TMethod where
  name : List UInt8
  owner : List UInt8
  orig : List UInt8
  priv : Bool
  stat : Bool
def TMethod.zero : TMethod := ⟨[], [], [], false, false⟩
abbrev TMethod.cells (x : TMethod) : List PV := [.str x.name, .str x.owner, .str x.orig, .bool x.priv, .bool x.stat]
structure TMethod.Ok (x : TMethod) : Prop where
  name : x.name.length ≤ 9223372036854775807
  owner : x.owner.length ≤ 9223372036854775807
  orig : x.orig.length ≤ 9223372036854775807
structure TMethod.Small (x : TMethod) : Prop where
  name : x.name.length ≤ 1048576
  owner : x.owner.length ≤ 1048576
  orig : x.orig.length ≤ 1048576

structure TClass where
  name : List UInt8
  parent : List UInt8
  fieldsN : Nat
  fields : Nat → TField
  methodsN : Nat
  methods : Nat → TMethod
def TClass.zero : TClass := ⟨[], [], 0, fun _ => TField.zero, 0, fun _ => TMethod.zero⟩
abbrev TClass.cells (x : TClass) : List PV := [.str x.name, .str x.parent, .slc 8 x.fieldsN (fun i => TField.cells (x.fields i)), .slc 5 x.methodsN (fun i => TMethod.cells (x.methods i))]
structure TClass.Ok (x : TClass) : Prop where
  name : x.name.length ≤ 9223372036854775807
  parent : x.parent.length ≤ 9223372036854775807
  fieldsN : x.fieldsN ≤ 9223372036854775807
  fields : ∀ i, i < x.fieldsN → (x.fields i).Ok
  methodsN : x.methodsN ≤ 9223372036854775807
  methods : ∀ i, i < x.methodsN → (x.methods i).Ok
structure TClass.Small (x : TClass) : Prop where
  name : x.name.length ≤ 1048576
  parent : x.parent.length ≤ 1048576
  fieldsN : x.fieldsN ≤ 1048576
  fields : ∀ i, i < x.fieldsN → (x.fields i).Small
  methodsN : x.methodsN ≤ 1048576
  methods : ∀ i, i < x.methodsN → (x.methods i).Small

structure TProgram where
  funcsN : Nat
  funcs : Nat → TFunc
  classesN : Nat
  classes : Nat → TClass
def TProgram.zero : TProgram := ⟨0, fun _ => TFunc.zero, 0, fun _ => TClass.zero⟩
abbrev TProgram.cells (x : TProgram) : List PV := [.slc 6 x.funcsN (fun i => TFunc.cells (x.funcs i)), .slc 4 x.classesN (fun i => TClass.cells (x.classes i))]
structure TProgram.Ok (x : TProgram) : Prop where
  funcsN : x.funcsN ≤ 9223372036854775807
  funcs : ∀ i, i < x.funcsN → (x.funcs i).Ok
  classesN : x.classesN ≤ 9223372036854775807
  classes : ∀ i, i < x.classesN → (x.classes i).Ok
structure TProgram.Small (x : TProgram) : Prop where
  funcsN : x.funcsN ≤ 1048576
  funcs : ∀ i, i < x.funcsN → (x.funcs i).Small
  classesN : x.classesN ≤ 1048576
  classes : ∀ i, i < x.classesN → (x.classes i).Small

theorem eqTParam (x : TParam) (ok : x.Ok) : ACall Try.prog 82 [.agg x.cells, .agg x.cells] [] (fun res h => res = .bool true ∧ h = []) := by
  refine ACall.of_vc tabT_ok mixed Try.func82 rfl (by kernel_rfl) _ _ _ rfl (by kernel_rfl) ?_
  refine ⟨rfl, rfl, rfl, rfl, splitB.mk (fun h => absurd h (by simp)) (fun _ => ?_)⟩
  refine ⟨rfl, rfl, rfl, rfl, splitB.mk (fun h => absurd h (by simp)) (fun _ => ?_)⟩
  exact ⟨[], .bool true, [], by simp, Nat.zero_le _, .bool _, trivial, rfl, rfl⟩

theorem eqTIns (x : TIns) (ok : x.Ok) : ACall Try.prog 10 [.agg x.cells, .agg x.cells] [] (fun res h => res = .bool true ∧ h = []) := by
  refine ACall.of_vc tabT_ok mixed Try.func10 rfl (by kernel_rfl) _ _ _ rfl (by kernel_rfl) ?_
  refine ⟨rfl, rfl, rfl, rfl, splitB.mk (fun h => absurd h (by simp)) (fun _ => ?_)⟩
  refine ⟨rfl, rfl, rfl, rfl, splitB.mk (fun h => absurd h (by simp)) (fun _ => ?_)⟩
  refine ⟨rfl, rfl, rfl, rfl, splitB.mk (fun h => absurd h (by simp)) (fun _ => ?_)⟩
  refine ⟨rfl, rfl, rfl, rfl, splitB.mk (fun h => absurd h (by simp)) (fun _ => ?_)⟩
  refine ⟨rfl, rfl, rfl, rfl, splitB.mk (fun h => absurd h (by simp)) (fun _ => ?_)⟩
  exact ⟨[], .bool true, [], by simp, Nat.zero_le _, .bool _, trivial, rfl, rfl⟩

theorem eqTParamS (n : Nat) (hn : n ≤ 9223372036854775807) (f : Nat → TParam) (hf : ∀ i, i < n → (f i).Ok) :
    ACall Try.prog 71 [.slc 2 n (fun i => TParam.cells (f i)), .slc 2 n (fun i => TParam.cells (f i))] [] (fun res h => res = .bool true ∧ h = []) := by
  refine ACall.of_vc tabT_ok mixed Try.func71 rfl (by kernel_rfl) _ _ _ rfl (by kernel_rfl) ?_
  refine splitB.mk (fun h => absurd h (by simp)) (fun h => ?_)
  refine LoopVC.mk Nat (fun k => [(0, .slc 2 n (fun i => TParam.cells (f i))), (1, .slc 2 n (fun i => TParam.cells (f i))), (5, .int .i64 k)])
    (fun k => []) (fun k => k ≤ n) (fun k => n - k) 0 (Nat.zero_le _) ?_ (fun k hk => ?_)
  · exact ⟨[], by simp, Nat.zero_le _, ⟨.slc_eq rfl (fun _ _ => rfl), .slc_eq rfl (fun _ _ => rfl), .int_eq rfl, trivial⟩, trivial⟩
  · refine splitB.mk (fun h => ?_) (fun h => ?_)
    · have h := of_decide_eq_true h
      have hkn : k < n := by omega
      refine .quiet ⟨⟨by omega, by omega⟩, ⟨by omega, by omega⟩, [.agg (TParam.cells (f k)), .agg (TParam.cells (f k))], .bool true, ⟨.agg_l ⟨.str_eq rfl, .bool_eq rfl, trivial⟩, .agg_l ⟨.str_eq rfl, .bool_eq rfl, trivial⟩, trivial⟩, rfl, (eqTParam (f k) (hf k hkn)).mono (fun _ _ h => h.1), ?_⟩
      refine splitB.mk (fun h => absurd h (by decide)) (fun _ => ?_)
      exact ⟨k + 1, by omega, by omega, [], by simp, Nat.zero_le _, ⟨.slc_eq rfl (fun _ _ => rfl), .slc_eq rfl (fun _ _ => rfl), .int_eq (by rw [w64] <;> omega), trivial⟩, trivial⟩
    · exact ⟨[], .bool true, [], by simp, Nat.zero_le _, .bool _, trivial, rfl, rfl⟩

theorem eqTStringS (n : Nat) (hn : n ≤ 9223372036854775807) (f : Nat → List UInt8) :
    ACall Try.prog 72 [.slc 1 n (fun i => [.str (f i)]), .slc 1 n (fun i => [.str (f i)])] [] (fun res h => res = .bool true ∧ h = []) := by
  refine ACall.of_vc tabT_ok mixed Try.func72 rfl (by kernel_rfl) _ _ _ rfl (by kernel_rfl) ?_
  refine splitB.mk (fun h => absurd h (by simp)) (fun h => ?_)
  refine LoopVC.mk Nat (fun k => [(0, .slc 1 n (fun i => [.str (f i)])), (1, .slc 1 n (fun i => [.str (f i)])), (5, .int .i64 k)])
    (fun k => []) (fun k => k ≤ n) (fun k => n - k) 0 (Nat.zero_le _) ?_ (fun k hk => ?_)
  · exact ⟨[], by simp, Nat.zero_le _, ⟨.slc_eq rfl (fun _ _ => rfl), .slc_eq rfl (fun _ _ => rfl), .int_eq rfl, trivial⟩, trivial⟩
  · refine splitB.mk (fun h => ?_) (fun h => ?_)
    · have h := of_decide_eq_true h
      have hkn : k < n := by omega
      refine ⟨⟨by omega, by omega⟩, ⟨by omega, by omega⟩, ?_⟩
      refine splitB.mk (fun h => absurd h (by simp)) (fun _ => ?_)
      exact ⟨k + 1, by omega, by omega, [], by simp, Nat.zero_le _, ⟨.slc_eq rfl (fun _ _ => rfl), .slc_eq rfl (fun _ _ => rfl), .int_eq (by rw [w64] <;> omega), trivial⟩, trivial⟩
    · exact ⟨[], .bool true, [], by simp, Nat.zero_le _, .bool _, trivial, rfl, rfl⟩

theorem eqTInsS (n : Nat) (hn : n ≤ 9223372036854775807) (f : Nat → TIns) (hf : ∀ i, i < n → (f i).Ok) :
    ACall Try.prog 73 [.slc 5 n (fun i => TIns.cells (f i)), .slc 5 n (fun i => TIns.cells (f i))] [] (fun res h => res = .bool true ∧ h = []) := by
  refine ACall.of_vc tabT_ok mixed Try.func73 rfl (by kernel_rfl) _ _ _ rfl (by kernel_rfl) ?_
  refine splitB.mk (fun h => absurd h (by simp)) (fun h => ?_)
  refine LoopVC.mk Nat (fun k => [(0, .slc 5 n (fun i => TIns.cells (f i))), (1, .slc 5 n (fun i => TIns.cells (f i))), (5, .int .i64 k)])
    (fun k => []) (fun k => k ≤ n) (fun k => n - k) 0 (Nat.zero_le _) ?_ (fun k hk => ?_)
  · exact ⟨[], by simp, Nat.zero_le _, ⟨.slc_eq rfl (fun _ _ => rfl), .slc_eq rfl (fun _ _ => rfl), .int_eq rfl, trivial⟩, trivial⟩
  · refine splitB.mk (fun h => ?_) (fun h => ?_)
    · have h := of_decide_eq_true h
      have hkn : k < n := by omega
      refine .quiet ⟨⟨by omega, by omega⟩, ⟨by omega, by omega⟩, [.agg (TIns.cells (f k)), .agg (TIns.cells (f k))], .bool true, ⟨.agg_l ⟨.int_eq rfl, .int_eq rfl, .int_eq rfl, .str_eq rfl, .str_eq rfl, trivial⟩, .agg_l ⟨.int_eq rfl, .int_eq rfl, .int_eq rfl, .str_eq rfl, .str_eq rfl, trivial⟩, trivial⟩, rfl, (eqTIns (f k) (hf k hkn)).mono (fun _ _ h => h.1), ?_⟩
      refine splitB.mk (fun h => absurd h (by decide)) (fun _ => ?_)
      exact ⟨k + 1, by omega, by omega, [], by simp, Nat.zero_le _, ⟨.slc_eq rfl (fun _ _ => rfl), .slc_eq rfl (fun _ _ => rfl), .int_eq (by rw [w64] <;> omega), trivial⟩, trivial⟩
    · exact ⟨[], .bool true, [], by simp, Nat.zero_le _, .bool _, trivial, rfl, rfl⟩

theorem eqTFunc (x : TFunc) (ok : x.Ok) : ACall Try.prog 56 [.agg x.cells, .agg x.cells] [] (fun res h => res = .bool true ∧ h = []) := by
  refine ACall.of_vc tabT_ok mixed Try.func56 rfl (by kernel_rfl) _ _ _ rfl (by kernel_rfl) ?_
  refine ⟨rfl, rfl, rfl, rfl, splitB.mk (fun h => absurd h (by simp)) (fun _ => ?_)⟩
  refine ⟨rfl, rfl, rfl, rfl, ?_⟩
  refine ⟨_, (eqTParamS x.paramsN ok.paramsN x.params ok.params).frame0 _ rfl (fun _ => rfl), ?_⟩
  rintro _ _ ⟨rfl, rfl⟩
  refine splitB.mk (fun h => absurd h (by decide)) (fun _ => ?_)
  refine ⟨rfl, rfl, rfl, rfl, ?_⟩
  refine ⟨_, (eqTParamS x.usesN ok.usesN x.uses ok.uses).frame0 _ rfl (fun _ => rfl), ?_⟩
  rintro _ _ ⟨rfl, rfl⟩
  refine splitB.mk (fun h => absurd h (by decide)) (fun _ => ?_)
  refine ⟨rfl, rfl, rfl, rfl, ?_⟩
  refine ⟨_, (eqTStringS x.slotsN ok.slotsN x.slots).frame0 _ rfl (fun _ => rfl), ?_⟩
  rintro _ _ ⟨rfl, rfl⟩
  refine splitB.mk (fun h => absurd h (by decide)) (fun _ => ?_)
  refine ⟨rfl, rfl, rfl, rfl, splitB.mk (fun h => absurd h (by simp)) (fun _ => ?_)⟩
  refine ⟨rfl, rfl, rfl, rfl, ?_⟩
  refine ⟨_, (eqTInsS x.codeN ok.codeN x.code ok.code).frame0 _ rfl (fun _ => rfl), ?_⟩
  rintro _ _ ⟨rfl, rfl⟩
  refine splitB.mk (fun h => absurd h (by decide)) (fun _ => ?_)
  exact ⟨[], .bool true, [], by simp, Nat.zero_le _, .bool _, trivial, rfl, rfl⟩

theorem eqTField (x : TField) (ok : x.Ok) : ACall Try.prog 83 [.agg x.cells, .agg x.cells] [] (fun res h => res = .bool true ∧ h = []) := by
  refine ACall.of_vc tabT_ok mixed Try.func83 rfl (by kernel_rfl) _ _ _ rfl (by kernel_rfl) ?_
  refine ⟨rfl, rfl, rfl, rfl, splitB.mk (fun h => absurd h (by simp)) (fun _ => ?_)⟩
  refine ⟨rfl, rfl, rfl, rfl, splitB.mk (fun h => absurd h (by simp)) (fun _ => ?_)⟩
  refine ⟨rfl, rfl, rfl, rfl, splitB.mk (fun h => absurd h (by simp)) (fun _ => ?_)⟩
  refine ⟨rfl, rfl, rfl, rfl, ?_⟩
  refine ⟨_, (eqValue_ok x.init ok.init).frame0 _ rfl (fun _ => rfl), ?_⟩
  rintro _ _ ⟨rfl, rfl⟩
  refine splitB.mk (fun h => absurd h (by decide)) (fun _ => ?_)
  exact ⟨[], .bool true, [], by simp, Nat.zero_le _, .bool _, trivial, rfl, rfl⟩

theorem eqTMethod (x : TMethod) (ok : x.Ok) : ACall Try.prog 84 [.agg x.cells, .agg x.cells] [] (fun res h => res = .bool true ∧ h = []) := by
  refine ACall.of_vc tabT_ok mixed Try.func84 rfl (by kernel_rfl) _ _ _ rfl (by kernel_rfl) ?_
  refine ⟨rfl, rfl, rfl, rfl, splitB.mk (fun h => absurd h (by simp)) (fun _ => ?_)⟩
  refine ⟨rfl, rfl, rfl, rfl, splitB.mk (fun h => absurd h (by simp)) (fun _ => ?_)⟩
  refine ⟨rfl, rfl, rfl, rfl, splitB.mk (fun h => absurd h (by simp)) (fun _ => ?_)⟩
  refine ⟨rfl, rfl, rfl, rfl, splitB.mk (fun h => absurd h (by simp)) (fun _ => ?_)⟩
  refine ⟨rfl, rfl, rfl, rfl, splitB.mk (fun h => absurd h (by simp)) (fun _ => ?_)⟩
  exact ⟨[], .bool true, [], by simp, Nat.zero_le _, .bool _, trivial, rfl, rfl⟩

theorem eqTFieldS (n : Nat) (hn : n ≤ 9223372036854775807) (f : Nat → TField) (hf : ∀ i, i < n → (f i).Ok) :
    ACall Try.prog 74 [.slc 8 n (fun i => TField.cells (f i)), .slc 8 n (fun i => TField.cells (f i))] [] (fun res h => res = .bool true ∧ h = []) := by
  refine ACall.of_vc tabT_ok mixed Try.func74 rfl (by kernel_rfl) _ _ _ rfl (by kernel_rfl) ?_
  refine splitB.mk (fun h => absurd h (by simp)) (fun h => ?_)
  refine LoopVC.mk Nat (fun k => [(0, .slc 8 n (fun i => TField.cells (f i))), (1, .slc 8 n (fun i => TField.cells (f i))), (5, .int .i64 k)])
    (fun k => []) (fun k => k ≤ n) (fun k => n - k) 0 (Nat.zero_le _) ?_ (fun k hk => ?_)
  · exact ⟨[], by simp, Nat.zero_le _, ⟨.slc_eq rfl (fun _ _ => rfl), .slc_eq rfl (fun _ _ => rfl), .int_eq rfl, trivial⟩, trivial⟩
  · refine splitB.mk (fun h => ?_) (fun h => ?_)
    · have h := of_decide_eq_true h
      have hkn : k < n := by omega
      refine .quiet ⟨⟨by omega, by omega⟩, ⟨by omega, by omega⟩, [.agg (TField.cells (f k)), .agg (TField.cells (f k))], .bool true, ⟨.agg_l ⟨.str_eq rfl, .str_eq rfl, .bool_eq rfl, .int_eq rfl, .int_eq rfl, .str_eq rfl, .int_eq rfl, .slc_eq rfl (fun _ _ => rfl), trivial⟩, .agg_l ⟨.str_eq rfl, .str_eq rfl, .bool_eq rfl, .int_eq rfl, .int_eq rfl, .str_eq rfl, .int_eq rfl, .slc_eq rfl (fun _ _ => rfl), trivial⟩, trivial⟩, rfl, (eqTField (f k) (hf k hkn)).mono (fun _ _ h => h.1), ?_⟩
      refine splitB.mk (fun h => absurd h (by decide)) (fun _ => ?_)
      exact ⟨k + 1, by omega, by omega, [], by simp, Nat.zero_le _, ⟨.slc_eq rfl (fun _ _ => rfl), .slc_eq rfl (fun _ _ => rfl), .int_eq (by rw [w64] <;> omega), trivial⟩, trivial⟩
    · exact ⟨[], .bool true, [], by simp, Nat.zero_le _, .bool _, trivial, rfl, rfl⟩

theorem eqTMethodS (n : Nat) (hn : n ≤ 9223372036854775807) (f : Nat → TMethod) (hf : ∀ i, i < n → (f i).Ok) :
    ACall Try.prog 75 [.slc 5 n (fun i => TMethod.cells (f i)), .slc 5 n (fun i => TMethod.cells (f i))] [] (fun res h => res = .bool true ∧ h = []) := by
  refine ACall.of_vc tabT_ok mixed Try.func75 rfl (by kernel_rfl) _ _ _ rfl (by kernel_rfl) ?_
  refine splitB.mk (fun h => absurd h (by simp)) (fun h => ?_)
  refine LoopVC.mk Nat (fun k => [(0, .slc 5 n (fun i => TMethod.cells (f i))), (1, .slc 5 n (fun i => TMethod.cells (f i))), (5, .int .i64 k)])
    (fun k => []) (fun k => k ≤ n) (fun k => n - k) 0 (Nat.zero_le _) ?_ (fun k hk => ?_)
  · exact ⟨[], by simp, Nat.zero_le _, ⟨.slc_eq rfl (fun _ _ => rfl), .slc_eq rfl (fun _ _ => rfl), .int_eq rfl, trivial⟩, trivial⟩
  · refine splitB.mk (fun h => ?_) (fun h => ?_)
    · have h := of_decide_eq_true h
      have hkn : k < n := by omega
      refine .quiet ⟨⟨by omega, by omega⟩, ⟨by omega, by omega⟩, [.agg (TMethod.cells (f k)), .agg (TMethod.cells (f k))], .bool true, ⟨.agg_l ⟨.str_eq rfl, .str_eq rfl, .str_eq rfl, .bool_eq rfl, .bool_eq rfl, trivial⟩, .agg_l ⟨.str_eq rfl, .str_eq rfl, .str_eq rfl, .bool_eq rfl, .bool_eq rfl, trivial⟩, trivial⟩, rfl, (eqTMethod (f k) (hf k hkn)).mono (fun _ _ h => h.1), ?_⟩
      refine splitB.mk (fun h => absurd h (by decide)) (fun _ => ?_)
      exact ⟨k + 1, by omega, by omega, [], by simp, Nat.zero_le _, ⟨.slc_eq rfl (fun _ _ => rfl), .slc_eq rfl (fun _ _ => rfl), .int_eq (by rw [w64] <;> omega), trivial⟩, trivial⟩
    · exact ⟨[], .bool true, [], by simp, Nat.zero_le _, .bool _, trivial, rfl, rfl⟩

theorem eqTClass (x : TClass) (ok : x.Ok) : ACall Try.prog 57 [.agg x.cells, .agg x.cells] [] (fun res h => res = .bool true ∧ h = []) := by
  refine ACall.of_vc tabT_ok mixed Try.func57 rfl (by kernel_rfl) _ _ _ rfl (by kernel_rfl) ?_
  refine ⟨rfl, rfl, rfl, rfl, splitB.mk (fun h => absurd h (by simp)) (fun _ => ?_)⟩
  refine ⟨rfl, rfl, rfl, rfl, splitB.mk (fun h => absurd h (by simp)) (fun _ => ?_)⟩
  refine ⟨rfl, rfl, rfl, rfl, ?_⟩
  refine ⟨_, (eqTFieldS x.fieldsN ok.fieldsN x.fields ok.fields).frame0 _ rfl (fun _ => rfl), ?_⟩
  rintro _ _ ⟨rfl, rfl⟩
  refine splitB.mk (fun h => absurd h (by decide)) (fun _ => ?_)
  refine ⟨rfl, rfl, rfl, rfl, ?_⟩
  refine ⟨_, (eqTMethodS x.methodsN ok.methodsN x.methods ok.methods).frame0 _ rfl (fun _ => rfl), ?_⟩
  rintro _ _ ⟨rfl, rfl⟩
  refine splitB.mk (fun h => absurd h (by decide)) (fun _ => ?_)
  exact ⟨[], .bool true, [], by simp, Nat.zero_le _, .bool _, trivial, rfl, rfl⟩

theorem eqTFuncS (n : Nat) (hn : n ≤ 9223372036854775807) (f : Nat → TFunc) (hf : ∀ i, i < n → (f i).Ok) :
    ACall Try.prog 44 [.slc 6 n (fun i => TFunc.cells (f i)), .slc 6 n (fun i => TFunc.cells (f i))] [] (fun res h => res = .bool true ∧ h = []) := by
  refine ACall.of_vc tabT_ok mixed Try.func44 rfl (by kernel_rfl) _ _ _ rfl (by kernel_rfl) ?_
  refine splitB.mk (fun h => absurd h (by simp)) (fun h => ?_)
  refine LoopVC.mk Nat (fun k => [(0, .slc 6 n (fun i => TFunc.cells (f i))), (1, .slc 6 n (fun i => TFunc.cells (f i))), (5, .int .i64 k)])
    (fun k => []) (fun k => k ≤ n) (fun k => n - k) 0 (Nat.zero_le _) ?_ (fun k hk => ?_)
  · exact ⟨[], by simp, Nat.zero_le _, ⟨.slc_eq rfl (fun _ _ => rfl), .slc_eq rfl (fun _ _ => rfl), .int_eq rfl, trivial⟩, trivial⟩
  · refine splitB.mk (fun h => ?_) (fun h => ?_)
    · have h := of_decide_eq_true h
      have hkn : k < n := by omega
      refine .quiet ⟨⟨by omega, by omega⟩, ⟨by omega, by omega⟩, [.agg (TFunc.cells (f k)), .agg (TFunc.cells (f k))], .bool true, ⟨.agg_l ⟨.str_eq rfl, .slc_eq rfl (fun _ _ => rfl), .slc_eq rfl (fun _ _ => rfl), .slc_eq rfl (fun _ _ => rfl), .bool_eq rfl, .slc_eq rfl (fun _ _ => rfl), trivial⟩, .agg_l ⟨.str_eq rfl, .slc_eq rfl (fun _ _ => rfl), .slc_eq rfl (fun _ _ => rfl), .slc_eq rfl (fun _ _ => rfl), .bool_eq rfl, .slc_eq rfl (fun _ _ => rfl), trivial⟩, trivial⟩, rfl, (eqTFunc (f k) (hf k hkn)).mono (fun _ _ h => h.1), ?_⟩
      refine splitB.mk (fun h => absurd h (by decide)) (fun _ => ?_)
      exact ⟨k + 1, by omega, by omega, [], by simp, Nat.zero_le _, ⟨.slc_eq rfl (fun _ _ => rfl), .slc_eq rfl (fun _ _ => rfl), .int_eq (by rw [w64] <;> omega), trivial⟩, trivial⟩
    · exact ⟨[], .bool true, [], by simp, Nat.zero_le _, .bool _, trivial, rfl, rfl⟩

theorem eqTClassS (n : Nat) (hn : n ≤ 9223372036854775807) (f : Nat → TClass) (hf : ∀ i, i < n → (f i).Ok) :
    ACall Try.prog 45 [.slc 4 n (fun i => TClass.cells (f i)), .slc 4 n (fun i => TClass.cells (f i))] [] (fun res h => res = .bool true ∧ h = []) := by
  refine ACall.of_vc tabT_ok mixed Try.func45 rfl (by kernel_rfl) _ _ _ rfl (by kernel_rfl) ?_
  refine splitB.mk (fun h => absurd h (by simp)) (fun h => ?_)
  refine LoopVC.mk Nat (fun k => [(0, .slc 4 n (fun i => TClass.cells (f i))), (1, .slc 4 n (fun i => TClass.cells (f i))), (5, .int .i64 k)])
    (fun k => []) (fun k => k ≤ n) (fun k => n - k) 0 (Nat.zero_le _) ?_ (fun k hk => ?_)
  · exact ⟨[], by simp, Nat.zero_le _, ⟨.slc_eq rfl (fun _ _ => rfl), .slc_eq rfl (fun _ _ => rfl), .int_eq rfl, trivial⟩, trivial⟩
  · refine splitB.mk (fun h => ?_) (fun h => ?_)
    · have h := of_decide_eq_true h
      have hkn : k < n := by omega
      refine .quiet ⟨⟨by omega, by omega⟩, ⟨by omega, by omega⟩, [.agg (TClass.cells (f k)), .agg (TClass.cells (f k))], .bool true, ⟨.agg_l ⟨.str_eq rfl, .str_eq rfl, .slc_eq rfl (fun _ _ => rfl), .slc_eq rfl (fun _ _ => rfl), trivial⟩, .agg_l ⟨.str_eq rfl, .str_eq rfl, .slc_eq rfl (fun _ _ => rfl), .slc_eq rfl (fun _ _ => rfl), trivial⟩, trivial⟩, rfl, (eqTClass (f k) (hf k hkn)).mono (fun _ _ h => h.1), ?_⟩
      refine splitB.mk (fun h => absurd h (by decide)) (fun _ => ?_)
      exact ⟨k + 1, by omega, by omega, [], by simp, Nat.zero_le _, ⟨.slc_eq rfl (fun _ _ => rfl), .slc_eq rfl (fun _ _ => rfl), .int_eq (by rw [w64] <;> omega), trivial⟩, trivial⟩
    · exact ⟨[], .bool true, [], by simp, Nat.zero_le _, .bool _, trivial, rfl, rfl⟩

theorem eqTProgram (x : TProgram) (ok : x.Ok) : ACall Try.prog 22 [.agg x.cells, .agg x.cells] [] (fun res h => res = .bool true ∧ h = []) := by
  refine ACall.of_vc tabT_ok mixed Try.func22 rfl (by kernel_rfl) _ _ _ rfl (by kernel_rfl) ?_
  refine ⟨rfl, rfl, rfl, rfl, ?_⟩
  refine ⟨_, (eqTFuncS x.funcsN ok.funcsN x.funcs ok.funcs).frame0 _ rfl (fun _ => rfl), ?_⟩
  rintro _ _ ⟨rfl, rfl⟩
  refine splitB.mk (fun h => absurd h (by decide)) (fun _ => ?_)
  refine ⟨rfl, rfl, rfl, rfl, ?_⟩
  refine ⟨_, (eqTClassS x.classesN ok.classesN x.classes ok.classes).frame0 _ rfl (fun _ => rfl), ?_⟩
  rintro _ _ ⟨rfl, rfl⟩
  refine splitB.mk (fun h => absurd h (by decide)) (fun _ => ?_)
  exact ⟨[], .bool true, [], by simp, Nat.zero_le _, .bool _, trivial, rfl, rfl⟩

end Go.Am
