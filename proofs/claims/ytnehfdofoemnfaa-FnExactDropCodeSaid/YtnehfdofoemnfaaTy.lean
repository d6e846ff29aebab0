/- The Go structs as Lean trees, their cells, and the table of types. (Printed by tools/mg.py.) -/
import Derived.Test.YtnehfdofoemnfaaBmQ
import Derived.Test.YtnehfdofoemnfaaProg
set_option linter.unusedVariables false
set_option linter.unusedSimpArgs false
namespace Go.Am
open Go Go.RowKit Go.Proofs
structure TParam where
 fName : Str
 fRef : Bool
 deriving DecidableEq, Inhabited
abbrev TParam.lit (x : TParam) : List PV := [.str x.fName, .bool x.fRef]
def TParam.cells (x : TParam) : List PV := x.lit
theorem TParam.cells_eq (x : TParam) : x.cells = x.lit := rfl
theorem TParam.cells_pure (x : TParam) : x.cells.all isPure = true := rfl
instance : Pur TParam.cells := ⟨TParam.cells_pure⟩
structure TIns where
 fOp : Int
 fA : Int
 fB : Int
 fS : Str
 fT : Str
 deriving DecidableEq, Inhabited
abbrev TIns.lit (x : TIns) : List PV := [.int .i64 x.fOp, .int .i64 x.fA, .int .i64 x.fB, .str x.fS, .str x.fT]
def TIns.cells (x : TIns) : List PV := x.lit
theorem TIns.cells_eq (x : TIns) : x.cells = x.lit := rfl
theorem TIns.cells_pure (x : TIns) : x.cells.all isPure = true := rfl
instance : Pur TIns.cells := ⟨TIns.cells_pure⟩
structure TFunc where
 fName : Str
 fParams : List TParam
 fUses : List TParam
 fSlots : List Str
 fGen : Bool
 fCode : List TIns
 deriving DecidableEq, Inhabited
abbrev TFunc.lit (x : TFunc) : List PV := [.str x.fName, sl 2 TParam.cells x.fParams, sl 2 TParam.cells x.fUses, sl 1 cS x.fSlots, .bool x.fGen, sl 5 TIns.cells x.fCode]
def TFunc.cells (x : TFunc) : List PV := x.lit
theorem TFunc.cells_eq (x : TFunc) : x.cells = x.lit := rfl
theorem TFunc.cells_pure (x : TFunc) : x.cells.all isPure = true := rfl
instance : Pur TFunc.cells := ⟨TFunc.cells_pure⟩
theorem TIns.eq_cells (x y : TIns) : ((x.fOp == y.fOp) && ((x.fA == y.fA) && ((x.fB == y.fB) && ((x.fS == y.fS) && ((x.fT == y.fT) && true))))) = decide (x = y) := by
 rw [Bool.eq_iff_iff]
 simp only [Bool.and_eq_true, beq_iff_eq, Bool.and_true, decide_eq_true_eq]
 constructor
 ·intro h
  cases x; cases y
  simp only [TIns.mk.injEq]
  simpa using h
 ·rintro rfl
  simp
theorem TParam.eq_cells (x y : TParam) : ((x.fName == y.fName) && ((x.fRef == y.fRef) && true)) = decide (x = y) := by
 rw [Bool.eq_iff_iff]
 simp only [Bool.and_eq_true, beq_iff_eq, Bool.and_true, decide_eq_true_eq]
 constructor
 ·intro h
  cases x; cases y
  simp only [TParam.mk.injEq]
  simpa using h
 ·rintro rfl
  simp
def tabT : Tab := mkTab [(3, .int .i64),
 (4, .bool),
 (5, .int .u8),
 (9, .str),
 (22, .slice 72 2 24 [.str [], .bool false]),
 (23, .slice 9 1 16 [.str []]),
 (24, .slice 74 5 56 [.int .i64 0, .int .i64 0, .int .i64 0, .str [], .str []]),
 (26, .struct 6 [(0, 1, false), (1, 1, false), (2, 1, false), (3, 1, false), (4, 1, false), (5, 1, false)] [.str [], .nils, .nils, .nils, .bool false, .nils]),
 (27, .slice 3 1 8 [.int .i64 0]),
 (30, .slice 75 2 24 [.str [], .bool false]),
 (31, .slice 53 5 56 [.int .i64 0, .int .i64 0, .int .i64 0, .str [], .str []]),
 (33, .struct 6 [(0, 1, false), (1, 1, false), (2, 1, false), (3, 1, false), (4, 1, false), (5, 1, false)] [.str [], .nils, .nils, .nils, .bool false, .nils]),
 (53, .struct 5 [(0, 1, false), (1, 1, false), (2, 1, false), (3, 1, false), (4, 1, false)] [.int .i64 0, .int .i64 0, .int .i64 0, .str [], .str []]),
 (58, .map 3 4 (.bool false)),
 (72, .struct 2 [(0, 1, false), (1, 1, false)] [.str [], .bool false]),
 (74, .struct 5 [(0, 1, false), (1, 1, false), (2, 1, false), (3, 1, false), (4, 1, false)] [.int .i64 0, .int .i64 0, .int .i64 0, .str [], .str []]),
 (75, .struct 2 [(0, 1, false), (1, 1, false)] [.str [], .bool false]),
 (83, .map 9 4 (.bool false)),
 (94, .slice 5 1 1 [.int .u8 0])]
theorem tabT_ok : TabOk Try.prog tabT := tabOk (by kernel_rfl)
theorem mixed : Try.prog.follows .mixedOrders = true := by kernel_rfl
theorem vc1 {f : FuncId} {fn : Func} {c : Code} {args : List PV} {h : List AObj} {R : PV → List AObj → Prop} (hf : Try.prog.funcs[f]? = some fn) (hv : vc Try.prog tabT h.length c (RetQ tabT fn.results.toList h.length R) (entryEnv args) h) (hb : fn.body = some c := by rfl) (hname : (fn.name == "runtime.NumGoroutine") = false := by kernel_rfl) (hn : Nat.ble args.length fn.ntmps = true := by rfl) (hok : codeOk fn.ntmps c = true := by kernel_rfl) : ACall Try.prog f args h R := ACall.of_vc tabT_ok mixed hf hb hname _ _ _ hn hok hv
end Go.Am
