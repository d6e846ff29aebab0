/- The Go structs as Lean trees, their cells, and the table of types. (Printed by tools/mg.py.) -/
import Derived.Test.YtginnmdpdgeinaaGreatDoorBmQ
import Derived.Test.YtginnmdpdgeinaaGreatDoorProg
set_option linter.unusedVariables false
set_option linter.unusedSimpArgs false
namespace Go.Am
open Go Go.RowKit Go.Proofs
structure TParam where
 fName : Str
 fRef : Bool
 deriving DecidableEq, Inhabited
abbrev TParam.lit (x : TParam) : List PV := [.str x.fName, .bool x.fRef]
def TParam.cells (x : TParam) : List PV := x.lit
theorem TParam.cells_eq (x : TParam) : x.cells = x.lit := rfl
theorem TParam.cells_pure (x : TParam) : x.cells.all isPure = true := rfl
instance : Pur TParam.cells := ⟨TParam.cells_pure⟩
structure TIns where
 fOp : Int
 fA : Int
 fB : Int
 fS : Str
 fT : Str
 deriving DecidableEq, Inhabited
abbrev TIns.lit (x : TIns) : List PV := [.int .i64 x.fOp, .int .i64 x.fA, .int .i64 x.fB, .str x.fS, .str x.fT]
def TIns.cells (x : TIns) : List PV := x.lit
theorem TIns.cells_eq (x : TIns) : x.cells = x.lit := rfl
theorem TIns.cells_pure (x : TIns) : x.cells.all isPure = true := rfl
instance : Pur TIns.cells := ⟨TIns.cells_pure⟩
structure TFunc where
 fName : Str
 fParams : List TParam
 fUses : List TParam
 fSlots : List Str
 fGen : Bool
 fCode : List TIns
 deriving DecidableEq, Inhabited
abbrev TFunc.lit (x : TFunc) : List PV := [.str x.fName, sl 2 TParam.cells x.fParams, sl 2 TParam.cells x.fUses, sl 1 cS x.fSlots, .bool x.fGen, sl 5 TIns.cells x.fCode]
def TFunc.cells (x : TFunc) : List PV := x.lit
theorem TFunc.cells_eq (x : TFunc) : x.cells = x.lit := rfl
theorem TFunc.cells_pure (x : TFunc) : x.cells.all isPure = true := rfl
instance : Pur TFunc.cells := ⟨TFunc.cells_pure⟩
structure TKey where
 fText : Bool
 fNum : Int
 fStr : Str
 deriving DecidableEq, Inhabited
abbrev TKey.lit (x : TKey) : List PV := [.bool x.fText, .int .i64 x.fNum, .str x.fStr]
def TKey.cells (x : TKey) : List PV := x.lit
theorem TKey.cells_eq (x : TKey) : x.cells = x.lit := rfl
theorem TKey.cells_pure (x : TKey) : x.cells.all isPure = true := rfl
instance : Pur TKey.cells := ⟨TKey.cells_pure⟩
mutual
inductive TValue where
 | mk (fKind : Int) (fNum : Int) (fStr : Str) (fNext : Int) (fItems : List TEntry)
inductive TEntry where
 | mk (fKey : TKey) (fVal : TValue)
end
def TValue.fKind : TValue → Int | .mk x _ _ _ _ => x
def TValue.fNum : TValue → Int | .mk _ x _ _ _ => x
def TValue.fStr : TValue → Str | .mk _ _ x _ _ => x
def TValue.fNext : TValue → Int | .mk _ _ _ x _ => x
def TValue.fItems : TValue → List TEntry | .mk _ _ _ _ x => x
@[simp] theorem TValue.fKind_mk (a0 : Int) (a1 : Int) (a2 : Str) (a3 : Int) (a4 : List TEntry) : (TValue.mk a0 a1 a2 a3 a4).fKind = a0 := rfl
@[simp] theorem TValue.fNum_mk (a0 : Int) (a1 : Int) (a2 : Str) (a3 : Int) (a4 : List TEntry) : (TValue.mk a0 a1 a2 a3 a4).fNum = a1 := rfl
@[simp] theorem TValue.fStr_mk (a0 : Int) (a1 : Int) (a2 : Str) (a3 : Int) (a4 : List TEntry) : (TValue.mk a0 a1 a2 a3 a4).fStr = a2 := rfl
@[simp] theorem TValue.fNext_mk (a0 : Int) (a1 : Int) (a2 : Str) (a3 : Int) (a4 : List TEntry) : (TValue.mk a0 a1 a2 a3 a4).fNext = a3 := rfl
@[simp] theorem TValue.fItems_mk (a0 : Int) (a1 : Int) (a2 : Str) (a3 : Int) (a4 : List TEntry) : (TValue.mk a0 a1 a2 a3 a4).fItems = a4 := rfl
def TEntry.fKey : TEntry → TKey | .mk x _ => x
def TEntry.fVal : TEntry → TValue | .mk _ x => x
@[simp] theorem TEntry.fKey_mk (a0 : TKey) (a1 : TValue) : (TEntry.mk a0 a1).fKey = a0 := rfl
@[simp] theorem TEntry.fVal_mk (a0 : TKey) (a1 : TValue) : (TEntry.mk a0 a1).fVal = a1 := rfl
instance : Inhabited TValue := ⟨.mk 0 0 [] 0 []⟩
instance : Inhabited TEntry := ⟨.mk default default⟩
mutual
def TValue.cells : TValue → List PV | .mk a0 a1 a2 a3 a4 => [.int .i64 a0] ++ [.int .i64 a1] ++ [.str a2] ++ [.int .i64 a3] ++ [.slc 8 a4.length (fun i => (TEntry.cellsL a4).getD i [])]
def TEntry.cells : TEntry → List PV | .mk a0 a1 => a0.lit ++ a1.cells
def TEntry.cellsL : List TEntry → List (List PV) | [] => [] | x :: r => x.cells :: TEntry.cellsL r
end
theorem TEntry.cellsL_map : ∀ (l : List TEntry), TEntry.cellsL l = l.map TEntry.cells
 | [] => rfl
 | a :: r => by unfold TEntry.cellsL; rw [TEntry.cellsL_map r]; rfl
abbrev TValue.lit (x : TValue) : List PV := [.int .i64 x.fKind, .int .i64 x.fNum, .str x.fStr, .int .i64 x.fNext, sl 8 TEntry.cells x.fItems]
abbrev TEntry.lit (x : TEntry) : List PV := [.bool x.fKey.fText, .int .i64 x.fKey.fNum, .str x.fKey.fStr, .int .i64 x.fVal.fKind, .int .i64 x.fVal.fNum, .str x.fVal.fStr, .int .i64 x.fVal.fNext, sl 8 TEntry.cells x.fVal.fItems]
theorem TValue.cells_eq (x : TValue) : x.cells = x.lit := by
 cases x with
 | mk a0 a1 a2 a3 a4 =>
  unfold TValue.cells
  rw [TEntry.cellsL_map]
  rfl
theorem TValue.cells_pure (x : TValue) : x.cells.all isPure = true := by rw [TValue.cells_eq]; rfl
instance : Pur TValue.cells := ⟨TValue.cells_pure⟩
theorem TEntry.cells_eq (x : TEntry) : x.cells = x.lit := by
 cases x with
 | mk a0 a1 =>
  unfold TEntry.cells
  rw [TValue.cells_eq]
  rfl
theorem TEntry.cells_pure (x : TEntry) : x.cells.all isPure = true := by rw [TEntry.cells_eq]; rfl
instance : Pur TEntry.cells := ⟨TEntry.cells_pure⟩
mutual
inductive TNode where
 | mk (fKind : Int) (fNum : Int) (fText : Str) (fKids : List TNode)
end
def TNode.fKind : TNode → Int | .mk x _ _ _ => x
def TNode.fNum : TNode → Int | .mk _ x _ _ => x
def TNode.fText : TNode → Str | .mk _ _ x _ => x
def TNode.fKids : TNode → List TNode | .mk _ _ _ x => x
@[simp] theorem TNode.fKind_mk (a0 : Int) (a1 : Int) (a2 : Str) (a3 : List TNode) : (TNode.mk a0 a1 a2 a3).fKind = a0 := rfl
@[simp] theorem TNode.fNum_mk (a0 : Int) (a1 : Int) (a2 : Str) (a3 : List TNode) : (TNode.mk a0 a1 a2 a3).fNum = a1 := rfl
@[simp] theorem TNode.fText_mk (a0 : Int) (a1 : Int) (a2 : Str) (a3 : List TNode) : (TNode.mk a0 a1 a2 a3).fText = a2 := rfl
@[simp] theorem TNode.fKids_mk (a0 : Int) (a1 : Int) (a2 : Str) (a3 : List TNode) : (TNode.mk a0 a1 a2 a3).fKids = a3 := rfl
instance : Inhabited TNode := ⟨.mk 0 0 [] []⟩
mutual
def TNode.cells : TNode → List PV | .mk a0 a1 a2 a3 => [.int .i64 a0] ++ [.int .i64 a1] ++ [.str a2] ++ [.slc 4 a3.length (fun i => (TNode.cellsL a3).getD i [])]
def TNode.cellsL : List TNode → List (List PV) | [] => [] | x :: r => x.cells :: TNode.cellsL r
end
theorem TNode.cellsL_map : ∀ (l : List TNode), TNode.cellsL l = l.map TNode.cells
 | [] => rfl
 | a :: r => by unfold TNode.cellsL; rw [TNode.cellsL_map r]; rfl
abbrev TNode.lit (x : TNode) : List PV := [.int .i64 x.fKind, .int .i64 x.fNum, .str x.fText, sl 4 TNode.cells x.fKids]
theorem TNode.cells_eq (x : TNode) : x.cells = x.lit := by
 cases x with
 | mk a0 a1 a2 a3 =>
  unfold TNode.cells
  rw [TNode.cellsL_map]
  rfl
theorem TNode.cells_pure (x : TNode) : x.cells.all isPure = true := by rw [TNode.cells_eq]; rfl
instance : Pur TNode.cells := ⟨TNode.cells_pure⟩
theorem TIns.eq_cells (x y : TIns) : ((x.fOp == y.fOp) && ((x.fA == y.fA) && ((x.fB == y.fB) && ((x.fS == y.fS) && ((x.fT == y.fT) && true))))) = decide (x = y) := by
 rw [Bool.eq_iff_iff]
 simp only [Bool.and_eq_true, beq_iff_eq, Bool.and_true, decide_eq_true_eq]
 constructor
 ·intro h
  cases x; cases y
  simp only [TIns.mk.injEq]
  simpa using h
 ·rintro rfl
  simp
theorem TParam.eq_cells (x y : TParam) : ((x.fName == y.fName) && ((x.fRef == y.fRef) && true)) = decide (x = y) := by
 rw [Bool.eq_iff_iff]
 simp only [Bool.and_eq_true, beq_iff_eq, Bool.and_true, decide_eq_true_eq]
 constructor
 ·intro h
  cases x; cases y
  simp only [TParam.mk.injEq]
  simpa using h
 ·rintro rfl
  simp
theorem TKey.eq_cells (x y : TKey) : ((x.fText == y.fText) && ((x.fNum == y.fNum) && ((x.fStr == y.fStr) && true))) = decide (x = y) := by
 rw [Bool.eq_iff_iff]
 simp only [Bool.and_eq_true, beq_iff_eq, Bool.and_true, decide_eq_true_eq]
 constructor
 ·intro h
  cases x; cases y
  simp only [TKey.mk.injEq]
  simpa using h
 ·rintro rfl
  simp
def tabT : Tab := mkTab [(3, .int .i64),
 (4, .bool),
 (5, .int .u8),
 (9, .str),
 (22, .slice 64 2 24 [.str [], .bool false]),
 (23, .slice 9 1 16 [.str []]),
 (24, .slice 66 5 56 [.int .i64 0, .int .i64 0, .int .i64 0, .str [], .str []]),
 (26, .struct 6 [(0, 1, false), (1, 1, false), (2, 1, false), (3, 1, false), (4, 1, false), (5, 1, false)] [.str [], .nils, .nils, .nils, .bool false, .nils]),
 (29, .slice 70 2 24 [.str [], .bool false]),
 (30, .slice 46 5 56 [.int .i64 0, .int .i64 0, .int .i64 0, .str [], .str []]),
 (32, .struct 6 [(0, 1, false), (1, 1, false), (2, 1, false), (3, 1, false), (4, 1, false), (5, 1, false)] [.str [], .nils, .nils, .nils, .bool false, .nils]),
 (42, .slice 4 1 1 [.bool false]),
 (46, .struct 5 [(0, 1, false), (1, 1, false), (2, 1, false), (3, 1, false), (4, 1, false)] [.int .i64 0, .int .i64 0, .int .i64 0, .str [], .str []]),
 (50, .map 3 4 (.bool false)),
 (59, .slice 3 1 8 [.int .i64 0]),
 (64, .struct 2 [(0, 1, false), (1, 1, false)] [.str [], .bool false]),
 (66, .struct 5 [(0, 1, false), (1, 1, false), (2, 1, false), (3, 1, false), (4, 1, false)] [.int .i64 0, .int .i64 0, .int .i64 0, .str [], .str []]),
 (70, .struct 2 [(0, 1, false), (1, 1, false)] [.str [], .bool false]),
 (72, .slice 132 8 96 [.bool false, .int .i64 0, .str [], .int .i64 0, .int .i64 0, .str [], .int .i64 0, .nils]),
 (74, .struct 5 [(0, 1, false), (1, 1, false), (2, 1, false), (3, 1, false), (4, 1, false)] [.int .i64 0, .int .i64 0, .str [], .int .i64 0, .nils]),
 (86, .map 9 4 (.bool false)),
 (109, .struct 4 [(0, 1, false), (1, 1, false), (2, 1, false), (3, 1, false)] [.int .i64 0, .int .i64 0, .str [], .nils]),
 (125, .slice 5 1 1 [.int .u8 0]),
 (130, .struct 3 [(0, 1, false), (1, 1, false), (2, 1, false)] [.bool false, .int .i64 0, .str []]),
 (132, .struct 8 [(0, 3, true), (3, 5, true)] [.bool false, .int .i64 0, .str [], .int .i64 0, .int .i64 0, .str [], .int .i64 0, .nils]),
 (138, .int .u64),
 (165, .map 130 4 (.bool false))]
theorem tabT_ok : TabOk Tryz.prog tabT := tabOk (by kernel_rfl)
theorem mixed : Tryz.prog.follows .mixedOrders = true := by kernel_rfl
theorem vc1 {f : FuncId} {fn : Func} {c : Code} {args : List PV} {h : List AObj} {R : PV → List AObj → Prop} (hf : Tryz.prog.funcs[f]? = some fn) (hv : vc Tryz.prog tabT h.length c (RetQ tabT fn.results.toList h.length R) (entryEnv args) h) (hb : fn.body = some c := by rfl) (hname : (fn.name == "runtime.NumGoroutine") = false := by kernel_rfl) (hn : Nat.ble args.length fn.ntmps = true := by rfl) (hok : codeOk fn.ntmps c = true := by kernel_rfl) : ACall Tryz.prog f args h R := ACall.of_vc tabT_ok mixed hf hb hname _ _ _ hn hok hv
end Go.Am
