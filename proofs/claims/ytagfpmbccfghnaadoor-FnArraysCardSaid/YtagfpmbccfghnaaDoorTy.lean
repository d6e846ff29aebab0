/- The Go structs as Lean trees, their cells, and the table of types. (Printed by tools/mg.py.) -/
import Derived.Test.YtagfpmbccfghnaaDoorBmP
import Derived.Test.YtagfpmbccfghnaaDoorProg
set_option linter.unusedVariables false
set_option linter.unusedSimpArgs false
namespace Go.Am
open Go Go.RowKit Go.Proofs

structure TKey where
  fText : Bool
  fNum : Int
  fStr : Str
  deriving DecidableEq, Inhabited
abbrev TKey.lit (x : TKey) : List PV := [.bool x.fText, .int .i64 x.fNum, .str x.fStr]
def TKey.cells (x : TKey) : List PV := x.lit
theorem TKey.cells_eq (x : TKey) : x.cells = x.lit := rfl
theorem TKey.cells_pure (x : TKey) : x.cells.all isPure = true := rfl
mutual
inductive TValue where
  | mk (fKind : Int) (fNum : Int) (fStr : Str) (fNext : Int) (fItems : List TEntry)
inductive TEntry where
  | mk (fKey : TKey) (fVal : TValue)
end
def TValue.fKind : TValue → Int | .mk x _ _ _ _ => x
def TValue.fNum : TValue → Int | .mk _ x _ _ _ => x
def TValue.fStr : TValue → Str | .mk _ _ x _ _ => x
def TValue.fNext : TValue → Int | .mk _ _ _ x _ => x
def TValue.fItems : TValue → List TEntry | .mk _ _ _ _ x => x
@[simp] theorem TValue.fKind_mk (a0 : Int) (a1 : Int) (a2 : Str) (a3 : Int) (a4 : List TEntry) : (TValue.mk a0 a1 a2 a3 a4).fKind = a0 := rfl
@[simp] theorem TValue.fNum_mk (a0 : Int) (a1 : Int) (a2 : Str) (a3 : Int) (a4 : List TEntry) : (TValue.mk a0 a1 a2 a3 a4).fNum = a1 := rfl
@[simp] theorem TValue.fStr_mk (a0 : Int) (a1 : Int) (a2 : Str) (a3 : Int) (a4 : List TEntry) : (TValue.mk a0 a1 a2 a3 a4).fStr = a2 := rfl
@[simp] theorem TValue.fNext_mk (a0 : Int) (a1 : Int) (a2 : Str) (a3 : Int) (a4 : List TEntry) : (TValue.mk a0 a1 a2 a3 a4).fNext = a3 := rfl
@[simp] theorem TValue.fItems_mk (a0 : Int) (a1 : Int) (a2 : Str) (a3 : Int) (a4 : List TEntry) : (TValue.mk a0 a1 a2 a3 a4).fItems = a4 := rfl
def TEntry.fKey : TEntry → TKey | .mk x _ => x
def TEntry.fVal : TEntry → TValue | .mk _ x => x
@[simp] theorem TEntry.fKey_mk (a0 : TKey) (a1 : TValue) : (TEntry.mk a0 a1).fKey = a0 := rfl
@[simp] theorem TEntry.fVal_mk (a0 : TKey) (a1 : TValue) : (TEntry.mk a0 a1).fVal = a1 := rfl
instance : Inhabited TValue := ⟨.mk 0 0 [] 0 []⟩
instance : Inhabited TEntry := ⟨.mk default default⟩
mutual
def TValue.cells : TValue → List PV | .mk a0 a1 a2 a3 a4 => [.int .i64 a0] ++ [.int .i64 a1] ++ [.str a2] ++ [.int .i64 a3] ++ [.slc 8 a4.length (fun i => (TEntry.cellsL a4).getD i [])]
def TEntry.cells : TEntry → List PV | .mk a0 a1 => a0.lit ++ a1.cells
def TEntry.cellsL : List TEntry → List (List PV) | [] => [] | x :: r => x.cells :: TEntry.cellsL r
end
theorem TEntry.cellsL_map : ∀ (l : List TEntry), TEntry.cellsL l = l.map TEntry.cells
  | [] => rfl
  | a :: r => by unfold TEntry.cellsL; rw [TEntry.cellsL_map r]; rfl
abbrev TValue.lit (x : TValue) : List PV := [.int .i64 x.fKind, .int .i64 x.fNum, .str x.fStr, .int .i64 x.fNext, sl 8 TEntry.cells x.fItems]
abbrev TEntry.lit (x : TEntry) : List PV := [.bool x.fKey.fText, .int .i64 x.fKey.fNum, .str x.fKey.fStr, .int .i64 x.fVal.fKind, .int .i64 x.fVal.fNum, .str x.fVal.fStr, .int .i64 x.fVal.fNext, sl 8 TEntry.cells x.fVal.fItems]
theorem TValue.cells_eq (x : TValue) : x.cells = x.lit := by
  cases x with
  | mk a0 a1 a2 a3 a4 =>
    unfold TValue.cells
    rw [TEntry.cellsL_map]
    rfl
theorem TValue.cells_pure (x : TValue) : x.cells.all isPure = true := by rw [TValue.cells_eq]; rfl
theorem TEntry.cells_eq (x : TEntry) : x.cells = x.lit := by
  cases x with
  | mk a0 a1 =>
    unfold TEntry.cells
    rw [TValue.cells_eq]
    rfl
theorem TEntry.cells_pure (x : TEntry) : x.cells.all isPure = true := by rw [TEntry.cells_eq]; rfl
structure TL1Cur where
  fB : List UInt8
  fI : Int
  fH : Int
  deriving DecidableEq, Inhabited
abbrev TL1Cur.lit (x : TL1Cur) : List PV := [sl 1 cB x.fB, .int .i64 x.fI, .int .i64 x.fH]
def TL1Cur.cells (x : TL1Cur) : List PV := x.lit
theorem TL1Cur.cells_eq (x : TL1Cur) : x.cells = x.lit := rfl
theorem TL1Cur.cells_pure (x : TL1Cur) : x.cells.all isPure = true := rfl
theorem TKey.eq_cells (x y : TKey) : ((x.fText == y.fText) && ((x.fNum == y.fNum) && ((x.fStr == y.fStr) && true))) = decide (x = y) := by
  rw [Bool.eq_iff_iff]
  simp only [Bool.and_eq_true, beq_iff_eq, Bool.and_true, decide_eq_true_eq]
  constructor
  · intro h
    cases x; cases y
    simp only [TKey.mk.injEq]
    simpa using h
  · rintro rfl
    simp
def tabT : Tab := mkTab [(3, .int .i64),
  (4, .bool),
  (5, .int .u8),
  (9, .str),
  (28, .slice 5 1 1 [.int .u8 0]),
  (35, .slice 40 5 64 [.int .i64 0, .int .i64 0, .str [], .int .i64 0, .nils]),
  (38, .slice 55 8 96 [.bool false, .int .i64 0, .str [], .int .i64 0, .int .i64 0, .str [], .int .i64 0, .nils]),
  (40, .struct 5 [(0, 1, false), (1, 1, false), (2, 1, false), (3, 1, false), (4, 1, false)] [.int .i64 0, .int .i64 0, .str [], .int .i64 0, .nils]),
  (44, .struct 3 [(0, 1, false), (1, 1, false), (2, 1, false)] [.bool false, .int .i64 0, .str []]),
  (55, .struct 8 [(0, 3, true), (3, 5, true)] [.bool false, .int .i64 0, .str [], .int .i64 0, .int .i64 0, .str [], .int .i64 0, .nils]),
  (56, .slice 44 3 32 [.bool false, .int .i64 0, .str []]),
  (71, .slice 9 1 16 [.str []]),
  (100, .struct 3 [(0, 1, false), (1, 1, false), (2, 1, false)] [.nils, .int .i64 0, .int .i64 0]),
  (110, .slice 3 1 8 [.int .i64 0])]
theorem tabT_ok : TabOk Tryd.prog tabT := tabOk (by kernel_rfl)
theorem mixed : Tryd.prog.follows .mixedOrders = true := by kernel_rfl
end Go.Am
