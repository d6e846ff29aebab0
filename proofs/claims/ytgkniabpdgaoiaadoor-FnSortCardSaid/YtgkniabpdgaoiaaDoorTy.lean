/- The Go structs as Lean trees, their cells, and the table of types. (Printed by tools/mg.py.) -/
import Derived.Test.YtgkniabpdgaoiaaDoorBmQ
import Derived.Test.YtgkniabpdgaoiaaDoorProg
set_option linter.unusedVariables false
set_option linter.unusedSimpArgs false
namespace Go.Am
open Go Go.RowKit Go.Proofs
structure TKey where
 fText : Bool
 fNum : Int
 fStr : Str
 deriving DecidableEq, Inhabited
abbrev TKey.lit (x : TKey) : List PV := [.bool x.fText, .int .i64 x.fNum, .str x.fStr]
def TKey.cells (x : TKey) : List PV := x.lit
theorem TKey.cells_eq (x : TKey) : x.cells = x.lit := rfl
theorem TKey.cells_pure (x : TKey) : x.cells.all isPure = true := rfl
instance : Pur TKey.cells := ⟨TKey.cells_pure⟩
mutual
inductive TValue where
 | mk (fKind : Int) (fNum : Int) (fStr : Str) (fNext : Int) (fItems : List TEntry)
inductive TEntry where
 | mk (fKey : TKey) (fVal : TValue)
end
def TValue.fKind : TValue → Int | .mk x _ _ _ _ => x
def TValue.fNum : TValue → Int | .mk _ x _ _ _ => x
def TValue.fStr : TValue → Str | .mk _ _ x _ _ => x
def TValue.fNext : TValue → Int | .mk _ _ _ x _ => x
def TValue.fItems : TValue → List TEntry | .mk _ _ _ _ x => x
@[simp] theorem TValue.fKind_mk (a0 : Int) (a1 : Int) (a2 : Str) (a3 : Int) (a4 : List TEntry) : (TValue.mk a0 a1 a2 a3 a4).fKind = a0 := rfl
@[simp] theorem TValue.fNum_mk (a0 : Int) (a1 : Int) (a2 : Str) (a3 : Int) (a4 : List TEntry) : (TValue.mk a0 a1 a2 a3 a4).fNum = a1 := rfl
@[simp] theorem TValue.fStr_mk (a0 : Int) (a1 : Int) (a2 : Str) (a3 : Int) (a4 : List TEntry) : (TValue.mk a0 a1 a2 a3 a4).fStr = a2 := rfl
@[simp] theorem TValue.fNext_mk (a0 : Int) (a1 : Int) (a2 : Str) (a3 : Int) (a4 : List TEntry) : (TValue.mk a0 a1 a2 a3 a4).fNext = a3 := rfl
@[simp] theorem TValue.fItems_mk (a0 : Int) (a1 : Int) (a2 : Str) (a3 : Int) (a4 : List TEntry) : (TValue.mk a0 a1 a2 a3 a4).fItems = a4 := rfl
def TEntry.fKey : TEntry → TKey | .mk x _ => x
def TEntry.fVal : TEntry → TValue | .mk _ x => x
@[simp] theorem TEntry.fKey_mk (a0 : TKey) (a1 : TValue) : (TEntry.mk a0 a1).fKey = a0 := rfl
@[simp] theorem TEntry.fVal_mk (a0 : TKey) (a1 : TValue) : (TEntry.mk a0 a1).fVal = a1 := rfl
instance : Inhabited TValue := ⟨.mk 0 0 [] 0 []⟩
instance : Inhabited TEntry := ⟨.mk default default⟩
mutual
def TValue.cells : TValue → List PV | .mk a0 a1 a2 a3 a4 => [.int .i64 a0] ++ [.int .i64 a1] ++ [.str a2] ++ [.int .i64 a3] ++ [.slc 8 a4.length (fun i => (TEntry.cellsL a4).getD i [])]
def TEntry.cells : TEntry → List PV | .mk a0 a1 => a0.lit ++ a1.cells
def TEntry.cellsL : List TEntry → List (List PV) | [] => [] | x :: r => x.cells :: TEntry.cellsL r
end
theorem TEntry.cellsL_map : ∀ (l : List TEntry), TEntry.cellsL l = l.map TEntry.cells
 | [] => rfl
 | a :: r => by unfold TEntry.cellsL; rw [TEntry.cellsL_map r]; rfl
abbrev TValue.lit (x : TValue) : List PV := [.int .i64 x.fKind, .int .i64 x.fNum, .str x.fStr, .int .i64 x.fNext, sl 8 TEntry.cells x.fItems]
abbrev TEntry.lit (x : TEntry) : List PV := [.bool x.fKey.fText, .int .i64 x.fKey.fNum, .str x.fKey.fStr, .int .i64 x.fVal.fKind, .int .i64 x.fVal.fNum, .str x.fVal.fStr, .int .i64 x.fVal.fNext, sl 8 TEntry.cells x.fVal.fItems]
theorem TValue.cells_eq (x : TValue) : x.cells = x.lit := by
 cases x with
 | mk a0 a1 a2 a3 a4 =>
  unfold TValue.cells
  rw [TEntry.cellsL_map]
  rfl
theorem TValue.cells_pure (x : TValue) : x.cells.all isPure = true := by rw [TValue.cells_eq]; rfl
instance : Pur TValue.cells := ⟨TValue.cells_pure⟩
theorem TEntry.cells_eq (x : TEntry) : x.cells = x.lit := by
 cases x with
 | mk a0 a1 =>
  unfold TEntry.cells
  rw [TValue.cells_eq]
  rfl
theorem TEntry.cells_pure (x : TEntry) : x.cells.all isPure = true := by rw [TEntry.cells_eq]; rfl
instance : Pur TEntry.cells := ⟨TEntry.cells_pure⟩
structure TSlot where
 fKey : TKey
 fVal : TValue
 fLive : Bool
 fLink : Int
 deriving Inhabited
abbrev TSlot.lit (x : TSlot) : List PV := [.bool x.fKey.fText, .int .i64 x.fKey.fNum, .str x.fKey.fStr, .int .i64 x.fVal.fKind, .int .i64 x.fVal.fNum, .str x.fVal.fStr, .int .i64 x.fVal.fNext, sl 8 TEntry.cells x.fVal.fItems, .bool x.fLive, .int .i64 x.fLink]
def TSlot.cells (x : TSlot) : List PV := x.lit
theorem TSlot.cells_eq (x : TSlot) : x.cells = x.lit := rfl
theorem TSlot.cells_pure (x : TSlot) : x.cells.all isPure = true := rfl
instance : Pur TSlot.cells := ⟨TSlot.cells_pure⟩
structure TTable where
 fHashed : Bool
 fHeads : List Int
 fSlots : List TSlot
 fNext : Int
 fCount : Int
 deriving Inhabited
abbrev TTable.lit (x : TTable) : List PV := [.bool x.fHashed, sl 1 cI x.fHeads, sl 10 TSlot.cells x.fSlots, .int .i64 x.fNext, .int .i64 x.fCount]
def TTable.cells (x : TTable) : List PV := x.lit
theorem TTable.cells_eq (x : TTable) : x.cells = x.lit := rfl
theorem TTable.cells_pure (x : TTable) : x.cells.all isPure = true := rfl
instance : Pur TTable.cells := ⟨TTable.cells_pure⟩
structure TL1Cur where
 fB : List UInt8
 fI : Int
 fH : Int
 deriving DecidableEq, Inhabited
abbrev TL1Cur.lit (x : TL1Cur) : List PV := [sl 1 cB x.fB, .int .i64 x.fI, .int .i64 x.fH]
def TL1Cur.cells (x : TL1Cur) : List PV := x.lit
theorem TL1Cur.cells_eq (x : TL1Cur) : x.cells = x.lit := rfl
theorem TL1Cur.cells_pure (x : TL1Cur) : x.cells.all isPure = true := rfl
instance : Pur TL1Cur.cells := ⟨TL1Cur.cells_pure⟩
theorem TKey.eq_cells (x y : TKey) : ((x.fText == y.fText) && ((x.fNum == y.fNum) && ((x.fStr == y.fStr) && true))) = decide (x = y) := by
 rw [Bool.eq_iff_iff]
 simp only [Bool.and_eq_true, beq_iff_eq, Bool.and_true, decide_eq_true_eq]
 constructor
 ·intro h
  cases x; cases y
  simp only [TKey.mk.injEq]
  simpa using h
 ·rintro rfl
  simp
def tabT : Tab := mkTab [(3, .int .i64),
 (4, .bool),
 (5, .int .u8),
 (9, .str),
 (22, .slice 5 1 1 [.int .u8 0]),
 (24, .slice 29 5 64 [.int .i64 0, .int .i64 0, .str [], .int .i64 0, .nils]),
 (27, .slice 43 8 96 [.bool false, .int .i64 0, .str [], .int .i64 0, .int .i64 0, .str [], .int .i64 0, .nils]),
 (29, .struct 5 [(0, 1, false), (1, 1, false), (2, 1, false), (3, 1, false), (4, 1, false)] [.int .i64 0, .int .i64 0, .str [], .int .i64 0, .nils]),
 (33, .slice 3 1 8 [.int .i64 0]),
 (34, .slice 58 10 112 [.bool false, .int .i64 0, .str [], .int .i64 0, .int .i64 0, .str [], .int .i64 0, .nils, .bool false, .int .i64 0]),
 (36, .struct 5 [(0, 1, false), (1, 1, false), (2, 1, false), (3, 1, false), (4, 1, false)] [.bool false, .nils, .nils, .int .i64 0, .int .i64 0]),
 (41, .struct 3 [(0, 1, false), (1, 1, false), (2, 1, false)] [.bool false, .int .i64 0, .str []]),
 (43, .struct 8 [(0, 3, true), (3, 5, true)] [.bool false, .int .i64 0, .str [], .int .i64 0, .int .i64 0, .str [], .int .i64 0, .nils]),
 (58, .struct 10 [(0, 3, true), (3, 5, true), (8, 1, false), (9, 1, false)] [.bool false, .int .i64 0, .str [], .int .i64 0, .int .i64 0, .str [], .int .i64 0, .nils, .bool false, .int .i64 0]),
 (63, .struct 3 [(0, 1, false), (1, 1, false), (2, 1, false)] [.nils, .int .i64 0, .int .i64 0]),
 (93, .slice 9 1 16 [.str []]),
 (95, .map 41 4 (.bool false))]
theorem tabT_ok : TabOk Tryd.prog tabT := tabOk (by kernel_rfl)
theorem mixed : Tryd.prog.follows .mixedOrders = true := by kernel_rfl
theorem vc1 {f : FuncId} {fn : Func} {c : Code} {args : List PV} {h : List AObj} {R : PV → List AObj → Prop} (hf : Tryd.prog.funcs[f]? = some fn) (hv : vc Tryd.prog tabT h.length c (RetQ tabT fn.results.toList h.length R) (entryEnv args) h) (hb : fn.body = some c := by rfl) (hname : (fn.name == "runtime.NumGoroutine") = false := by kernel_rfl) (hn : Nat.ble args.length fn.ntmps = true := by rfl) (hok : codeOk fn.ntmps c = true := by kernel_rfl) : ACall Tryd.prog f args h R := ACall.of_vc tabT_ok mixed hf hb hname _ _ _ hn hok hv
end Go.Am
