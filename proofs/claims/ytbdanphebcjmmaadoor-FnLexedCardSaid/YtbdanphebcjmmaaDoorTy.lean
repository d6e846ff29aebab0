/- The Go structs as Lean trees, their cells, and the table of types. (Printed by tools/mg.py.) -/
import Derived.Test.YtbdanphebcjmmaaDoorBmP
import Derived.Test.YtbdanphebcjmmaaDoorProg
set_option linter.unusedVariables false
set_option linter.unusedSimpArgs false
namespace Go.Am
open Go Go.RowKit Go.Proofs

structure TToken where
  fKind : Int
  fNum : Int
  fText : Str
  fAt : Int
  deriving DecidableEq, Inhabited
abbrev TToken.lit (x : TToken) : List PV := [.int .i64 x.fKind, .int .i64 x.fNum, .str x.fText, .int .i64 x.fAt]
def TToken.cells (x : TToken) : List PV := x.lit
theorem TToken.cells_eq (x : TToken) : x.cells = x.lit := rfl
theorem TToken.cells_pure (x : TToken) : x.cells.all isPure = true := rfl
structure TLexer where
  fS : Str
  fAt : Int
  fOut : List TToken
  fCode : Int
  deriving DecidableEq, Inhabited
abbrev TLexer.lit (x : TLexer) : List PV := [.str x.fS, .int .i64 x.fAt, sl 4 TToken.cells x.fOut, .int .i64 x.fCode]
def TLexer.cells (x : TLexer) : List PV := x.lit
theorem TLexer.cells_eq (x : TLexer) : x.cells = x.lit := rfl
theorem TLexer.cells_pure (x : TLexer) : x.cells.all isPure = true := rfl
structure TL1Cur where
  fB : List UInt8
  fI : Int
  fH : Int
  deriving DecidableEq, Inhabited
abbrev TL1Cur.lit (x : TL1Cur) : List PV := [sl 1 cB x.fB, .int .i64 x.fI, .int .i64 x.fH]
def TL1Cur.cells (x : TL1Cur) : List PV := x.lit
theorem TL1Cur.cells_eq (x : TL1Cur) : x.cells = x.lit := rfl
theorem TL1Cur.cells_pure (x : TL1Cur) : x.cells.all isPure = true := rfl
theorem TToken.eq_cells (x y : TToken) : ((x.fKind == y.fKind) && ((x.fNum == y.fNum) && ((x.fText == y.fText) && ((x.fAt == y.fAt) && true)))) = decide (x = y) := by
  rw [Bool.eq_iff_iff]
  simp only [Bool.and_eq_true, beq_iff_eq, Bool.and_true, decide_eq_true_eq]
  constructor
  · intro h
    cases x; cases y
    simp only [TToken.mk.injEq]
    simpa using h
  · rintro rfl
    simp
def tabT : Tab := mkTab [(3, .int .i64),
  (4, .bool),
  (5, .int .u8),
  (9, .str),
  (22, .slice 5 1 1 [.int .u8 0]),
  (25, .slice 30 4 40 [.int .i64 0, .int .i64 0, .str [], .int .i64 0]),
  (30, .struct 4 [(0, 1, false), (1, 1, false), (2, 1, false), (3, 1, false)] [.int .i64 0, .int .i64 0, .str [], .int .i64 0]),
  (37, .slice 9 1 16 [.str []]),
  (40, .struct 4 [(0, 1, false), (1, 1, false), (2, 1, false), (3, 1, false)] [.str [], .int .i64 0, .nils, .int .i64 0]),
  (43, .struct 3 [(0, 1, false), (1, 1, false), (2, 1, false)] [.nils, .int .i64 0, .int .i64 0])]
theorem tabT_ok : TabOk Tryd.prog tabT := tabOk (by kernel_rfl)
theorem mixed : Tryd.prog.follows .mixedOrders = true := by kernel_rfl
end Go.Am
