/-
 DERIVED: THE SHELF's CONTRACTS AT THIS DUMP, IN PLAIN WORDS (tools/lay-plain.mjs out of 'TrydShelf.lean', which tools/lay-shelf.mjs wrote): THE SAME DECLARATIONS UNDER THE SAME NAMES: 'import', 'namespace', 'open', 'def', 'theorem' AND NOTHING ELSE: no command of the shelf's: FOR A HAND-IN. Each laying: the table of numbers ('.._ren') and one theorem, a field a fact of the dump's own or the kernel's comparison; each contract: ONE APPLICATION.
-/
import Derived.Shelf.Strconv.Atoi
import Derived.Shelf.Strconv.Itoa0
import Derived.Shelf.Strconv.Itoa1
import Derived.Shelf.LaysM
import Derived.Shelf.Strconv.Itoa2
import Derived.Shelf.Strconv.Itoa3
import Derived.Shelf.Strconv.AtoiErrFast
import Derived.Shelf.Strconv.ParseIntEmpty
import Derived.Shelf.Strconv.AtoiFail
import Derived.Shelf.Strconv.Clone
import Derived.Shelf.Strconv.SyntaxError
import Derived.Shelf.LaysC
import Derived.Shelf.Strconv.ToError
import Derived.Shelf.Strconv.AtoiErr
import Derived.Shelf.Strconv.ErrVar
import Derived.Shelf.Strconv.Lower
import Derived.Shelf.Strconv.ParseUint10
import Derived.Shelf.Strconv.ParseUint10Empty
import Derived.Shelf.Strconv.ParseUint10Any
import Derived.Shelf.Strconv.ParseInt10
import Derived.Shelf.Strconv.AtoiLong
import Derived.Shelf.Strconv.AtoiInnerAll
import Derived.Shelf.Strconv.RangeError
import Derived.Shelf.Strconv.ToErrorRange
import Derived.Shelf.Strconv.AtoiAll
import Derived.Shelf.Strconv.ErrVarAll
import Derived.Shelf.Strconv.ParseUintEmpty
import Derived.Shelf.Strconv.ParseUint10b64
import Derived.Shelf.Strconv.ParseUint10b32
import Derived.Shelf.Strconv.ParseUint10b16
import Derived.Shelf.Strconv.ParseUint10b8
import Derived.Shelf.Strconv.ParseUint10At
import Derived.Shelf.Strings.Prefix
import Derived.Test.YtcipcpjmialcoaaDoorProg
namespace Go.Proofs
open Go.Shelf
def Tryd.lays244_ren : Go.Shelf.Ren := ⟨fun | 244 => 89 | 247 => 92 | 287 => 98 | 321 => 105 | 322 => 106 | n => n, fun | 9 => 9 | 3 => 3 | 75 => 101 | 4 => 4 | 5 => 5 | 167 => 109 | 37 => 30 | 0 => 0 | 85 => 110 | 2 => 2 | 53 => 116 | 175 => 117 | 46 => 105 | 21 => 21 | 80 => 143 | n => n, fun | n => n⟩
theorem Tryd.lays244 : Go.Proofs.Lays.n244 Tryd.prog Tryd.lays244_ren := {
 mixed := by kernel_rfl
 f244 := Tryd.func89.trans (congrArg some (by kernel_rfl))
 f247 := Tryd.func92.trans (congrArg some (by kernel_rfl))
 f287 := Tryd.func98.trans (congrArg some (by kernel_rfl))
 f321 := Tryd.func105.trans (congrArg some (by kernel_rfl))
 f322 := Tryd.func106.trans (congrArg some (by kernel_rfl))
 t0 := Tryd.underlying0
 a0 := Tryd.isAgg0
 z0 := Tryd.sizeOf0
 v0 := Tryd.zeroValue0
 t2 := Tryd.underlying2
 a2 := Tryd.isAgg2
 z2 := Tryd.sizeOf2
 v2 := Tryd.zeroValue2
 t3 := Tryd.underlying3
 a3 := Tryd.isAgg3
 z3 := Tryd.sizeOf3
 v3 := Tryd.zeroValue3
 t4 := Tryd.underlying4
 a4 := Tryd.isAgg4
 z4 := Tryd.sizeOf4
 v4 := Tryd.zeroValue4
 t5 := Tryd.underlying5
 a5 := Tryd.isAgg5
 z5 := Tryd.sizeOf5
 v5 := Tryd.zeroValue5
 t9 := Tryd.underlying9
 a9 := Tryd.isAgg9
 z9 := Tryd.sizeOf9
 v9 := Tryd.zeroValue9
 t21 := Tryd.underlying21
 a21 := Tryd.isAgg21
 z21 := Tryd.sizeOf21
 v21 := Tryd.zeroValue21
 t37 := Tryd.underlying30
 a37 := Tryd.isAgg30
 z37 := Tryd.sizeOf30
 v37 := Tryd.zeroValue30
 t46 := Tryd.underlying105
 a46 := Tryd.isAgg105
 z46 := Tryd.sizeOf105
 v46 := Tryd.zeroValue105
 t53 := Tryd.underlying116
 a53 := Tryd.isAgg116
 z53 := Tryd.sizeOf116
 v53 := Tryd.zeroValue116
 t75 := Tryd.underlying101
 a75 := Tryd.isAgg101
 z75 := Tryd.sizeOf101
 v75 := Tryd.zeroValue101
 t85 := Tryd.underlying110
 a85 := Tryd.isAgg110
 z85 := Tryd.sizeOf110
 v85 := Tryd.zeroValue110
 t167 := Tryd.underlying109
 a167 := Tryd.isAgg109
 z167 := Tryd.sizeOf109
 v167 := Tryd.zeroValue109
 t175 := Tryd.underlying117
 a175 := Tryd.isAgg117
 z175 := Tryd.sizeOf117
 v175 := Tryd.zeroValue117 }
open Go.RowKit in
theorem Tryd.internal_strconv_Atoi (s : ByteArray) (n : Int) (hl : s.size ≤ 18) (h : Lib.atoi s.data.toList = some n) (w : World) :
  Calls Tryd.prog 89 #[.string s] w fun e w' => e = .returned (.tuple #[.int .i64 n, .nilIface]) ∧ ∃ t, w' = Lib.bytesWorld w 5 t := Any.internal_strconv_Atoi Tryd.lays244 s n hl h w
def Tryd.lays172_ren : Go.Shelf.Ren := ⟨fun | 172 => 83 | 244 => 89 | 245 => 90 | 247 => 92 | 279 => 93 | 280 => 94 | 281 => 95 | 282 => 96 | 287 => 98 | 316 => 99 | 171 => 84 | 205 => 100 | 321 => 105 | 322 => 106 | 243 => 91 | 246 => 97 | 283 => 101 | 284 => 102 | 285 => 103 | 286 => 104 | 129 => 108 | 317 => 107 | 318 => 109 | 319 => 110 | 320 => 111 | 337 => 112 | 338 => 113 | n => n, fun | 9 => 9 | 3 => 3 | 75 => 101 | 76 => 102 | 4 => 4 | 5 => 5 | 167 => 109 | 37 => 30 | 0 => 0 | 85 => 110 | 2 => 2 | 168 => 112 | 53 => 116 | 175 => 117 | 46 => 105 | 210 => 121 | 127 => 129 | 145 => 132 | 143 => 130 | 21 => 21 | 171 => 123 | 173 => 126 | 212 => 135 | 51 => 136 | 20 => 20 | 213 => 137 | 232 => 141 | 233 => 142 | 80 => 143 | n => n, fun | 15 => 0 | 16 => 1 | 17 => 2 | 18 => 3 | 19 => 4 | n => n⟩
theorem Tryd.lays172 : Go.Proofs.Lays.n172 Tryd.prog Tryd.lays172_ren := {
 mixed := by kernel_rfl
 f129 := Tryd.func108.trans (congrArg some (by kernel_rfl))
 f171 := Tryd.func84.trans (congrArg some (by kernel_rfl))
 f172 := Tryd.func83.trans (congrArg some (by kernel_rfl))
 f205 := Tryd.func100.trans (congrArg some (by kernel_rfl))
 f243 := Tryd.func91.trans (congrArg some (by kernel_rfl))
 f244 := Tryd.func89.trans (congrArg some (by kernel_rfl))
 f245 := Tryd.func90.trans (congrArg some (by kernel_rfl))
 f246 := Tryd.func97.trans (congrArg some (by kernel_rfl))
 f247 := Tryd.func92.trans (congrArg some (by kernel_rfl))
 f279 := Tryd.func93.trans (congrArg some (by kernel_rfl))
 f280 := Tryd.func94.trans (congrArg some (by kernel_rfl))
 f281 := Tryd.func95.trans (congrArg some (by kernel_rfl))
 f282 := Tryd.func96.trans (congrArg some (by kernel_rfl))
 f283 := Tryd.func101.trans (congrArg some (by kernel_rfl))
 f284 := Tryd.func102.trans (congrArg some (by kernel_rfl))
 f285 := Tryd.func103.trans (congrArg some (by kernel_rfl))
 f286 := Tryd.func104.trans (congrArg some (by kernel_rfl))
 f287 := Tryd.func98.trans (congrArg some (by kernel_rfl))
 f316 := Tryd.func99.trans (congrArg some (by kernel_rfl))
 f317 := Tryd.func107.trans (congrArg some (by kernel_rfl))
 f318 := Tryd.func109.trans (congrArg some (by kernel_rfl))
 f319 := Tryd.func110.trans (congrArg some (by kernel_rfl))
 f320 := Tryd.func111.trans (congrArg some (by kernel_rfl))
 f321 := Tryd.func105.trans (congrArg some (by kernel_rfl))
 f322 := Tryd.func106.trans (congrArg some (by kernel_rfl))
 f337 := Tryd.func112.trans (congrArg some (by kernel_rfl))
 f338 := Tryd.func113.trans (congrArg some (by kernel_rfl))
 t0 := Tryd.underlying0
 a0 := Tryd.isAgg0
 z0 := Tryd.sizeOf0
 v0 := Tryd.zeroValue0
 t2 := Tryd.underlying2
 a2 := Tryd.isAgg2
 z2 := Tryd.sizeOf2
 v2 := Tryd.zeroValue2
 t3 := Tryd.underlying3
 a3 := Tryd.isAgg3
 z3 := Tryd.sizeOf3
 v3 := Tryd.zeroValue3
 t4 := Tryd.underlying4
 a4 := Tryd.isAgg4
 z4 := Tryd.sizeOf4
 v4 := Tryd.zeroValue4
 t5 := Tryd.underlying5
 a5 := Tryd.isAgg5
 z5 := Tryd.sizeOf5
 v5 := Tryd.zeroValue5
 t9 := Tryd.underlying9
 a9 := Tryd.isAgg9
 z9 := Tryd.sizeOf9
 v9 := Tryd.zeroValue9
 t20 := Tryd.underlying20
 a20 := Tryd.isAgg20
 z20 := Tryd.sizeOf20
 v20 := Tryd.zeroValue20
 t21 := Tryd.underlying21
 a21 := Tryd.isAgg21
 z21 := Tryd.sizeOf21
 v21 := Tryd.zeroValue21
 t37 := Tryd.underlying30
 a37 := Tryd.isAgg30
 z37 := Tryd.sizeOf30
 v37 := Tryd.zeroValue30
 t46 := Tryd.underlying105
 a46 := Tryd.isAgg105
 z46 := Tryd.sizeOf105
 v46 := Tryd.zeroValue105
 t51 := Tryd.underlying136
 a51 := Tryd.isAgg136
 z51 := Tryd.sizeOf136
 v51 := Tryd.zeroValue136
 t53 := Tryd.underlying116
 a53 := Tryd.isAgg116
 z53 := Tryd.sizeOf116
 v53 := Tryd.zeroValue116
 t75 := Tryd.underlying101
 a75 := Tryd.isAgg101
 z75 := Tryd.sizeOf101
 v75 := Tryd.zeroValue101
 t76 := Tryd.underlying102
 a76 := Tryd.isAgg102
 z76 := Tryd.sizeOf102
 v76 := Tryd.zeroValue102
 t85 := Tryd.underlying110
 a85 := Tryd.isAgg110
 z85 := Tryd.sizeOf110
 v85 := Tryd.zeroValue110
 t127 := Tryd.underlying129
 a127 := Tryd.isAgg129
 z127 := Tryd.sizeOf129
 v127 := Tryd.zeroValue129
 t143 := Tryd.underlying130
 a143 := Tryd.isAgg130
 z143 := Tryd.sizeOf130
 v143 := Tryd.zeroValue130
 t145 := Tryd.underlying132
 a145 := Tryd.isAgg132
 z145 := Tryd.sizeOf132
 v145 := Tryd.zeroValue132
 t167 := Tryd.underlying109
 a167 := Tryd.isAgg109
 z167 := Tryd.sizeOf109
 v167 := Tryd.zeroValue109
 t168 := Tryd.underlying112
 a168 := Tryd.isAgg112
 z168 := Tryd.sizeOf112
 v168 := Tryd.zeroValue112
 t171 := Tryd.underlying123
 a171 := Tryd.isAgg123
 z171 := Tryd.sizeOf123
 v171 := Tryd.zeroValue123
 t173 := Tryd.underlying126
 a173 := Tryd.isAgg126
 z173 := Tryd.sizeOf126
 v173 := Tryd.zeroValue126
 t175 := Tryd.underlying117
 a175 := Tryd.isAgg117
 z175 := Tryd.sizeOf117
 v175 := Tryd.zeroValue117
 t210 := Tryd.underlying121
 a210 := Tryd.isAgg121
 z210 := Tryd.sizeOf121
 v210 := Tryd.zeroValue121
 t212 := Tryd.underlying135
 a212 := Tryd.isAgg135
 z212 := Tryd.sizeOf135
 v212 := Tryd.zeroValue135
 t213 := Tryd.underlying137
 a213 := Tryd.isAgg137
 z213 := Tryd.sizeOf137
 t232 := Tryd.underlying141
 a232 := Tryd.isAgg141
 z232 := Tryd.sizeOf141
 v232 := Tryd.zeroValue141
 t233 := Tryd.underlying142
 a233 := Tryd.isAgg142
 z233 := Tryd.sizeOf142
 v233 := Tryd.zeroValue142
 g15 := by kernel_rfl
 g16 := by kernel_rfl
 g17 := by kernel_rfl
 g18 := by kernel_rfl
 g19 := by kernel_rfl }
open Go.RowKit in
theorem Tryd.strconv_Atoi (s : ByteArray) (n : Int) (hl : s.size ≤ 18) (h : Lib.atoi s.data.toList = some n) (w : World) :
  Calls Tryd.prog 83 #[.string s] w fun e w' => e = .returned (.tuple #[.int .i64 n, .nilIface]) ∧ ∃ t, w' = Lib.bytesWorld w 5 t := Any.strconv_Atoi Tryd.lays172 s n hl h w
def Tryd.lays129_ren : Go.Shelf.Ren := ⟨fun | 129 => 108 | n => n, fun | 53 => 116 | 3 => 3 | 4 => 4 | 46 => 105 | 5 => 5 | 9 => 9 | n => n, fun | n => n⟩
theorem Tryd.lays129 : Go.Proofs.Lays.n129 Tryd.prog Tryd.lays129_ren := {
 mixed := by kernel_rfl
 f129 := Tryd.func108.trans (congrArg some (by kernel_rfl))
 t3 := Tryd.underlying3
 a3 := Tryd.isAgg3
 z3 := Tryd.sizeOf3
 v3 := Tryd.zeroValue3
 t4 := Tryd.underlying4
 a4 := Tryd.isAgg4
 z4 := Tryd.sizeOf4
 v4 := Tryd.zeroValue4
 t5 := Tryd.underlying5
 a5 := Tryd.isAgg5
 z5 := Tryd.sizeOf5
 v5 := Tryd.zeroValue5
 t9 := Tryd.underlying9
 a9 := Tryd.isAgg9
 z9 := Tryd.sizeOf9
 v9 := Tryd.zeroValue9
 t46 := Tryd.underlying105
 a46 := Tryd.isAgg105
 z46 := Tryd.sizeOf105
 v46 := Tryd.zeroValue105
 t53 := Tryd.underlying116
 a53 := Tryd.isAgg116
 z53 := Tryd.sizeOf116
 v53 := Tryd.zeroValue116 }
theorem Tryd.bits_Len64 (x : Int) (w : World) (h0 : 0 ≤ x) (h1 : x ≤ 18446744073709551615) :
  Calls Tryd.prog 108 #[.int .u64 x] w fun e w' => e = .returned (.int .i64 (Lib.bitLen x.toNat)) ∧ w' = w := Any.bits_Len64 Tryd.lays129 x w h0 h1
def Tryd.lays317_ren : Go.Shelf.Ren := ⟨fun | 317 => 107 | n => n, fun | 3 => 3 | 46 => 105 | n => n, fun | n => n⟩
theorem Tryd.lays317 : Go.Proofs.Lays.n317 Tryd.prog Tryd.lays317_ren := {
 mixed := by kernel_rfl
 f317 := Tryd.func107.trans (congrArg some (by kernel_rfl))
 t3 := Tryd.underlying3
 a3 := Tryd.isAgg3
 z3 := Tryd.sizeOf3
 v3 := Tryd.zeroValue3
 t46 := Tryd.underlying105
 a46 := Tryd.isAgg105
 z46 := Tryd.sizeOf105
 v46 := Tryd.zeroValue105 }
open Go.Lib in
theorem Tryd.internal_strconv_log10Pow2 (x : Nat) (h : x ≤ 64) (w : World) :
  Calls Tryd.prog 107 #[.int .i64 x] w fun e w' => e = .returned (.int .i64 (Lib.l10 x)) ∧ w' = w := Any.internal_strconv_log10Pow2 Tryd.lays317 x h w
def Tryd.lays318_ren : Go.Shelf.Ren := ⟨fun | 318 => 109 | n => n, fun | 3 => 3 | 4 => 4 | n => n, fun | n => n⟩
theorem Tryd.lays318 : Go.Proofs.Lays.n318 Tryd.prog Tryd.lays318_ren := {
 mixed := by kernel_rfl
 f318 := Tryd.func109.trans (congrArg some (by kernel_rfl))
 t3 := Tryd.underlying3
 a3 := Tryd.isAgg3
 z3 := Tryd.sizeOf3
 v3 := Tryd.zeroValue3
 t4 := Tryd.underlying4
 a4 := Tryd.isAgg4
 z4 := Tryd.sizeOf4
 v4 := Tryd.zeroValue4 }
open Go.Lib in
theorem Tryd.internal_strconv_bool2_int (b : Bool) (w : World) :
  Calls Tryd.prog 109 #[.bool b] w fun e w' => e = .returned (.int .i64 (if b then 1 else 0)) ∧ w' = w := Any.internal_strconv_bool2_int Tryd.lays318 b w
def Tryd.lays283_ren : Go.Shelf.Ren := ⟨fun | 283 => 101 | n => n, fun | 3 => 3 | 9 => 9 | 4 => 4 | n => n, fun | n => n⟩
theorem Tryd.lays283 : Go.Proofs.Lays.n283 Tryd.prog Tryd.lays283_ren := {
 mixed := by kernel_rfl
 f283 := Tryd.func101.trans (congrArg some (by kernel_rfl))
 t3 := Tryd.underlying3
 a3 := Tryd.isAgg3
 z3 := Tryd.sizeOf3
 v3 := Tryd.zeroValue3
 t4 := Tryd.underlying4
 a4 := Tryd.isAgg4
 z4 := Tryd.sizeOf4
 v4 := Tryd.zeroValue4
 t9 := Tryd.underlying9
 a9 := Tryd.isAgg9
 z9 := Tryd.sizeOf9
 v9 := Tryd.zeroValue9 }
open Go.Lib in
theorem Tryd.internal_strconv_small (i : Nat) (h : i < 100) (w : World) :
  Calls Tryd.prog 101 #[.int .i64 i] w fun e w' => e = .returned (.string ⟨(Lib.decDigits i).toArray⟩) ∧ w' = w := Any.internal_strconv_small Tryd.lays283 i h w
def Tryd.laysM284_ren : Go.Shelf.Ren := ⟨fun | 284 => 102 | 129 => 108 | 317 => 107 | 318 => 109 | n => n, fun | 53 => 116 | 3 => 3 | 212 => 135 | 0 => 0 | 4 => 4 | 46 => 105 | 5 => 5 | 9 => 9 | n => n, fun | 17 => 2 | n => n⟩
theorem Tryd.laysM284 : Go.Proofs.LaysM.n284 Tryd.prog Tryd.laysM284_ren := {
 mixed := by kernel_rfl
 f129 := Tryd.func108.trans (congrArg some (by kernel_rfl))
 f284 := Tryd.func102.trans (congrArg some (by kernel_rfl))
 f317 := Tryd.func107.trans (congrArg some (by kernel_rfl))
 f318 := Tryd.func109.trans (congrArg some (by kernel_rfl))
 t0 := Tryd.underlying0
 a0 := Tryd.isAgg0
 z0 := Tryd.sizeOf0
 v0 := Tryd.zeroValue0
 t3 := Tryd.underlying3
 a3 := Tryd.isAgg3
 z3 := Tryd.sizeOf3
 v3 := Tryd.zeroValue3
 t4 := Tryd.underlying4
 a4 := Tryd.isAgg4
 z4 := Tryd.sizeOf4
 v4 := Tryd.zeroValue4
 t5 := Tryd.underlying5
 a5 := Tryd.isAgg5
 z5 := Tryd.sizeOf5
 v5 := Tryd.zeroValue5
 t9 := Tryd.underlying9
 a9 := Tryd.isAgg9
 z9 := Tryd.sizeOf9
 v9 := Tryd.zeroValue9
 t46 := Tryd.underlying105
 a46 := Tryd.isAgg105
 z46 := Tryd.sizeOf105
 v46 := Tryd.zeroValue105
 t53 := Tryd.underlying116
 a53 := Tryd.isAgg116
 z53 := Tryd.sizeOf116
 v53 := Tryd.zeroValue116
 t212 := Tryd.underlying135
 a212 := Tryd.isAgg135
 z212 := Tryd.sizeOf135
 v212 := Tryd.zeroValue135
 g17 := by kernel_rfl
 i0 := by kernel_rfl
 i3 := by kernel_rfl
 i4 := by kernel_rfl
 i5 := by kernel_rfl
 i9 := by kernel_rfl
 i46 := by kernel_rfl
 i53 := by kernel_rfl
 i212 := by kernel_rfl
 m17 := by kernel_rfl }
open Go.Lib in
theorem Tryd.internal_strconv_numDigits (u : Nat) (h1 : 1 ≤ u) (h2 : u < 18446744073709551616) (w : World) (htab : Lib.TabIs Tryd.prog w "internal/strconv.uint64pow10" .u64 Lib.pow10Tab) :
  Calls Tryd.prog 102 #[.int .u64 u] w fun e w' => e = .returned (.int .i64 (Lib.nDigits u)) ∧ w' = w := Any.internal_strconv_numDigits Tryd.laysM284 u h1 h2 w htab
def Tryd.lays285_ren : Go.Shelf.Ren := ⟨fun | 285 => 103 | n => n, fun | 37 => 30 | 53 => 116 | 3 => 3 | 4 => 4 | 51 => 136 | 9 => 9 | 5 => 5 | 0 => 0 | n => n, fun | n => n⟩
theorem Tryd.lays285 : Go.Proofs.Lays.n285 Tryd.prog Tryd.lays285_ren := {
 mixed := by kernel_rfl
 f285 := Tryd.func103.trans (congrArg some (by kernel_rfl))
 t0 := Tryd.underlying0
 a0 := Tryd.isAgg0
 z0 := Tryd.sizeOf0
 v0 := Tryd.zeroValue0
 t3 := Tryd.underlying3
 a3 := Tryd.isAgg3
 z3 := Tryd.sizeOf3
 v3 := Tryd.zeroValue3
 t4 := Tryd.underlying4
 a4 := Tryd.isAgg4
 z4 := Tryd.sizeOf4
 v4 := Tryd.zeroValue4
 t5 := Tryd.underlying5
 a5 := Tryd.isAgg5
 z5 := Tryd.sizeOf5
 v5 := Tryd.zeroValue5
 t9 := Tryd.underlying9
 a9 := Tryd.isAgg9
 z9 := Tryd.sizeOf9
 v9 := Tryd.zeroValue9
 t37 := Tryd.underlying30
 a37 := Tryd.isAgg30
 z37 := Tryd.sizeOf30
 v37 := Tryd.zeroValue30
 t51 := Tryd.underlying136
 a51 := Tryd.isAgg136
 z51 := Tryd.sizeOf136
 v51 := Tryd.zeroValue136
 t53 := Tryd.underlying116
 a53 := Tryd.isAgg116
 z53 := Tryd.sizeOf116
 v53 := Tryd.zeroValue116 }
open Go.RowKit Go.Sort Go.Lib in
theorem Tryd.internal_strconv_formatBase10 (blk off cap : Nat) (u : Nat) (d : Array UInt8) (w : World) (hH : Holds (fun (b : UInt8) => Value.int .u8 (b.toNat : Int)) w blk off d) (hu : u < 10 ^ d.size) (hu64 : u < 18446744073709551616) (hsz : d.size < 4611686018427387904) :
  Calls Tryd.prog 103 #[.slice (some ⟨blk, off, none⟩) d.size cap, .int .u64 u] w fun e w' =>
   e = .returned (.tuple #[]) ∧ ∃ (n v' : Nat) (dk : Array UInt8), w' = (putRow (fun (b : UInt8) => Value.int .u8 (b.toNat : Int)) w blk off dk).drewN n ∧ FmtInv d.size u 0 v' dk := Any.internal_strconv_formatBase10 Tryd.lays285 blk off cap u d w hH hu hu64 hsz
def Tryd.laysM246_ren : Go.Shelf.Ren := ⟨fun | 246 => 97 | 283 => 101 | 284 => 102 | 285 => 103 | 286 => 104 | 129 => 108 | 317 => 107 | 318 => 109 | 319 => 110 | 320 => 111 | 337 => 112 | 338 => 113 | n => n, fun | 2 => 2 | 3 => 3 | 9 => 9 | 4 => 4 | 171 => 123 | 0 => 0 | 53 => 116 | 37 => 30 | 5 => 5 | 173 => 126 | 212 => 135 | 51 => 136 | 20 => 20 | 213 => 137 | 46 => 105 | 232 => 141 | 233 => 142 | n => n, fun | 17 => 2 | 18 => 3 | 19 => 4 | n => n⟩
theorem Tryd.laysM246 : Go.Proofs.LaysM.n246 Tryd.prog Tryd.laysM246_ren := {
 mixed := by kernel_rfl
 f129 := Tryd.func108.trans (congrArg some (by kernel_rfl))
 f246 := Tryd.func97.trans (congrArg some (by kernel_rfl))
 f283 := Tryd.func101.trans (congrArg some (by kernel_rfl))
 f284 := Tryd.func102.trans (congrArg some (by kernel_rfl))
 f285 := Tryd.func103.trans (congrArg some (by kernel_rfl))
 f286 := Tryd.func104.trans (congrArg some (by kernel_rfl))
 f317 := Tryd.func107.trans (congrArg some (by kernel_rfl))
 f318 := Tryd.func109.trans (congrArg some (by kernel_rfl))
 f319 := Tryd.func110.trans (congrArg some (by kernel_rfl))
 f320 := Tryd.func111.trans (congrArg some (by kernel_rfl))
 f337 := Tryd.func112.trans (congrArg some (by kernel_rfl))
 f338 := Tryd.func113.trans (congrArg some (by kernel_rfl))
 t0 := Tryd.underlying0
 a0 := Tryd.isAgg0
 z0 := Tryd.sizeOf0
 v0 := Tryd.zeroValue0
 t2 := Tryd.underlying2
 a2 := Tryd.isAgg2
 z2 := Tryd.sizeOf2
 v2 := Tryd.zeroValue2
 t3 := Tryd.underlying3
 a3 := Tryd.isAgg3
 z3 := Tryd.sizeOf3
 v3 := Tryd.zeroValue3
 t4 := Tryd.underlying4
 a4 := Tryd.isAgg4
 z4 := Tryd.sizeOf4
 v4 := Tryd.zeroValue4
 t5 := Tryd.underlying5
 a5 := Tryd.isAgg5
 z5 := Tryd.sizeOf5
 v5 := Tryd.zeroValue5
 t9 := Tryd.underlying9
 a9 := Tryd.isAgg9
 z9 := Tryd.sizeOf9
 v9 := Tryd.zeroValue9
 t20 := Tryd.underlying20
 a20 := Tryd.isAgg20
 z20 := Tryd.sizeOf20
 v20 := Tryd.zeroValue20
 t37 := Tryd.underlying30
 a37 := Tryd.isAgg30
 z37 := Tryd.sizeOf30
 v37 := Tryd.zeroValue30
 t46 := Tryd.underlying105
 a46 := Tryd.isAgg105
 z46 := Tryd.sizeOf105
 v46 := Tryd.zeroValue105
 t51 := Tryd.underlying136
 a51 := Tryd.isAgg136
 z51 := Tryd.sizeOf136
 v51 := Tryd.zeroValue136
 t53 := Tryd.underlying116
 a53 := Tryd.isAgg116
 z53 := Tryd.sizeOf116
 v53 := Tryd.zeroValue116
 t171 := Tryd.underlying123
 a171 := Tryd.isAgg123
 z171 := Tryd.sizeOf123
 v171 := Tryd.zeroValue123
 t173 := Tryd.underlying126
 a173 := Tryd.isAgg126
 z173 := Tryd.sizeOf126
 v173 := Tryd.zeroValue126
 t212 := Tryd.underlying135
 a212 := Tryd.isAgg135
 z212 := Tryd.sizeOf135
 v212 := Tryd.zeroValue135
 t213 := Tryd.underlying137
 a213 := Tryd.isAgg137
 z213 := Tryd.sizeOf137
 t232 := Tryd.underlying141
 a232 := Tryd.isAgg141
 z232 := Tryd.sizeOf141
 v232 := Tryd.zeroValue141
 t233 := Tryd.underlying142
 a233 := Tryd.isAgg142
 z233 := Tryd.sizeOf142
 v233 := Tryd.zeroValue142
 g17 := by kernel_rfl
 g18 := by kernel_rfl
 g19 := by kernel_rfl
 i0 := by kernel_rfl
 i2 := by kernel_rfl
 i3 := by kernel_rfl
 i4 := by kernel_rfl
 i5 := by kernel_rfl
 i9 := by kernel_rfl
 i20 := by kernel_rfl
 i37 := by kernel_rfl
 i46 := by kernel_rfl
 i51 := by kernel_rfl
 i53 := by kernel_rfl
 i171 := by kernel_rfl
 i173 := by kernel_rfl
 i212 := by kernel_rfl
 i232 := by kernel_rfl
 i233 := by kernel_rfl
 m17 := by kernel_rfl
 m18 := by kernel_rfl
 m19 := by kernel_rfl }
open Go.RowKit Go.Sort Go.Lib in
theorem Tryd.internal_strconv_FormatInt_10 (n : Int) (h0 : -9223372036854775808 ≤ n) (h1 : n ≤ 9223372036854775807) (w : World) (htab : Lib.TabIs Tryd.prog w "internal/strconv.uint64pow10" .u64 Lib.pow10Tab) :
  Calls Tryd.prog 97 #[.int .i64 n, .int .i64 10] w fun e w' => e = .returned (.string ⟨(Lib.itoa n).toArray⟩) ∧ ∃ k os, w' = grow (w.drewN k) os := Any.internal_strconv_FormatInt_10 Tryd.laysM246 n h0 h1 w htab
def Tryd.lays246_ren : Go.Shelf.Ren := ⟨fun | 246 => 97 | 283 => 101 | 284 => 102 | 285 => 103 | 286 => 104 | 129 => 108 | 317 => 107 | 318 => 109 | 319 => 110 | 320 => 111 | 337 => 112 | 338 => 113 | n => n, fun | 2 => 2 | 3 => 3 | 9 => 9 | 4 => 4 | 171 => 123 | 0 => 0 | 53 => 116 | 37 => 30 | 5 => 5 | 173 => 126 | 212 => 135 | 51 => 136 | 20 => 20 | 213 => 137 | 46 => 105 | 232 => 141 | 233 => 142 | n => n, fun | 17 => 2 | 18 => 3 | 19 => 4 | n => n⟩
theorem Tryd.lays246 : Go.Proofs.Lays.n246 Tryd.prog Tryd.lays246_ren := {
 mixed := by kernel_rfl
 f129 := Tryd.func108.trans (congrArg some (by kernel_rfl))
 f246 := Tryd.func97.trans (congrArg some (by kernel_rfl))
 f283 := Tryd.func101.trans (congrArg some (by kernel_rfl))
 f284 := Tryd.func102.trans (congrArg some (by kernel_rfl))
 f285 := Tryd.func103.trans (congrArg some (by kernel_rfl))
 f286 := Tryd.func104.trans (congrArg some (by kernel_rfl))
 f317 := Tryd.func107.trans (congrArg some (by kernel_rfl))
 f318 := Tryd.func109.trans (congrArg some (by kernel_rfl))
 f319 := Tryd.func110.trans (congrArg some (by kernel_rfl))
 f320 := Tryd.func111.trans (congrArg some (by kernel_rfl))
 f337 := Tryd.func112.trans (congrArg some (by kernel_rfl))
 f338 := Tryd.func113.trans (congrArg some (by kernel_rfl))
 t0 := Tryd.underlying0
 a0 := Tryd.isAgg0
 z0 := Tryd.sizeOf0
 v0 := Tryd.zeroValue0
 t2 := Tryd.underlying2
 a2 := Tryd.isAgg2
 z2 := Tryd.sizeOf2
 v2 := Tryd.zeroValue2
 t3 := Tryd.underlying3
 a3 := Tryd.isAgg3
 z3 := Tryd.sizeOf3
 v3 := Tryd.zeroValue3
 t4 := Tryd.underlying4
 a4 := Tryd.isAgg4
 z4 := Tryd.sizeOf4
 v4 := Tryd.zeroValue4
 t5 := Tryd.underlying5
 a5 := Tryd.isAgg5
 z5 := Tryd.sizeOf5
 v5 := Tryd.zeroValue5
 t9 := Tryd.underlying9
 a9 := Tryd.isAgg9
 z9 := Tryd.sizeOf9
 v9 := Tryd.zeroValue9
 t20 := Tryd.underlying20
 a20 := Tryd.isAgg20
 z20 := Tryd.sizeOf20
 v20 := Tryd.zeroValue20
 t37 := Tryd.underlying30
 a37 := Tryd.isAgg30
 z37 := Tryd.sizeOf30
 v37 := Tryd.zeroValue30
 t46 := Tryd.underlying105
 a46 := Tryd.isAgg105
 z46 := Tryd.sizeOf105
 v46 := Tryd.zeroValue105
 t51 := Tryd.underlying136
 a51 := Tryd.isAgg136
 z51 := Tryd.sizeOf136
 v51 := Tryd.zeroValue136
 t53 := Tryd.underlying116
 a53 := Tryd.isAgg116
 z53 := Tryd.sizeOf116
 v53 := Tryd.zeroValue116
 t171 := Tryd.underlying123
 a171 := Tryd.isAgg123
 z171 := Tryd.sizeOf123
 v171 := Tryd.zeroValue123
 t173 := Tryd.underlying126
 a173 := Tryd.isAgg126
 z173 := Tryd.sizeOf126
 v173 := Tryd.zeroValue126
 t212 := Tryd.underlying135
 a212 := Tryd.isAgg135
 z212 := Tryd.sizeOf135
 v212 := Tryd.zeroValue135
 t213 := Tryd.underlying137
 a213 := Tryd.isAgg137
 z213 := Tryd.sizeOf137
 t232 := Tryd.underlying141
 a232 := Tryd.isAgg141
 z232 := Tryd.sizeOf141
 v232 := Tryd.zeroValue141
 t233 := Tryd.underlying142
 a233 := Tryd.isAgg142
 z233 := Tryd.sizeOf142
 v233 := Tryd.zeroValue142
 g17 := by kernel_rfl
 g18 := by kernel_rfl
 g19 := by kernel_rfl }
open Go.RowKit Go.Sort Go.Lib in
theorem Tryd.internal_strconv_FormatInt_10_small (i : Nat) (hi : i < 100) (w : World) :
  Calls Tryd.prog 97 #[.int .i64 i, .int .i64 10] w fun e w' => e = .returned (.string ⟨(Lib.decDigits i).toArray⟩) ∧ w' = w := Any.internal_strconv_FormatInt_10_small Tryd.lays246 i hi w
def Tryd.laysM243_ren : Go.Shelf.Ren := ⟨fun | 243 => 91 | 246 => 97 | 283 => 101 | 284 => 102 | 285 => 103 | 286 => 104 | 129 => 108 | 317 => 107 | 318 => 109 | 319 => 110 | 320 => 111 | 337 => 112 | 338 => 113 | n => n, fun | 3 => 3 | 9 => 9 | 2 => 2 | 4 => 4 | 171 => 123 | 0 => 0 | 53 => 116 | 37 => 30 | 5 => 5 | 173 => 126 | 212 => 135 | 51 => 136 | 20 => 20 | 213 => 137 | 46 => 105 | 232 => 141 | 233 => 142 | n => n, fun | 17 => 2 | 18 => 3 | 19 => 4 | n => n⟩
theorem Tryd.laysM243 : Go.Proofs.LaysM.n243 Tryd.prog Tryd.laysM243_ren := {
 mixed := by kernel_rfl
 f129 := Tryd.func108.trans (congrArg some (by kernel_rfl))
 f243 := Tryd.func91.trans (congrArg some (by kernel_rfl))
 f246 := Tryd.func97.trans (congrArg some (by kernel_rfl))
 f283 := Tryd.func101.trans (congrArg some (by kernel_rfl))
 f284 := Tryd.func102.trans (congrArg some (by kernel_rfl))
 f285 := Tryd.func103.trans (congrArg some (by kernel_rfl))
 f286 := Tryd.func104.trans (congrArg some (by kernel_rfl))
 f317 := Tryd.func107.trans (congrArg some (by kernel_rfl))
 f318 := Tryd.func109.trans (congrArg some (by kernel_rfl))
 f319 := Tryd.func110.trans (congrArg some (by kernel_rfl))
 f320 := Tryd.func111.trans (congrArg some (by kernel_rfl))
 f337 := Tryd.func112.trans (congrArg some (by kernel_rfl))
 f338 := Tryd.func113.trans (congrArg some (by kernel_rfl))
 t0 := Tryd.underlying0
 a0 := Tryd.isAgg0
 z0 := Tryd.sizeOf0
 v0 := Tryd.zeroValue0
 t2 := Tryd.underlying2
 a2 := Tryd.isAgg2
 z2 := Tryd.sizeOf2
 v2 := Tryd.zeroValue2
 t3 := Tryd.underlying3
 a3 := Tryd.isAgg3
 z3 := Tryd.sizeOf3
 v3 := Tryd.zeroValue3
 t4 := Tryd.underlying4
 a4 := Tryd.isAgg4
 z4 := Tryd.sizeOf4
 v4 := Tryd.zeroValue4
 t5 := Tryd.underlying5
 a5 := Tryd.isAgg5
 z5 := Tryd.sizeOf5
 v5 := Tryd.zeroValue5
 t9 := Tryd.underlying9
 a9 := Tryd.isAgg9
 z9 := Tryd.sizeOf9
 v9 := Tryd.zeroValue9
 t20 := Tryd.underlying20
 a20 := Tryd.isAgg20
 z20 := Tryd.sizeOf20
 v20 := Tryd.zeroValue20
 t37 := Tryd.underlying30
 a37 := Tryd.isAgg30
 z37 := Tryd.sizeOf30
 v37 := Tryd.zeroValue30
 t46 := Tryd.underlying105
 a46 := Tryd.isAgg105
 z46 := Tryd.sizeOf105
 v46 := Tryd.zeroValue105
 t51 := Tryd.underlying136
 a51 := Tryd.isAgg136
 z51 := Tryd.sizeOf136
 v51 := Tryd.zeroValue136
 t53 := Tryd.underlying116
 a53 := Tryd.isAgg116
 z53 := Tryd.sizeOf116
 v53 := Tryd.zeroValue116
 t171 := Tryd.underlying123
 a171 := Tryd.isAgg123
 z171 := Tryd.sizeOf123
 v171 := Tryd.zeroValue123
 t173 := Tryd.underlying126
 a173 := Tryd.isAgg126
 z173 := Tryd.sizeOf126
 v173 := Tryd.zeroValue126
 t212 := Tryd.underlying135
 a212 := Tryd.isAgg135
 z212 := Tryd.sizeOf135
 v212 := Tryd.zeroValue135
 t213 := Tryd.underlying137
 a213 := Tryd.isAgg137
 z213 := Tryd.sizeOf137
 t232 := Tryd.underlying141
 a232 := Tryd.isAgg141
 z232 := Tryd.sizeOf141
 v232 := Tryd.zeroValue141
 t233 := Tryd.underlying142
 a233 := Tryd.isAgg142
 z233 := Tryd.sizeOf142
 v233 := Tryd.zeroValue142
 g17 := by kernel_rfl
 g18 := by kernel_rfl
 g19 := by kernel_rfl
 i0 := by kernel_rfl
 i2 := by kernel_rfl
 i3 := by kernel_rfl
 i4 := by kernel_rfl
 i5 := by kernel_rfl
 i9 := by kernel_rfl
 i20 := by kernel_rfl
 i37 := by kernel_rfl
 i46 := by kernel_rfl
 i51 := by kernel_rfl
 i53 := by kernel_rfl
 i171 := by kernel_rfl
 i173 := by kernel_rfl
 i212 := by kernel_rfl
 i232 := by kernel_rfl
 i233 := by kernel_rfl
 m17 := by kernel_rfl
 m18 := by kernel_rfl
 m19 := by kernel_rfl }
open Go.RowKit Go.Sort Go.Lib in
theorem Tryd.internal_strconv_Itoa (n : Int) (h0 : -9223372036854775808 ≤ n) (h1 : n ≤ 9223372036854775807) (w : World) (htab : Lib.TabIs Tryd.prog w "internal/strconv.uint64pow10" .u64 Lib.pow10Tab) :
  Calls Tryd.prog 91 #[.int .i64 n] w fun e w' => e = .returned (.string ⟨(Lib.itoa n).toArray⟩) ∧ ∃ k os, w' = grow (w.drewN k) os := Any.internal_strconv_Itoa Tryd.laysM243 n h0 h1 w htab
def Tryd.lays243_ren : Go.Shelf.Ren := ⟨fun | 243 => 91 | 246 => 97 | 283 => 101 | 284 => 102 | 285 => 103 | 286 => 104 | 129 => 108 | 317 => 107 | 318 => 109 | 319 => 110 | 320 => 111 | 337 => 112 | 338 => 113 | n => n, fun | 3 => 3 | 9 => 9 | 2 => 2 | 4 => 4 | 171 => 123 | 0 => 0 | 53 => 116 | 37 => 30 | 5 => 5 | 173 => 126 | 212 => 135 | 51 => 136 | 20 => 20 | 213 => 137 | 46 => 105 | 232 => 141 | 233 => 142 | n => n, fun | 17 => 2 | 18 => 3 | 19 => 4 | n => n⟩
theorem Tryd.lays243 : Go.Proofs.Lays.n243 Tryd.prog Tryd.lays243_ren := {
 mixed := by kernel_rfl
 f129 := Tryd.func108.trans (congrArg some (by kernel_rfl))
 f243 := Tryd.func91.trans (congrArg some (by kernel_rfl))
 f246 := Tryd.func97.trans (congrArg some (by kernel_rfl))
 f283 := Tryd.func101.trans (congrArg some (by kernel_rfl))
 f284 := Tryd.func102.trans (congrArg some (by kernel_rfl))
 f285 := Tryd.func103.trans (congrArg some (by kernel_rfl))
 f286 := Tryd.func104.trans (congrArg some (by kernel_rfl))
 f317 := Tryd.func107.trans (congrArg some (by kernel_rfl))
 f318 := Tryd.func109.trans (congrArg some (by kernel_rfl))
 f319 := Tryd.func110.trans (congrArg some (by kernel_rfl))
 f320 := Tryd.func111.trans (congrArg some (by kernel_rfl))
 f337 := Tryd.func112.trans (congrArg some (by kernel_rfl))
 f338 := Tryd.func113.trans (congrArg some (by kernel_rfl))
 t0 := Tryd.underlying0
 a0 := Tryd.isAgg0
 z0 := Tryd.sizeOf0
 v0 := Tryd.zeroValue0
 t2 := Tryd.underlying2
 a2 := Tryd.isAgg2
 z2 := Tryd.sizeOf2
 v2 := Tryd.zeroValue2
 t3 := Tryd.underlying3
 a3 := Tryd.isAgg3
 z3 := Tryd.sizeOf3
 v3 := Tryd.zeroValue3
 t4 := Tryd.underlying4
 a4 := Tryd.isAgg4
 z4 := Tryd.sizeOf4
 v4 := Tryd.zeroValue4
 t5 := Tryd.underlying5
 a5 := Tryd.isAgg5
 z5 := Tryd.sizeOf5
 v5 := Tryd.zeroValue5
 t9 := Tryd.underlying9
 a9 := Tryd.isAgg9
 z9 := Tryd.sizeOf9
 v9 := Tryd.zeroValue9
 t20 := Tryd.underlying20
 a20 := Tryd.isAgg20
 z20 := Tryd.sizeOf20
 v20 := Tryd.zeroValue20
 t37 := Tryd.underlying30
 a37 := Tryd.isAgg30
 z37 := Tryd.sizeOf30
 v37 := Tryd.zeroValue30
 t46 := Tryd.underlying105
 a46 := Tryd.isAgg105
 z46 := Tryd.sizeOf105
 v46 := Tryd.zeroValue105
 t51 := Tryd.underlying136
 a51 := Tryd.isAgg136
 z51 := Tryd.sizeOf136
 v51 := Tryd.zeroValue136
 t53 := Tryd.underlying116
 a53 := Tryd.isAgg116
 z53 := Tryd.sizeOf116
 v53 := Tryd.zeroValue116
 t171 := Tryd.underlying123
 a171 := Tryd.isAgg123
 z171 := Tryd.sizeOf123
 v171 := Tryd.zeroValue123
 t173 := Tryd.underlying126
 a173 := Tryd.isAgg126
 z173 := Tryd.sizeOf126
 v173 := Tryd.zeroValue126
 t212 := Tryd.underlying135
 a212 := Tryd.isAgg135
 z212 := Tryd.sizeOf135
 v212 := Tryd.zeroValue135
 t213 := Tryd.underlying137
 a213 := Tryd.isAgg137
 z213 := Tryd.sizeOf137
 t232 := Tryd.underlying141
 a232 := Tryd.isAgg141
 z232 := Tryd.sizeOf141
 v232 := Tryd.zeroValue141
 t233 := Tryd.underlying142
 a233 := Tryd.isAgg142
 z233 := Tryd.sizeOf142
 v233 := Tryd.zeroValue142
 g17 := by kernel_rfl
 g18 := by kernel_rfl
 g19 := by kernel_rfl }
open Go.RowKit Go.Sort Go.Lib in
theorem Tryd.internal_strconv_Itoa_small (i : Nat) (hi : i < 100) (w : World) :
  Calls Tryd.prog 91 #[.int .i64 i] w fun e w' => e = .returned (.string ⟨(Lib.decDigits i).toArray⟩) ∧ w' = w := Any.internal_strconv_Itoa_small Tryd.lays243 i hi w
def Tryd.laysM171_ren : Go.Shelf.Ren := ⟨fun | 171 => 84 | 243 => 91 | 246 => 97 | 283 => 101 | 284 => 102 | 285 => 103 | 286 => 104 | 129 => 108 | 317 => 107 | 318 => 109 | 319 => 110 | 320 => 111 | 337 => 112 | 338 => 113 | n => n, fun | 3 => 3 | 9 => 9 | 2 => 2 | 4 => 4 | 171 => 123 | 0 => 0 | 53 => 116 | 37 => 30 | 5 => 5 | 173 => 126 | 212 => 135 | 51 => 136 | 20 => 20 | 213 => 137 | 46 => 105 | 232 => 141 | 233 => 142 | n => n, fun | 17 => 2 | 18 => 3 | 19 => 4 | n => n⟩
theorem Tryd.laysM171 : Go.Proofs.LaysM.n171 Tryd.prog Tryd.laysM171_ren := {
 mixed := by kernel_rfl
 f129 := Tryd.func108.trans (congrArg some (by kernel_rfl))
 f171 := Tryd.func84.trans (congrArg some (by kernel_rfl))
 f243 := Tryd.func91.trans (congrArg some (by kernel_rfl))
 f246 := Tryd.func97.trans (congrArg some (by kernel_rfl))
 f283 := Tryd.func101.trans (congrArg some (by kernel_rfl))
 f284 := Tryd.func102.trans (congrArg some (by kernel_rfl))
 f285 := Tryd.func103.trans (congrArg some (by kernel_rfl))
 f286 := Tryd.func104.trans (congrArg some (by kernel_rfl))
 f317 := Tryd.func107.trans (congrArg some (by kernel_rfl))
 f318 := Tryd.func109.trans (congrArg some (by kernel_rfl))
 f319 := Tryd.func110.trans (congrArg some (by kernel_rfl))
 f320 := Tryd.func111.trans (congrArg some (by kernel_rfl))
 f337 := Tryd.func112.trans (congrArg some (by kernel_rfl))
 f338 := Tryd.func113.trans (congrArg some (by kernel_rfl))
 t0 := Tryd.underlying0
 a0 := Tryd.isAgg0
 z0 := Tryd.sizeOf0
 v0 := Tryd.zeroValue0
 t2 := Tryd.underlying2
 a2 := Tryd.isAgg2
 z2 := Tryd.sizeOf2
 v2 := Tryd.zeroValue2
 t3 := Tryd.underlying3
 a3 := Tryd.isAgg3
 z3 := Tryd.sizeOf3
 v3 := Tryd.zeroValue3
 t4 := Tryd.underlying4
 a4 := Tryd.isAgg4
 z4 := Tryd.sizeOf4
 v4 := Tryd.zeroValue4
 t5 := Tryd.underlying5
 a5 := Tryd.isAgg5
 z5 := Tryd.sizeOf5
 v5 := Tryd.zeroValue5
 t9 := Tryd.underlying9
 a9 := Tryd.isAgg9
 z9 := Tryd.sizeOf9
 v9 := Tryd.zeroValue9
 t20 := Tryd.underlying20
 a20 := Tryd.isAgg20
 z20 := Tryd.sizeOf20
 v20 := Tryd.zeroValue20
 t37 := Tryd.underlying30
 a37 := Tryd.isAgg30
 z37 := Tryd.sizeOf30
 v37 := Tryd.zeroValue30
 t46 := Tryd.underlying105
 a46 := Tryd.isAgg105
 z46 := Tryd.sizeOf105
 v46 := Tryd.zeroValue105
 t51 := Tryd.underlying136
 a51 := Tryd.isAgg136
 z51 := Tryd.sizeOf136
 v51 := Tryd.zeroValue136
 t53 := Tryd.underlying116
 a53 := Tryd.isAgg116
 z53 := Tryd.sizeOf116
 v53 := Tryd.zeroValue116
 t171 := Tryd.underlying123
 a171 := Tryd.isAgg123
 z171 := Tryd.sizeOf123
 v171 := Tryd.zeroValue123
 t173 := Tryd.underlying126
 a173 := Tryd.isAgg126
 z173 := Tryd.sizeOf126
 v173 := Tryd.zeroValue126
 t212 := Tryd.underlying135
 a212 := Tryd.isAgg135
 z212 := Tryd.sizeOf135
 v212 := Tryd.zeroValue135
 t213 := Tryd.underlying137
 a213 := Tryd.isAgg137
 z213 := Tryd.sizeOf137
 t232 := Tryd.underlying141
 a232 := Tryd.isAgg141
 z232 := Tryd.sizeOf141
 v232 := Tryd.zeroValue141
 t233 := Tryd.underlying142
 a233 := Tryd.isAgg142
 z233 := Tryd.sizeOf142
 v233 := Tryd.zeroValue142
 g17 := by kernel_rfl
 g18 := by kernel_rfl
 g19 := by kernel_rfl
 i0 := by kernel_rfl
 i2 := by kernel_rfl
 i3 := by kernel_rfl
 i4 := by kernel_rfl
 i5 := by kernel_rfl
 i9 := by kernel_rfl
 i20 := by kernel_rfl
 i37 := by kernel_rfl
 i46 := by kernel_rfl
 i51 := by kernel_rfl
 i53 := by kernel_rfl
 i171 := by kernel_rfl
 i173 := by kernel_rfl
 i212 := by kernel_rfl
 i232 := by kernel_rfl
 i233 := by kernel_rfl
 m17 := by kernel_rfl
 m18 := by kernel_rfl
 m19 := by kernel_rfl }
open Go.RowKit Go.Sort Go.Lib in
theorem Tryd.strconv_Itoa (n : Int) (h0 : -9223372036854775808 ≤ n) (h1 : n ≤ 9223372036854775807) (w : World) (htab : Lib.TabIs Tryd.prog w "internal/strconv.uint64pow10" .u64 Lib.pow10Tab) :
  Calls Tryd.prog 84 #[.int .i64 n] w fun e w' => e = .returned (.string ⟨(Lib.itoa n).toArray⟩) ∧ ∃ k os, w' = grow (w.drewN k) os := Any.strconv_Itoa Tryd.laysM171 n h0 h1 w htab
def Tryd.lays171_ren : Go.Shelf.Ren := ⟨fun | 171 => 84 | 243 => 91 | 246 => 97 | 283 => 101 | 284 => 102 | 285 => 103 | 286 => 104 | 129 => 108 | 317 => 107 | 318 => 109 | 319 => 110 | 320 => 111 | 337 => 112 | 338 => 113 | n => n, fun | 3 => 3 | 9 => 9 | 2 => 2 | 4 => 4 | 171 => 123 | 0 => 0 | 53 => 116 | 37 => 30 | 5 => 5 | 173 => 126 | 212 => 135 | 51 => 136 | 20 => 20 | 213 => 137 | 46 => 105 | 232 => 141 | 233 => 142 | n => n, fun | 17 => 2 | 18 => 3 | 19 => 4 | n => n⟩
theorem Tryd.lays171 : Go.Proofs.Lays.n171 Tryd.prog Tryd.lays171_ren := {
 mixed := by kernel_rfl
 f129 := Tryd.func108.trans (congrArg some (by kernel_rfl))
 f171 := Tryd.func84.trans (congrArg some (by kernel_rfl))
 f243 := Tryd.func91.trans (congrArg some (by kernel_rfl))
 f246 := Tryd.func97.trans (congrArg some (by kernel_rfl))
 f283 := Tryd.func101.trans (congrArg some (by kernel_rfl))
 f284 := Tryd.func102.trans (congrArg some (by kernel_rfl))
 f285 := Tryd.func103.trans (congrArg some (by kernel_rfl))
 f286 := Tryd.func104.trans (congrArg some (by kernel_rfl))
 f317 := Tryd.func107.trans (congrArg some (by kernel_rfl))
 f318 := Tryd.func109.trans (congrArg some (by kernel_rfl))
 f319 := Tryd.func110.trans (congrArg some (by kernel_rfl))
 f320 := Tryd.func111.trans (congrArg some (by kernel_rfl))
 f337 := Tryd.func112.trans (congrArg some (by kernel_rfl))
 f338 := Tryd.func113.trans (congrArg some (by kernel_rfl))
 t0 := Tryd.underlying0
 a0 := Tryd.isAgg0
 z0 := Tryd.sizeOf0
 v0 := Tryd.zeroValue0
 t2 := Tryd.underlying2
 a2 := Tryd.isAgg2
 z2 := Tryd.sizeOf2
 v2 := Tryd.zeroValue2
 t3 := Tryd.underlying3
 a3 := Tryd.isAgg3
 z3 := Tryd.sizeOf3
 v3 := Tryd.zeroValue3
 t4 := Tryd.underlying4
 a4 := Tryd.isAgg4
 z4 := Tryd.sizeOf4
 v4 := Tryd.zeroValue4
 t5 := Tryd.underlying5
 a5 := Tryd.isAgg5
 z5 := Tryd.sizeOf5
 v5 := Tryd.zeroValue5
 t9 := Tryd.underlying9
 a9 := Tryd.isAgg9
 z9 := Tryd.sizeOf9
 v9 := Tryd.zeroValue9
 t20 := Tryd.underlying20
 a20 := Tryd.isAgg20
 z20 := Tryd.sizeOf20
 v20 := Tryd.zeroValue20
 t37 := Tryd.underlying30
 a37 := Tryd.isAgg30
 z37 := Tryd.sizeOf30
 v37 := Tryd.zeroValue30
 t46 := Tryd.underlying105
 a46 := Tryd.isAgg105
 z46 := Tryd.sizeOf105
 v46 := Tryd.zeroValue105
 t51 := Tryd.underlying136
 a51 := Tryd.isAgg136
 z51 := Tryd.sizeOf136
 v51 := Tryd.zeroValue136
 t53 := Tryd.underlying116
 a53 := Tryd.isAgg116
 z53 := Tryd.sizeOf116
 v53 := Tryd.zeroValue116
 t171 := Tryd.underlying123
 a171 := Tryd.isAgg123
 z171 := Tryd.sizeOf123
 v171 := Tryd.zeroValue123
 t173 := Tryd.underlying126
 a173 := Tryd.isAgg126
 z173 := Tryd.sizeOf126
 v173 := Tryd.zeroValue126
 t212 := Tryd.underlying135
 a212 := Tryd.isAgg135
 z212 := Tryd.sizeOf135
 v212 := Tryd.zeroValue135
 t213 := Tryd.underlying137
 a213 := Tryd.isAgg137
 z213 := Tryd.sizeOf137
 t232 := Tryd.underlying141
 a232 := Tryd.isAgg141
 z232 := Tryd.sizeOf141
 v232 := Tryd.zeroValue141
 t233 := Tryd.underlying142
 a233 := Tryd.isAgg142
 z233 := Tryd.sizeOf142
 v233 := Tryd.zeroValue142
 g17 := by kernel_rfl
 g18 := by kernel_rfl
 g19 := by kernel_rfl }
open Go.RowKit Go.Sort Go.Lib in
theorem Tryd.strconv_Itoa_small (i : Nat) (hi : i < 100) (w : World) :
  Calls Tryd.prog 84 #[.int .i64 i] w fun e w' => e = .returned (.string ⟨(Lib.decDigits i).toArray⟩) ∧ w' = w := Any.strconv_Itoa_small Tryd.lays171 i hi w
open Go.RowKit in
theorem Tryd.internal_strconv_Atoi_err (s : ByteArray) (hl0 : 1 ≤ s.size) (hl : s.size ≤ 18) (h : Lib.atoi s.data.toList = none) (w : World) :
  Calls Tryd.prog 89 #[.string s] w fun e w' => e = .returned (.tuple #[.int .i64 0, (.iface 109 (.int .i64 2))]) ∧ (w' = w ∨ ∃ t, w' = Lib.bytesWorld w 5 t) := Any.internal_strconv_Atoi_err Tryd.lays244 s hl0 hl h w
def Tryd.lays247_ren : Go.Shelf.Ren := ⟨fun | 247 => 92 | 287 => 98 | 321 => 105 | 322 => 106 | n => n, fun | 9 => 9 | 3 => 3 | 2 => 2 | 75 => 101 | 4 => 4 | 167 => 109 | 5 => 5 | 53 => 116 | 175 => 117 | 46 => 105 | 37 => 30 | 0 => 0 | 21 => 21 | 80 => 143 | n => n, fun | n => n⟩
theorem Tryd.lays247 : Go.Proofs.Lays.n247 Tryd.prog Tryd.lays247_ren := {
 mixed := by kernel_rfl
 f247 := Tryd.func92.trans (congrArg some (by kernel_rfl))
 f287 := Tryd.func98.trans (congrArg some (by kernel_rfl))
 f321 := Tryd.func105.trans (congrArg some (by kernel_rfl))
 f322 := Tryd.func106.trans (congrArg some (by kernel_rfl))
 t0 := Tryd.underlying0
 a0 := Tryd.isAgg0
 z0 := Tryd.sizeOf0
 v0 := Tryd.zeroValue0
 t2 := Tryd.underlying2
 a2 := Tryd.isAgg2
 z2 := Tryd.sizeOf2
 v2 := Tryd.zeroValue2
 t3 := Tryd.underlying3
 a3 := Tryd.isAgg3
 z3 := Tryd.sizeOf3
 v3 := Tryd.zeroValue3
 t4 := Tryd.underlying4
 a4 := Tryd.isAgg4
 z4 := Tryd.sizeOf4
 v4 := Tryd.zeroValue4
 t5 := Tryd.underlying5
 a5 := Tryd.isAgg5
 z5 := Tryd.sizeOf5
 v5 := Tryd.zeroValue5
 t9 := Tryd.underlying9
 a9 := Tryd.isAgg9
 z9 := Tryd.sizeOf9
 v9 := Tryd.zeroValue9
 t21 := Tryd.underlying21
 a21 := Tryd.isAgg21
 z21 := Tryd.sizeOf21
 v21 := Tryd.zeroValue21
 t37 := Tryd.underlying30
 a37 := Tryd.isAgg30
 z37 := Tryd.sizeOf30
 v37 := Tryd.zeroValue30
 t46 := Tryd.underlying105
 a46 := Tryd.isAgg105
 z46 := Tryd.sizeOf105
 v46 := Tryd.zeroValue105
 t53 := Tryd.underlying116
 a53 := Tryd.isAgg116
 z53 := Tryd.sizeOf116
 v53 := Tryd.zeroValue116
 t75 := Tryd.underlying101
 a75 := Tryd.isAgg101
 z75 := Tryd.sizeOf101
 v75 := Tryd.zeroValue101
 t167 := Tryd.underlying109
 a167 := Tryd.isAgg109
 z167 := Tryd.sizeOf109
 v167 := Tryd.zeroValue109
 t175 := Tryd.underlying117
 a175 := Tryd.isAgg117
 z175 := Tryd.sizeOf117
 v175 := Tryd.zeroValue117 }
open Go.RowKit in
theorem Tryd.internal_strconv_ParseInt_empty (base bits : Int) (w : World) :
  Calls Tryd.prog 92 #[.string ⟨#[]⟩, .int .i64 base, .int .i64 bits] w fun e w' => e = .returned (.tuple #[.int .i64 0, (.iface 109 (.int .i64 2))]) ∧ w' = w := Any.internal_strconv_ParseInt_empty Tryd.lays247 base bits w
open Go.RowKit in
theorem Tryd.internal_strconv_Atoi_empty (w : World) :
  Calls Tryd.prog 89 #[.string ⟨#[]⟩] w fun e w' => e = .returned (.tuple #[.int .i64 0, (.iface 109 (.int .i64 2))]) ∧ w' = w := Any.internal_strconv_Atoi_empty Tryd.lays244 w
open Go.RowKit in
theorem Tryd.internal_strconv_Atoi_fail (s : ByteArray) (hl : s.size ≤ 18) (h : Lib.atoi s.data.toList = none) (w : World) :
  Calls Tryd.prog 89 #[.string s] w fun e w' => e = .returned (.tuple #[.int .i64 0, (.iface 109 (.int .i64 2))]) ∧ (w' = w ∨ ∃ t, w' = Lib.bytesWorld w 5 t) := Any.internal_strconv_Atoi_fail Tryd.lays244 s hl h w
def Tryd.laysM316_ren : Go.Shelf.Ren := ⟨fun | 316 => 99 | n => n, fun | 9 => 9 | 3 => 3 | 4 => 4 | 37 => 30 | 0 => 0 | 127 => 129 | 5 => 5 | n => n, fun | n => n⟩
theorem Tryd.laysM316 : Go.Proofs.LaysM.n316 Tryd.prog Tryd.laysM316_ren := {
 mixed := by kernel_rfl
 f316 := Tryd.func99.trans (congrArg some (by kernel_rfl))
 t0 := Tryd.underlying0
 a0 := Tryd.isAgg0
 z0 := Tryd.sizeOf0
 v0 := Tryd.zeroValue0
 t3 := Tryd.underlying3
 a3 := Tryd.isAgg3
 z3 := Tryd.sizeOf3
 v3 := Tryd.zeroValue3
 t4 := Tryd.underlying4
 a4 := Tryd.isAgg4
 z4 := Tryd.sizeOf4
 v4 := Tryd.zeroValue4
 t9 := Tryd.underlying9
 a9 := Tryd.isAgg9
 z9 := Tryd.sizeOf9
 v9 := Tryd.zeroValue9
 t37 := Tryd.underlying30
 a37 := Tryd.isAgg30
 z37 := Tryd.sizeOf30
 v37 := Tryd.zeroValue30
 t127 := Tryd.underlying129
 a127 := Tryd.isAgg129
 z127 := Tryd.sizeOf129
 v127 := Tryd.zeroValue129
 t5 := Tryd.underlying5
 a5 := Tryd.isAgg5
 z5 := Tryd.sizeOf5
 v5 := Tryd.zeroValue5
 i0 := by kernel_rfl
 i3 := by kernel_rfl
 i4 := by kernel_rfl
 i5 := by kernel_rfl
 i9 := by kernel_rfl
 i37 := by kernel_rfl
 i127 := by kernel_rfl }
open Go.RowKit in
theorem Tryd.stringslite_Clone (s : ByteArray) (w : World) (hlim : s.size ≤ 281474976710656) :
  Calls Tryd.prog 99 #[.string s] w fun e w' => e = .returned (.string s) ∧ Below w.heap.size w w' := Any.stringslite_Clone Tryd.laysM316 s w hlim
def Tryd.laysM279_ren : Go.Shelf.Ren := ⟨fun | 279 => 93 | 316 => 99 | n => n, fun | 9 => 9 | 168 => 112 | 75 => 101 | 210 => 121 | 3 => 3 | 4 => 4 | 37 => 30 | 0 => 0 | 127 => 129 | 80 => 143 | 5 => 5 | n => n, fun | 15 => 0 | n => n⟩
theorem Tryd.laysM279 : Go.Proofs.LaysM.n279 Tryd.prog Tryd.laysM279_ren := {
 mixed := by kernel_rfl
 f279 := Tryd.func93.trans (congrArg some (by kernel_rfl))
 f316 := Tryd.func99.trans (congrArg some (by kernel_rfl))
 t0 := Tryd.underlying0
 a0 := Tryd.isAgg0
 z0 := Tryd.sizeOf0
 v0 := Tryd.zeroValue0
 t3 := Tryd.underlying3
 a3 := Tryd.isAgg3
 z3 := Tryd.sizeOf3
 v3 := Tryd.zeroValue3
 t4 := Tryd.underlying4
 a4 := Tryd.isAgg4
 z4 := Tryd.sizeOf4
 v4 := Tryd.zeroValue4
 t9 := Tryd.underlying9
 a9 := Tryd.isAgg9
 z9 := Tryd.sizeOf9
 v9 := Tryd.zeroValue9
 t37 := Tryd.underlying30
 a37 := Tryd.isAgg30
 z37 := Tryd.sizeOf30
 v37 := Tryd.zeroValue30
 t75 := Tryd.underlying101
 a75 := Tryd.isAgg101
 z75 := Tryd.sizeOf101
 v75 := Tryd.zeroValue101
 t127 := Tryd.underlying129
 a127 := Tryd.isAgg129
 z127 := Tryd.sizeOf129
 v127 := Tryd.zeroValue129
 t168 := Tryd.underlying112
 a168 := Tryd.isAgg112
 z168 := Tryd.sizeOf112
 v168 := Tryd.zeroValue112
 t210 := Tryd.underlying121
 a210 := Tryd.isAgg121
 z210 := Tryd.sizeOf121
 v210 := Tryd.zeroValue121
 g15 := by kernel_rfl
 t5 := Tryd.underlying5
 a5 := Tryd.isAgg5
 z5 := Tryd.sizeOf5
 v5 := Tryd.zeroValue5
 t80 := Tryd.underlying143
 a80 := Tryd.isAgg143
 z80 := Tryd.sizeOf143
 v80 := Tryd.zeroValue143
 i0 := by kernel_rfl
 i3 := by kernel_rfl
 i4 := by kernel_rfl
 i5 := by kernel_rfl
 i9 := by kernel_rfl
 i37 := by kernel_rfl
 i75 := by kernel_rfl
 i80 := by kernel_rfl
 i127 := by kernel_rfl
 i168 := by kernel_rfl
 i210 := by kernel_rfl
 m15 := by kernel_rfl }
open Go.RowKit in
theorem Tryd.strconv_syntaxError (fn s : ByteArray) (ev : Value) (w : World) (hlim : s.size ≤ 281474976710656) (hv : w.cell? ⟨0, 0, none⟩ = some ev) (hev : ev = .nilIface ∨ ∃ te pe, ev = .iface te pe) :
  Calls Tryd.prog 93 #[.string fn, .string s] w fun e w' => ∃ N, e = .returned (.pointer (some ⟨N, 0, none⟩)) ∧ w.heap.size ≤ N ∧ w'.heap[N]? = some (.cells #[.string fn, .string s, ev] 121 (0, 0)) ∧ Below w.heap.size w w' := Any.strconv_syntaxError Tryd.laysM279 fn s ev w hlim hv hev
def Tryd.laysC245_ren : Go.Shelf.Ren := ⟨fun | 245 => 90 | 279 => 93 | 280 => 94 | 281 => 95 | 282 => 96 | 316 => 99 | 171 => 84 | 205 => 100 | 243 => 91 | 246 => 97 | 283 => 101 | 284 => 102 | 285 => 103 | 286 => 104 | 129 => 108 | 317 => 107 | 318 => 109 | 319 => 110 | 320 => 111 | 337 => 112 | 338 => 113 | n => n, fun | 9 => 9 | 3 => 3 | 75 => 101 | 167 => 109 | 4 => 4 | 168 => 112 | 210 => 121 | 37 => 30 | 0 => 0 | 127 => 129 | 145 => 132 | 143 => 130 | 2 => 2 | 171 => 123 | 53 => 116 | 5 => 5 | 173 => 126 | 212 => 135 | 51 => 136 | 20 => 20 | 213 => 137 | 46 => 105 | 232 => 141 | 233 => 142 | 80 => 143 | n => n, fun | 15 => 0 | 16 => 1 | 17 => 2 | 18 => 3 | 19 => 4 | n => n⟩
theorem Tryd.laysC245 : Go.Proofs.LaysC.n245 Tryd.prog Tryd.laysC245_ren := {
 mixed := by kernel_rfl
 f129 := Tryd.func108.trans (congrArg some (by kernel_rfl))
 f171 := Tryd.func84.trans (congrArg some (by kernel_rfl))
 f205 := Tryd.func100.trans (congrArg some (by kernel_rfl))
 f243 := Tryd.func91.trans (congrArg some (by kernel_rfl))
 f245 := Tryd.func90.trans (congrArg some (by kernel_rfl))
 f246 := Tryd.func97.trans (congrArg some (by kernel_rfl))
 f279 := Tryd.func93.trans (congrArg some (by kernel_rfl))
 f280 := Tryd.func94.trans (congrArg some (by kernel_rfl))
 f281 := Tryd.func95.trans (congrArg some (by kernel_rfl))
 f282 := Tryd.func96.trans (congrArg some (by kernel_rfl))
 f283 := Tryd.func101.trans (congrArg some (by kernel_rfl))
 f284 := Tryd.func102.trans (congrArg some (by kernel_rfl))
 f285 := Tryd.func103.trans (congrArg some (by kernel_rfl))
 f286 := Tryd.func104.trans (congrArg some (by kernel_rfl))
 f316 := Tryd.func99.trans (congrArg some (by kernel_rfl))
 f317 := Tryd.func107.trans (congrArg some (by kernel_rfl))
 f318 := Tryd.func109.trans (congrArg some (by kernel_rfl))
 f319 := Tryd.func110.trans (congrArg some (by kernel_rfl))
 f320 := Tryd.func111.trans (congrArg some (by kernel_rfl))
 f337 := Tryd.func112.trans (congrArg some (by kernel_rfl))
 f338 := Tryd.func113.trans (congrArg some (by kernel_rfl))
 t0 := Tryd.underlying0
 a0 := Tryd.isAgg0
 z0 := Tryd.sizeOf0
 v0 := Tryd.zeroValue0
 t2 := Tryd.underlying2
 a2 := Tryd.isAgg2
 z2 := Tryd.sizeOf2
 v2 := Tryd.zeroValue2
 t3 := Tryd.underlying3
 a3 := Tryd.isAgg3
 z3 := Tryd.sizeOf3
 v3 := Tryd.zeroValue3
 t4 := Tryd.underlying4
 a4 := Tryd.isAgg4
 z4 := Tryd.sizeOf4
 v4 := Tryd.zeroValue4
 t5 := Tryd.underlying5
 a5 := Tryd.isAgg5
 z5 := Tryd.sizeOf5
 v5 := Tryd.zeroValue5
 t9 := Tryd.underlying9
 a9 := Tryd.isAgg9
 z9 := Tryd.sizeOf9
 v9 := Tryd.zeroValue9
 t20 := Tryd.underlying20
 a20 := Tryd.isAgg20
 z20 := Tryd.sizeOf20
 v20 := Tryd.zeroValue20
 t37 := Tryd.underlying30
 a37 := Tryd.isAgg30
 z37 := Tryd.sizeOf30
 v37 := Tryd.zeroValue30
 t46 := Tryd.underlying105
 a46 := Tryd.isAgg105
 z46 := Tryd.sizeOf105
 v46 := Tryd.zeroValue105
 t51 := Tryd.underlying136
 a51 := Tryd.isAgg136
 z51 := Tryd.sizeOf136
 v51 := Tryd.zeroValue136
 t53 := Tryd.underlying116
 a53 := Tryd.isAgg116
 z53 := Tryd.sizeOf116
 v53 := Tryd.zeroValue116
 t75 := Tryd.underlying101
 a75 := Tryd.isAgg101
 z75 := Tryd.sizeOf101
 v75 := Tryd.zeroValue101
 t127 := Tryd.underlying129
 a127 := Tryd.isAgg129
 z127 := Tryd.sizeOf129
 v127 := Tryd.zeroValue129
 t143 := Tryd.underlying130
 a143 := Tryd.isAgg130
 z143 := Tryd.sizeOf130
 v143 := Tryd.zeroValue130
 t145 := Tryd.underlying132
 a145 := Tryd.isAgg132
 z145 := Tryd.sizeOf132
 v145 := Tryd.zeroValue132
 t167 := Tryd.underlying109
 a167 := Tryd.isAgg109
 z167 := Tryd.sizeOf109
 v167 := Tryd.zeroValue109
 t168 := Tryd.underlying112
 a168 := Tryd.isAgg112
 z168 := Tryd.sizeOf112
 v168 := Tryd.zeroValue112
 t171 := Tryd.underlying123
 a171 := Tryd.isAgg123
 z171 := Tryd.sizeOf123
 v171 := Tryd.zeroValue123
 t173 := Tryd.underlying126
 a173 := Tryd.isAgg126
 z173 := Tryd.sizeOf126
 v173 := Tryd.zeroValue126
 t210 := Tryd.underlying121
 a210 := Tryd.isAgg121
 z210 := Tryd.sizeOf121
 v210 := Tryd.zeroValue121
 t212 := Tryd.underlying135
 a212 := Tryd.isAgg135
 z212 := Tryd.sizeOf135
 v212 := Tryd.zeroValue135
 t213 := Tryd.underlying137
 a213 := Tryd.isAgg137
 z213 := Tryd.sizeOf137
 t232 := Tryd.underlying141
 a232 := Tryd.isAgg141
 z232 := Tryd.sizeOf141
 v232 := Tryd.zeroValue141
 t233 := Tryd.underlying142
 a233 := Tryd.isAgg142
 z233 := Tryd.sizeOf142
 v233 := Tryd.zeroValue142
 g15 := by kernel_rfl
 g16 := by kernel_rfl
 g17 := by kernel_rfl
 g18 := by kernel_rfl
 g19 := by kernel_rfl
 t80 := Tryd.underlying143
 a80 := Tryd.isAgg143
 z80 := Tryd.sizeOf143
 v80 := Tryd.zeroValue143
 i0 := by kernel_rfl
 i2 := by kernel_rfl
 i3 := by kernel_rfl
 i4 := by kernel_rfl
 i5 := by kernel_rfl
 i9 := by kernel_rfl
 i20 := by kernel_rfl
 i37 := by kernel_rfl
 i46 := by kernel_rfl
 i51 := by kernel_rfl
 i53 := by kernel_rfl
 i75 := by kernel_rfl
 i80 := by kernel_rfl
 i127 := by kernel_rfl
 i143 := by kernel_rfl
 i145 := by kernel_rfl
 i167 := by kernel_rfl
 i168 := by kernel_rfl
 i171 := by kernel_rfl
 i173 := by kernel_rfl
 i210 := by kernel_rfl
 i212 := by kernel_rfl
 i232 := by kernel_rfl
 i233 := by kernel_rfl
 m15 := by kernel_rfl
 m16 := by kernel_rfl
 m17 := by kernel_rfl
 m18 := by kernel_rfl
 m19 := by kernel_rfl
 c0 := by kernel_rfl
 c2 := by kernel_rfl
 c3 := by kernel_rfl
 c4 := by kernel_rfl
 c5 := by kernel_rfl
 c9 := by kernel_rfl
 c20 := by kernel_rfl
 c37 := by kernel_rfl
 c46 := by kernel_rfl
 c51 := by kernel_rfl
 c53 := by kernel_rfl
 c75 := by kernel_rfl
 c80 := by kernel_rfl
 c127 := by kernel_rfl
 c143 := by kernel_rfl
 c145 := by kernel_rfl
 c167 := by kernel_rfl
 c168 := by kernel_rfl
 c171 := by kernel_rfl
 c173 := by kernel_rfl
 c210 := by kernel_rfl
 c212 := by kernel_rfl
 c213 := by kernel_rfl
 c232 := by kernel_rfl
 c233 := by kernel_rfl }
open Go.RowKit in
theorem Tryd.strconv_toError_syntax (fn s : ByteArray) (base bits : Int) (ev : Value) (w : World) (hlim : s.size ≤ 281474976710656) (hv : w.cell? ⟨0, 0, none⟩ = some ev) (hev : ev = .nilIface ∨ ∃ te pe, ev = .iface te pe) :
  Calls Tryd.prog 90 #[.string fn, .string s, .int .i64 base, .int .i64 bits, .iface 109 (.int .i64 2)] w fun e w' => ∃ N, e = .returned (.iface 112 (.pointer (some ⟨N, 0, none⟩))) ∧ w.heap.size ≤ N ∧ w'.heap[N]? = some (.cells #[.string fn, .string s, ev] 121 (0, 0)) ∧ Below w.heap.size w w' := Any.strconv_toError_syntax Tryd.laysC245 fn s base bits ev w hlim hv hev
def Tryd.laysC172_ren : Go.Shelf.Ren := ⟨fun | 172 => 83 | 244 => 89 | 245 => 90 | 247 => 92 | 279 => 93 | 280 => 94 | 281 => 95 | 282 => 96 | 287 => 98 | 316 => 99 | 171 => 84 | 205 => 100 | 321 => 105 | 322 => 106 | 243 => 91 | 246 => 97 | 283 => 101 | 284 => 102 | 285 => 103 | 286 => 104 | 129 => 108 | 317 => 107 | 318 => 109 | 319 => 110 | 320 => 111 | 337 => 112 | 338 => 113 | n => n, fun | 9 => 9 | 3 => 3 | 75 => 101 | 76 => 102 | 4 => 4 | 5 => 5 | 167 => 109 | 37 => 30 | 0 => 0 | 85 => 110 | 2 => 2 | 168 => 112 | 53 => 116 | 175 => 117 | 46 => 105 | 210 => 121 | 127 => 129 | 145 => 132 | 143 => 130 | 21 => 21 | 171 => 123 | 173 => 126 | 212 => 135 | 51 => 136 | 20 => 20 | 213 => 137 | 232 => 141 | 233 => 142 | 80 => 143 | n => n, fun | 15 => 0 | 16 => 1 | 17 => 2 | 18 => 3 | 19 => 4 | n => n⟩
theorem Tryd.laysC172 : Go.Proofs.LaysC.n172 Tryd.prog Tryd.laysC172_ren := {
 mixed := by kernel_rfl
 f129 := Tryd.func108.trans (congrArg some (by kernel_rfl))
 f171 := Tryd.func84.trans (congrArg some (by kernel_rfl))
 f172 := Tryd.func83.trans (congrArg some (by kernel_rfl))
 f205 := Tryd.func100.trans (congrArg some (by kernel_rfl))
 f243 := Tryd.func91.trans (congrArg some (by kernel_rfl))
 f244 := Tryd.func89.trans (congrArg some (by kernel_rfl))
 f245 := Tryd.func90.trans (congrArg some (by kernel_rfl))
 f246 := Tryd.func97.trans (congrArg some (by kernel_rfl))
 f247 := Tryd.func92.trans (congrArg some (by kernel_rfl))
 f279 := Tryd.func93.trans (congrArg some (by kernel_rfl))
 f280 := Tryd.func94.trans (congrArg some (by kernel_rfl))
 f281 := Tryd.func95.trans (congrArg some (by kernel_rfl))
 f282 := Tryd.func96.trans (congrArg some (by kernel_rfl))
 f283 := Tryd.func101.trans (congrArg some (by kernel_rfl))
 f284 := Tryd.func102.trans (congrArg some (by kernel_rfl))
 f285 := Tryd.func103.trans (congrArg some (by kernel_rfl))
 f286 := Tryd.func104.trans (congrArg some (by kernel_rfl))
 f287 := Tryd.func98.trans (congrArg some (by kernel_rfl))
 f316 := Tryd.func99.trans (congrArg some (by kernel_rfl))
 f317 := Tryd.func107.trans (congrArg some (by kernel_rfl))
 f318 := Tryd.func109.trans (congrArg some (by kernel_rfl))
 f319 := Tryd.func110.trans (congrArg some (by kernel_rfl))
 f320 := Tryd.func111.trans (congrArg some (by kernel_rfl))
 f321 := Tryd.func105.trans (congrArg some (by kernel_rfl))
 f322 := Tryd.func106.trans (congrArg some (by kernel_rfl))
 f337 := Tryd.func112.trans (congrArg some (by kernel_rfl))
 f338 := Tryd.func113.trans (congrArg some (by kernel_rfl))
 t0 := Tryd.underlying0
 a0 := Tryd.isAgg0
 z0 := Tryd.sizeOf0
 v0 := Tryd.zeroValue0
 t2 := Tryd.underlying2
 a2 := Tryd.isAgg2
 z2 := Tryd.sizeOf2
 v2 := Tryd.zeroValue2
 t3 := Tryd.underlying3
 a3 := Tryd.isAgg3
 z3 := Tryd.sizeOf3
 v3 := Tryd.zeroValue3
 t4 := Tryd.underlying4
 a4 := Tryd.isAgg4
 z4 := Tryd.sizeOf4
 v4 := Tryd.zeroValue4
 t5 := Tryd.underlying5
 a5 := Tryd.isAgg5
 z5 := Tryd.sizeOf5
 v5 := Tryd.zeroValue5
 t9 := Tryd.underlying9
 a9 := Tryd.isAgg9
 z9 := Tryd.sizeOf9
 v9 := Tryd.zeroValue9
 t20 := Tryd.underlying20
 a20 := Tryd.isAgg20
 z20 := Tryd.sizeOf20
 v20 := Tryd.zeroValue20
 t21 := Tryd.underlying21
 a21 := Tryd.isAgg21
 z21 := Tryd.sizeOf21
 v21 := Tryd.zeroValue21
 t37 := Tryd.underlying30
 a37 := Tryd.isAgg30
 z37 := Tryd.sizeOf30
 v37 := Tryd.zeroValue30
 t46 := Tryd.underlying105
 a46 := Tryd.isAgg105
 z46 := Tryd.sizeOf105
 v46 := Tryd.zeroValue105
 t51 := Tryd.underlying136
 a51 := Tryd.isAgg136
 z51 := Tryd.sizeOf136
 v51 := Tryd.zeroValue136
 t53 := Tryd.underlying116
 a53 := Tryd.isAgg116
 z53 := Tryd.sizeOf116
 v53 := Tryd.zeroValue116
 t75 := Tryd.underlying101
 a75 := Tryd.isAgg101
 z75 := Tryd.sizeOf101
 v75 := Tryd.zeroValue101
 t76 := Tryd.underlying102
 a76 := Tryd.isAgg102
 z76 := Tryd.sizeOf102
 v76 := Tryd.zeroValue102
 t85 := Tryd.underlying110
 a85 := Tryd.isAgg110
 z85 := Tryd.sizeOf110
 v85 := Tryd.zeroValue110
 t127 := Tryd.underlying129
 a127 := Tryd.isAgg129
 z127 := Tryd.sizeOf129
 v127 := Tryd.zeroValue129
 t143 := Tryd.underlying130
 a143 := Tryd.isAgg130
 z143 := Tryd.sizeOf130
 v143 := Tryd.zeroValue130
 t145 := Tryd.underlying132
 a145 := Tryd.isAgg132
 z145 := Tryd.sizeOf132
 v145 := Tryd.zeroValue132
 t167 := Tryd.underlying109
 a167 := Tryd.isAgg109
 z167 := Tryd.sizeOf109
 v167 := Tryd.zeroValue109
 t168 := Tryd.underlying112
 a168 := Tryd.isAgg112
 z168 := Tryd.sizeOf112
 v168 := Tryd.zeroValue112
 t171 := Tryd.underlying123
 a171 := Tryd.isAgg123
 z171 := Tryd.sizeOf123
 v171 := Tryd.zeroValue123
 t173 := Tryd.underlying126
 a173 := Tryd.isAgg126
 z173 := Tryd.sizeOf126
 v173 := Tryd.zeroValue126
 t175 := Tryd.underlying117
 a175 := Tryd.isAgg117
 z175 := Tryd.sizeOf117
 v175 := Tryd.zeroValue117
 t210 := Tryd.underlying121
 a210 := Tryd.isAgg121
 z210 := Tryd.sizeOf121
 v210 := Tryd.zeroValue121
 t212 := Tryd.underlying135
 a212 := Tryd.isAgg135
 z212 := Tryd.sizeOf135
 v212 := Tryd.zeroValue135
 t213 := Tryd.underlying137
 a213 := Tryd.isAgg137
 z213 := Tryd.sizeOf137
 t232 := Tryd.underlying141
 a232 := Tryd.isAgg141
 z232 := Tryd.sizeOf141
 v232 := Tryd.zeroValue141
 t233 := Tryd.underlying142
 a233 := Tryd.isAgg142
 z233 := Tryd.sizeOf142
 v233 := Tryd.zeroValue142
 g15 := by kernel_rfl
 g16 := by kernel_rfl
 g17 := by kernel_rfl
 g18 := by kernel_rfl
 g19 := by kernel_rfl
 t80 := Tryd.underlying143
 a80 := Tryd.isAgg143
 z80 := Tryd.sizeOf143
 v80 := Tryd.zeroValue143
 i0 := by kernel_rfl
 i2 := by kernel_rfl
 i3 := by kernel_rfl
 i4 := by kernel_rfl
 i5 := by kernel_rfl
 i9 := by kernel_rfl
 i20 := by kernel_rfl
 i21 := by kernel_rfl
 i37 := by kernel_rfl
 i46 := by kernel_rfl
 i51 := by kernel_rfl
 i53 := by kernel_rfl
 i75 := by kernel_rfl
 i76 := by kernel_rfl
 i80 := by kernel_rfl
 i85 := by kernel_rfl
 i127 := by kernel_rfl
 i143 := by kernel_rfl
 i145 := by kernel_rfl
 i167 := by kernel_rfl
 i168 := by kernel_rfl
 i171 := by kernel_rfl
 i173 := by kernel_rfl
 i175 := by kernel_rfl
 i210 := by kernel_rfl
 i212 := by kernel_rfl
 i232 := by kernel_rfl
 i233 := by kernel_rfl
 m15 := by kernel_rfl
 m16 := by kernel_rfl
 m17 := by kernel_rfl
 m18 := by kernel_rfl
 m19 := by kernel_rfl
 c0 := by kernel_rfl
 c2 := by kernel_rfl
 c3 := by kernel_rfl
 c4 := by kernel_rfl
 c5 := by kernel_rfl
 c9 := by kernel_rfl
 c20 := by kernel_rfl
 c21 := by kernel_rfl
 c37 := by kernel_rfl
 c46 := by kernel_rfl
 c51 := by kernel_rfl
 c53 := by kernel_rfl
 c75 := by kernel_rfl
 c76 := by kernel_rfl
 c80 := by kernel_rfl
 c85 := by kernel_rfl
 c127 := by kernel_rfl
 c143 := by kernel_rfl
 c145 := by kernel_rfl
 c167 := by kernel_rfl
 c168 := by kernel_rfl
 c171 := by kernel_rfl
 c173 := by kernel_rfl
 c175 := by kernel_rfl
 c210 := by kernel_rfl
 c212 := by kernel_rfl
 c213 := by kernel_rfl
 c232 := by kernel_rfl
 c233 := by kernel_rfl }
open Go.RowKit in
theorem Tryd.strconv_Atoi_err (s : ByteArray) (hl : s.size ≤ 18) (h : Lib.atoi s.data.toList = none) (ev : Value) (w : World) (hv : w.cell? ⟨0, 0, none⟩ = some ev) (hev : ev = .nilIface ∨ ∃ te pe, ev = .iface te pe) :
  Calls Tryd.prog 83 #[.string s] w fun e w' => ∃ N, e = .returned (.tuple #[.int .i64 0, .iface 112 (.pointer (some ⟨N, 0, none⟩))]) ∧ w.heap.size ≤ N ∧ w'.heap[N]? = some (.cells #[.string ⟨#[65, 116, 111, 105]⟩, .string s, ev] 121 (0, 0)) ∧ Below w.heap.size w w' := Any.strconv_Atoi_err Tryd.laysC172 s hl h ev w hv hev
open Go.RowKit in
theorem Tryd.strconv_Atoi_err_var (s : ByteArray) (hl : s.size ≤ 18) (h : Lib.atoi s.data.toList = none) (tp : TypeId) (p : Value) (w : World) (hvar : w.var? Tryd.prog "strconv.ErrSyntax" = some #[.iface tp p]) :
  Calls Tryd.prog 83 #[.string s] w fun e w' => ∃ N, e = .returned (.tuple #[.int .i64 0, .iface 112 (.pointer (some ⟨N, 0, none⟩))]) ∧ w.heap.size ≤ N ∧ w'.heap[N]? = some (.cells #[.string ⟨#[65, 116, 111, 105]⟩, .string s, .iface tp p] 121 (0, 0)) ∧ Below w.heap.size w w' := Any.strconv_Atoi_err_var Tryd.laysC172 s hl h tp p w hvar
def Tryd.lays321_ren : Go.Shelf.Ren := ⟨fun | 321 => 105 | n => n, fun | 5 => 5 | n => n, fun | n => n⟩
theorem Tryd.lays321 : Go.Proofs.Lays.n321 Tryd.prog Tryd.lays321_ren := {
 mixed := by kernel_rfl
 f321 := Tryd.func105.trans (congrArg some (by kernel_rfl))
 t5 := Tryd.underlying5
 a5 := Tryd.isAgg5
 z5 := Tryd.sizeOf5
 v5 := Tryd.zeroValue5 }
open Go.RowKit in
theorem Tryd.internal_strconv_lower (c : Int) (w : World) :
  Calls Tryd.prog 105 #[.int .u8 c] w fun e w' => e = .returned (.int .u8 (bits .or .u8 c 32)) ∧ w' = w := Any.internal_strconv_lower Tryd.lays321 c w
def Tryd.lays287_ren : Go.Shelf.Ren := ⟨fun | 287 => 98 | 321 => 105 | 322 => 106 | n => n, fun | 9 => 9 | 3 => 3 | 53 => 116 | 75 => 101 | 4 => 4 | 167 => 109 | 5 => 5 | 46 => 105 | 37 => 30 | 0 => 0 | 21 => 21 | 80 => 143 | n => n, fun | n => n⟩
theorem Tryd.lays287 : Go.Proofs.Lays.n287 Tryd.prog Tryd.lays287_ren := {
 mixed := by kernel_rfl
 f287 := Tryd.func98.trans (congrArg some (by kernel_rfl))
 f321 := Tryd.func105.trans (congrArg some (by kernel_rfl))
 f322 := Tryd.func106.trans (congrArg some (by kernel_rfl))
 t0 := Tryd.underlying0
 a0 := Tryd.isAgg0
 z0 := Tryd.sizeOf0
 v0 := Tryd.zeroValue0
 t3 := Tryd.underlying3
 a3 := Tryd.isAgg3
 z3 := Tryd.sizeOf3
 v3 := Tryd.zeroValue3
 t4 := Tryd.underlying4
 a4 := Tryd.isAgg4
 z4 := Tryd.sizeOf4
 v4 := Tryd.zeroValue4
 t5 := Tryd.underlying5
 a5 := Tryd.isAgg5
 z5 := Tryd.sizeOf5
 v5 := Tryd.zeroValue5
 t9 := Tryd.underlying9
 a9 := Tryd.isAgg9
 z9 := Tryd.sizeOf9
 v9 := Tryd.zeroValue9
 t21 := Tryd.underlying21
 a21 := Tryd.isAgg21
 z21 := Tryd.sizeOf21
 v21 := Tryd.zeroValue21
 t37 := Tryd.underlying30
 a37 := Tryd.isAgg30
 z37 := Tryd.sizeOf30
 v37 := Tryd.zeroValue30
 t46 := Tryd.underlying105
 a46 := Tryd.isAgg105
 z46 := Tryd.sizeOf105
 v46 := Tryd.zeroValue105
 t53 := Tryd.underlying116
 a53 := Tryd.isAgg116
 z53 := Tryd.sizeOf116
 v53 := Tryd.zeroValue116
 t75 := Tryd.underlying101
 a75 := Tryd.isAgg101
 z75 := Tryd.sizeOf101
 v75 := Tryd.zeroValue101
 t167 := Tryd.underlying109
 a167 := Tryd.isAgg109
 z167 := Tryd.sizeOf109
 v167 := Tryd.zeroValue109 }
open Go.RowKit in
theorem Tryd.internal_strconv_ParseUint_10 (t : ByteArray) (hne : t.size ≠ 0) (hmax : t.size ≤ 9223372036854775806) (w : World) :
  Calls Tryd.prog 98 #[.string t, .int .i64 10, .int .i64 0] w fun e w' => e = .returned (Lib.uintTuple 109 (Lib.parseUint10 0 t.data.toList)) ∧ w' = Lib.bytesWorld w 5 t := Any.internal_strconv_ParseUint_10 Tryd.lays287 t hne hmax w
open Go.RowKit in
theorem Tryd.internal_strconv_ParseUint_10_empty (w : World) :
  Calls Tryd.prog 98 #[.string ⟨#[]⟩, .int .i64 10, .int .i64 0] w fun e w' => e = .returned (Lib.uintTuple 109 .syntax) ∧ w' = w := Any.internal_strconv_ParseUint_10_empty Tryd.lays287 w
open Go.RowKit in
theorem Tryd.internal_strconv_ParseUint_10_any (t : ByteArray) (hmax : t.size ≤ 9223372036854775806) (w : World) :
  Calls Tryd.prog 98 #[.string t, .int .i64 10, .int .i64 0] w fun e w' => e = .returned (Lib.uintTuple 109 (Lib.parseMag t.data.toList)) ∧ (w' = w ∨ w' = Lib.bytesWorld w 5 t) := Any.internal_strconv_ParseUint_10_any Tryd.lays287 t hmax w
def Tryd.laysC247_ren : Go.Shelf.Ren := ⟨fun | 247 => 92 | 287 => 98 | 321 => 105 | 322 => 106 | n => n, fun | 9 => 9 | 3 => 3 | 2 => 2 | 75 => 101 | 4 => 4 | 167 => 109 | 5 => 5 | 53 => 116 | 175 => 117 | 46 => 105 | 37 => 30 | 0 => 0 | 21 => 21 | 80 => 143 | n => n, fun | n => n⟩
theorem Tryd.laysC247 : Go.Proofs.LaysC.n247 Tryd.prog Tryd.laysC247_ren := {
 mixed := by kernel_rfl
 f247 := Tryd.func92.trans (congrArg some (by kernel_rfl))
 f287 := Tryd.func98.trans (congrArg some (by kernel_rfl))
 f321 := Tryd.func105.trans (congrArg some (by kernel_rfl))
 f322 := Tryd.func106.trans (congrArg some (by kernel_rfl))
 t0 := Tryd.underlying0
 a0 := Tryd.isAgg0
 z0 := Tryd.sizeOf0
 v0 := Tryd.zeroValue0
 t2 := Tryd.underlying2
 a2 := Tryd.isAgg2
 z2 := Tryd.sizeOf2
 v2 := Tryd.zeroValue2
 t3 := Tryd.underlying3
 a3 := Tryd.isAgg3
 z3 := Tryd.sizeOf3
 v3 := Tryd.zeroValue3
 t4 := Tryd.underlying4
 a4 := Tryd.isAgg4
 z4 := Tryd.sizeOf4
 v4 := Tryd.zeroValue4
 t5 := Tryd.underlying5
 a5 := Tryd.isAgg5
 z5 := Tryd.sizeOf5
 v5 := Tryd.zeroValue5
 t9 := Tryd.underlying9
 a9 := Tryd.isAgg9
 z9 := Tryd.sizeOf9
 v9 := Tryd.zeroValue9
 t21 := Tryd.underlying21
 a21 := Tryd.isAgg21
 z21 := Tryd.sizeOf21
 v21 := Tryd.zeroValue21
 t37 := Tryd.underlying30
 a37 := Tryd.isAgg30
 z37 := Tryd.sizeOf30
 v37 := Tryd.zeroValue30
 t46 := Tryd.underlying105
 a46 := Tryd.isAgg105
 z46 := Tryd.sizeOf105
 v46 := Tryd.zeroValue105
 t53 := Tryd.underlying116
 a53 := Tryd.isAgg116
 z53 := Tryd.sizeOf116
 v53 := Tryd.zeroValue116
 t75 := Tryd.underlying101
 a75 := Tryd.isAgg101
 z75 := Tryd.sizeOf101
 v75 := Tryd.zeroValue101
 t167 := Tryd.underlying109
 a167 := Tryd.isAgg109
 z167 := Tryd.sizeOf109
 v167 := Tryd.zeroValue109
 t175 := Tryd.underlying117
 a175 := Tryd.isAgg117
 z175 := Tryd.sizeOf117
 v175 := Tryd.zeroValue117
 t80 := Tryd.underlying143
 a80 := Tryd.isAgg143
 z80 := Tryd.sizeOf143
 v80 := Tryd.zeroValue143
 i0 := by kernel_rfl
 i2 := by kernel_rfl
 i3 := by kernel_rfl
 i4 := by kernel_rfl
 i5 := by kernel_rfl
 i9 := by kernel_rfl
 i21 := by kernel_rfl
 i37 := by kernel_rfl
 i46 := by kernel_rfl
 i53 := by kernel_rfl
 i75 := by kernel_rfl
 i80 := by kernel_rfl
 i167 := by kernel_rfl
 i175 := by kernel_rfl
 c0 := by kernel_rfl
 c2 := by kernel_rfl
 c3 := by kernel_rfl
 c4 := by kernel_rfl
 c5 := by kernel_rfl
 c9 := by kernel_rfl
 c21 := by kernel_rfl
 c37 := by kernel_rfl
 c46 := by kernel_rfl
 c53 := by kernel_rfl
 c75 := by kernel_rfl
 c80 := by kernel_rfl
 c167 := by kernel_rfl
 c175 := by kernel_rfl }
open Go.RowKit in
theorem Tryd.internal_strconv_ParseInt_10 (s : ByteArray) (hne : s.size ≠ 0) (hmax : s.size ≤ 9223372036854775806) (w : World) :
  Calls Tryd.prog 92 #[.string s, .int .i64 10, .int .i64 0] w fun e w' => e = .returned (Lib.intTuple 109 (Lib.atoiSat s.data.toList) (Lib.atoiAll s.data.toList)) ∧ (w' = w ∨ ∃ t, w' = Lib.bytesWorld w 5 t) := Any.internal_strconv_ParseInt_10 Tryd.laysC247 s hne hmax w
def Tryd.laysC244_ren : Go.Shelf.Ren := ⟨fun | 244 => 89 | 247 => 92 | 287 => 98 | 321 => 105 | 322 => 106 | n => n, fun | 9 => 9 | 3 => 3 | 75 => 101 | 4 => 4 | 5 => 5 | 167 => 109 | 37 => 30 | 0 => 0 | 85 => 110 | 2 => 2 | 53 => 116 | 175 => 117 | 46 => 105 | 21 => 21 | 80 => 143 | n => n, fun | n => n⟩
theorem Tryd.laysC244 : Go.Proofs.LaysC.n244 Tryd.prog Tryd.laysC244_ren := {
 mixed := by kernel_rfl
 f244 := Tryd.func89.trans (congrArg some (by kernel_rfl))
 f247 := Tryd.func92.trans (congrArg some (by kernel_rfl))
 f287 := Tryd.func98.trans (congrArg some (by kernel_rfl))
 f321 := Tryd.func105.trans (congrArg some (by kernel_rfl))
 f322 := Tryd.func106.trans (congrArg some (by kernel_rfl))
 t0 := Tryd.underlying0
 a0 := Tryd.isAgg0
 z0 := Tryd.sizeOf0
 v0 := Tryd.zeroValue0
 t2 := Tryd.underlying2
 a2 := Tryd.isAgg2
 z2 := Tryd.sizeOf2
 v2 := Tryd.zeroValue2
 t3 := Tryd.underlying3
 a3 := Tryd.isAgg3
 z3 := Tryd.sizeOf3
 v3 := Tryd.zeroValue3
 t4 := Tryd.underlying4
 a4 := Tryd.isAgg4
 z4 := Tryd.sizeOf4
 v4 := Tryd.zeroValue4
 t5 := Tryd.underlying5
 a5 := Tryd.isAgg5
 z5 := Tryd.sizeOf5
 v5 := Tryd.zeroValue5
 t9 := Tryd.underlying9
 a9 := Tryd.isAgg9
 z9 := Tryd.sizeOf9
 v9 := Tryd.zeroValue9
 t21 := Tryd.underlying21
 a21 := Tryd.isAgg21
 z21 := Tryd.sizeOf21
 v21 := Tryd.zeroValue21
 t37 := Tryd.underlying30
 a37 := Tryd.isAgg30
 z37 := Tryd.sizeOf30
 v37 := Tryd.zeroValue30
 t46 := Tryd.underlying105
 a46 := Tryd.isAgg105
 z46 := Tryd.sizeOf105
 v46 := Tryd.zeroValue105
 t53 := Tryd.underlying116
 a53 := Tryd.isAgg116
 z53 := Tryd.sizeOf116
 v53 := Tryd.zeroValue116
 t75 := Tryd.underlying101
 a75 := Tryd.isAgg101
 z75 := Tryd.sizeOf101
 v75 := Tryd.zeroValue101
 t85 := Tryd.underlying110
 a85 := Tryd.isAgg110
 z85 := Tryd.sizeOf110
 v85 := Tryd.zeroValue110
 t167 := Tryd.underlying109
 a167 := Tryd.isAgg109
 z167 := Tryd.sizeOf109
 v167 := Tryd.zeroValue109
 t175 := Tryd.underlying117
 a175 := Tryd.isAgg117
 z175 := Tryd.sizeOf117
 v175 := Tryd.zeroValue117
 t80 := Tryd.underlying143
 a80 := Tryd.isAgg143
 z80 := Tryd.sizeOf143
 v80 := Tryd.zeroValue143
 i0 := by kernel_rfl
 i2 := by kernel_rfl
 i3 := by kernel_rfl
 i4 := by kernel_rfl
 i5 := by kernel_rfl
 i9 := by kernel_rfl
 i21 := by kernel_rfl
 i37 := by kernel_rfl
 i46 := by kernel_rfl
 i53 := by kernel_rfl
 i75 := by kernel_rfl
 i80 := by kernel_rfl
 i85 := by kernel_rfl
 i167 := by kernel_rfl
 i175 := by kernel_rfl
 c0 := by kernel_rfl
 c2 := by kernel_rfl
 c3 := by kernel_rfl
 c4 := by kernel_rfl
 c5 := by kernel_rfl
 c9 := by kernel_rfl
 c21 := by kernel_rfl
 c37 := by kernel_rfl
 c46 := by kernel_rfl
 c53 := by kernel_rfl
 c75 := by kernel_rfl
 c80 := by kernel_rfl
 c85 := by kernel_rfl
 c167 := by kernel_rfl
 c175 := by kernel_rfl }
open Go.RowKit in
theorem Tryd.internal_strconv_Atoi_long (s : ByteArray) (h19 : 19 ≤ s.size) (hmax : s.size ≤ 9223372036854775806) (w : World) :
  Calls Tryd.prog 89 #[.string s] w fun e w' => e = .returned (Lib.intTuple 109 (Lib.atoiSat s.data.toList) (Lib.atoiAll s.data.toList)) ∧ (w' = w ∨ ∃ t, w' = Lib.bytesWorld w 5 t) := Any.internal_strconv_Atoi_long Tryd.laysC244 s h19 hmax w
open Go.RowKit in
theorem Tryd.internal_strconv_Atoi_all (s : ByteArray) (hmax : s.size ≤ 9223372036854775806) (w : World) :
  Calls Tryd.prog 89 #[.string s] w fun e w' => e = .returned (Lib.intTuple 109 (Lib.atoiSat s.data.toList) (Lib.atoiAll s.data.toList)) ∧ (w' = w ∨ ∃ t, w' = Lib.bytesWorld w 5 t) := Any.internal_strconv_Atoi_all Tryd.laysC244 s hmax w
def Tryd.laysM280_ren : Go.Shelf.Ren := ⟨fun | 280 => 94 | 316 => 99 | n => n, fun | 9 => 9 | 168 => 112 | 75 => 101 | 210 => 121 | 3 => 3 | 4 => 4 | 37 => 30 | 0 => 0 | 127 => 129 | 80 => 143 | 5 => 5 | n => n, fun | 16 => 1 | n => n⟩
theorem Tryd.laysM280 : Go.Proofs.LaysM.n280 Tryd.prog Tryd.laysM280_ren := {
 mixed := by kernel_rfl
 f280 := Tryd.func94.trans (congrArg some (by kernel_rfl))
 f316 := Tryd.func99.trans (congrArg some (by kernel_rfl))
 t0 := Tryd.underlying0
 a0 := Tryd.isAgg0
 z0 := Tryd.sizeOf0
 v0 := Tryd.zeroValue0
 t3 := Tryd.underlying3
 a3 := Tryd.isAgg3
 z3 := Tryd.sizeOf3
 v3 := Tryd.zeroValue3
 t4 := Tryd.underlying4
 a4 := Tryd.isAgg4
 z4 := Tryd.sizeOf4
 v4 := Tryd.zeroValue4
 t9 := Tryd.underlying9
 a9 := Tryd.isAgg9
 z9 := Tryd.sizeOf9
 v9 := Tryd.zeroValue9
 t37 := Tryd.underlying30
 a37 := Tryd.isAgg30
 z37 := Tryd.sizeOf30
 v37 := Tryd.zeroValue30
 t75 := Tryd.underlying101
 a75 := Tryd.isAgg101
 z75 := Tryd.sizeOf101
 v75 := Tryd.zeroValue101
 t127 := Tryd.underlying129
 a127 := Tryd.isAgg129
 z127 := Tryd.sizeOf129
 v127 := Tryd.zeroValue129
 t168 := Tryd.underlying112
 a168 := Tryd.isAgg112
 z168 := Tryd.sizeOf112
 v168 := Tryd.zeroValue112
 t210 := Tryd.underlying121
 a210 := Tryd.isAgg121
 z210 := Tryd.sizeOf121
 v210 := Tryd.zeroValue121
 g16 := by kernel_rfl
 t5 := Tryd.underlying5
 a5 := Tryd.isAgg5
 z5 := Tryd.sizeOf5
 v5 := Tryd.zeroValue5
 t80 := Tryd.underlying143
 a80 := Tryd.isAgg143
 z80 := Tryd.sizeOf143
 v80 := Tryd.zeroValue143
 i0 := by kernel_rfl
 i3 := by kernel_rfl
 i4 := by kernel_rfl
 i5 := by kernel_rfl
 i9 := by kernel_rfl
 i37 := by kernel_rfl
 i75 := by kernel_rfl
 i80 := by kernel_rfl
 i127 := by kernel_rfl
 i168 := by kernel_rfl
 i210 := by kernel_rfl
 m16 := by kernel_rfl }
open Go.RowKit in
theorem Tryd.strconv_rangeError (fn s : ByteArray) (ev : Value) (w : World) (hlim : s.size ≤ 281474976710656) (hv : w.cell? ⟨1, 0, none⟩ = some ev) (hev : ev = .nilIface ∨ ∃ te pe, ev = .iface te pe) :
  Calls Tryd.prog 94 #[.string fn, .string s] w fun e w' => ∃ N, e = .returned (.pointer (some ⟨N, 0, none⟩)) ∧ w.heap.size ≤ N ∧ w'.heap[N]? = some (.cells #[.string fn, .string s, ev] 121 (0, 0)) ∧ Below w.heap.size w w' := Any.strconv_rangeError Tryd.laysM280 fn s ev w hlim hv hev
open Go.RowKit in
theorem Tryd.strconv_toError_range (fn s : ByteArray) (base bits : Int) (ev : Value) (w : World) (hlim : s.size ≤ 281474976710656) (hv : w.cell? ⟨1, 0, none⟩ = some ev) (hev : ev = .nilIface ∨ ∃ te pe, ev = .iface te pe) :
  Calls Tryd.prog 90 #[.string fn, .string s, .int .i64 base, .int .i64 bits, .iface 109 (.int .i64 1)] w fun e w' => ∃ N, e = .returned (.iface 112 (.pointer (some ⟨N, 0, none⟩))) ∧ w.heap.size ≤ N ∧ w'.heap[N]? = some (.cells #[.string fn, .string s, ev] 121 (0, 0)) ∧ Below w.heap.size w w' := Any.strconv_toError_range Tryd.laysC245 fn s base bits ev w hlim hv hev
open Go.RowKit in
theorem Tryd.strconv_Atoi_ok (s : ByteArray) (hmax : s.size ≤ 9223372036854775806) (v : Int) (h : Lib.atoiAll s.data.toList = .ok v) (w : World) :
  Calls Tryd.prog 83 #[.string s] w fun e w' => e = .returned (.tuple #[.int .i64 v, .nilIface]) ∧ (w' = w ∨ ∃ t, w' = Lib.bytesWorld w 5 t) := Any.strconv_Atoi_ok Tryd.laysC172 s hmax v h w
open Go.RowKit in
theorem Tryd.strconv_Atoi_syntax (s : ByteArray) (hlim : s.size ≤ 281474976710656) (h : Lib.atoiAll s.data.toList = Lib.atoiAll []) (ev : Value) (w : World) (hv : w.cell? ⟨0, 0, none⟩ = some ev) (hev : ev = .nilIface ∨ ∃ te pe, ev = .iface te pe) :
  Calls Tryd.prog 83 #[.string s] w fun e w' => ∃ N, e = .returned (.tuple #[.int .i64 (0), .iface 112 (.pointer (some ⟨N, 0, none⟩))]) ∧ w.heap.size ≤ N ∧ w'.heap[N]? = some (.cells #[.string ⟨#[65, 116, 111, 105]⟩, .string s, ev] 121 (0, 0)) ∧ Below w.heap.size w w' := Any.strconv_Atoi_syntax Tryd.laysC172 s hlim h ev w hv hev
open Go.RowKit in
theorem Tryd.strconv_Atoi_range (s : ByteArray) (hlim : s.size ≤ 281474976710656) (h : Lib.atoiAll s.data.toList = .range) (ev : Value) (w : World) (hv : w.cell? ⟨1, 0, none⟩ = some ev) (hev : ev = .nilIface ∨ ∃ te pe, ev = .iface te pe) :
  Calls Tryd.prog 83 #[.string s] w fun e w' => ∃ N, e = .returned (.tuple #[.int .i64 (Lib.atoiSat s.data.toList), .iface 112 (.pointer (some ⟨N, 0, none⟩))]) ∧ w.heap.size ≤ N ∧ w'.heap[N]? = some (.cells #[.string ⟨#[65, 116, 111, 105]⟩, .string s, ev] 121 (0, 0)) ∧ Below w.heap.size w w' := Any.strconv_Atoi_range Tryd.laysC172 s hlim h ev w hv hev
open Go.RowKit in
theorem Tryd.strconv_Atoi_syntax_var (s : ByteArray) (hlim : s.size ≤ 281474976710656) (h : Lib.atoiAll s.data.toList = Lib.atoiAll []) (tp : TypeId) (p : Value) (w : World) (hvar : w.var? Tryd.prog "strconv.ErrSyntax" = some #[.iface tp p]) :
  Calls Tryd.prog 83 #[.string s] w fun e w' => ∃ N, e = .returned (.tuple #[.int .i64 0, .iface 112 (.pointer (some ⟨N, 0, none⟩))]) ∧ w.heap.size ≤ N ∧ w'.heap[N]? = some (.cells #[.string ⟨#[65, 116, 111, 105]⟩, .string s, .iface tp p] 121 (0, 0)) ∧ Below w.heap.size w w' := Any.strconv_Atoi_syntax_var Tryd.laysC172 s hlim h tp p w hvar
open Go.RowKit in
theorem Tryd.strconv_Atoi_range_var (s : ByteArray) (hlim : s.size ≤ 281474976710656) (h : Lib.atoiAll s.data.toList = .range) (tp : TypeId) (p : Value) (w : World) (hvar : w.var? Tryd.prog "strconv.ErrRange" = some #[.iface tp p]) :
  Calls Tryd.prog 83 #[.string s] w fun e w' => ∃ N, e = .returned (.tuple #[.int .i64 (Lib.atoiSat s.data.toList), .iface 112 (.pointer (some ⟨N, 0, none⟩))]) ∧ w.heap.size ≤ N ∧ w'.heap[N]? = some (.cells #[.string ⟨#[65, 116, 111, 105]⟩, .string s, .iface tp p] 121 (0, 0)) ∧ Below w.heap.size w w' := Any.strconv_Atoi_range_var Tryd.laysC172 s hlim h tp p w hvar
open Go.RowKit in
theorem Tryd.internal_strconv_ParseUint_empty (base bits : Int) (w : World) :
  Calls Tryd.prog 98 #[.string ⟨#[]⟩, .int .i64 base, .int .i64 bits] w fun e w' => e = .returned (.tuple #[.int .u64 0, .iface 109 (.int .i64 2)]) ∧ w' = w := Any.internal_strconv_ParseUint_empty Tryd.lays287 base bits w
open Go.RowKit in
theorem Tryd.internal_strconv_ParseUint_10_b64 (t : ByteArray) (hne : t.size ≠ 0) (hmax : t.size ≤ 9223372036854775806) (w : World) :
  Calls Tryd.prog 98 #[.string t, .int .i64 10, .int .i64 64] w fun e w' => e = .returned (Lib.uintTuple 109 (Lib.parseUint10 0 t.data.toList)) ∧ w' = Lib.bytesWorld w 5 t := Any.internal_strconv_ParseUint_10_b64 Tryd.lays287 t hne hmax w
open Go.RowKit in
theorem Tryd.internal_strconv_ParseUint_10_b32 (t : ByteArray) (hne : t.size ≠ 0) (hmax : t.size ≤ 9223372036854775806) (w : World) :
  Calls Tryd.prog 98 #[.string t, .int .i64 10, .int .i64 32] w fun e w' => e = .returned (Lib.uintTupleM 109 4294967295 (Lib.parseUintM 4294967295 0 t.data.toList)) ∧ w' = Lib.bytesWorld w 5 t := Any.internal_strconv_ParseUint_10_b32 Tryd.lays287 t hne hmax w
open Go.RowKit in
theorem Tryd.internal_strconv_ParseUint_10_b16 (t : ByteArray) (hne : t.size ≠ 0) (hmax : t.size ≤ 9223372036854775806) (w : World) :
  Calls Tryd.prog 98 #[.string t, .int .i64 10, .int .i64 16] w fun e w' => e = .returned (Lib.uintTupleM 109 65535 (Lib.parseUintM 65535 0 t.data.toList)) ∧ w' = Lib.bytesWorld w 5 t := Any.internal_strconv_ParseUint_10_b16 Tryd.lays287 t hne hmax w
open Go.RowKit in
theorem Tryd.internal_strconv_ParseUint_10_b8 (t : ByteArray) (hne : t.size ≠ 0) (hmax : t.size ≤ 9223372036854775806) (w : World) :
  Calls Tryd.prog 98 #[.string t, .int .i64 10, .int .i64 8] w fun e w' => e = .returned (Lib.uintTupleM 109 255 (Lib.parseUintM 255 0 t.data.toList)) ∧ w' = Lib.bytesWorld w 5 t := Any.internal_strconv_ParseUint_10_b8 Tryd.lays287 t hne hmax w
open Go.RowKit in
theorem Tryd.internal_strconv_ParseUint_10_at0 (t : ByteArray) (hmax : t.size ≤ 9223372036854775806) (w : World) :
  Calls Tryd.prog 98 #[.string t, .int .i64 10, .int .i64 0] w fun e w' => e = .returned (Lib.uintTupleM 109 18446744073709551615 (Lib.parseUintB 64 t.data.toList)) ∧ (w' = w ∨ w' = Lib.bytesWorld w 5 t) := Any.internal_strconv_ParseUint_10_at0 Tryd.lays287 t hmax w
open Go.RowKit in
theorem Tryd.internal_strconv_ParseUint_10_at64 (t : ByteArray) (hmax : t.size ≤ 9223372036854775806) (w : World) :
  Calls Tryd.prog 98 #[.string t, .int .i64 10, .int .i64 64] w fun e w' => e = .returned (Lib.uintTupleM 109 18446744073709551615 (Lib.parseUintB 64 t.data.toList)) ∧ (w' = w ∨ w' = Lib.bytesWorld w 5 t) := Any.internal_strconv_ParseUint_10_at64 Tryd.lays287 t hmax w
open Go.RowKit in
theorem Tryd.internal_strconv_ParseUint_10_at32 (t : ByteArray) (hmax : t.size ≤ 9223372036854775806) (w : World) :
  Calls Tryd.prog 98 #[.string t, .int .i64 10, .int .i64 32] w fun e w' => e = .returned (Lib.uintTupleM 109 4294967295 (Lib.parseUintB 32 t.data.toList)) ∧ (w' = w ∨ w' = Lib.bytesWorld w 5 t) := Any.internal_strconv_ParseUint_10_at32 Tryd.lays287 t hmax w
open Go.RowKit in
theorem Tryd.internal_strconv_ParseUint_10_at16 (t : ByteArray) (hmax : t.size ≤ 9223372036854775806) (w : World) :
  Calls Tryd.prog 98 #[.string t, .int .i64 10, .int .i64 16] w fun e w' => e = .returned (Lib.uintTupleM 109 65535 (Lib.parseUintB 16 t.data.toList)) ∧ (w' = w ∨ w' = Lib.bytesWorld w 5 t) := Any.internal_strconv_ParseUint_10_at16 Tryd.lays287 t hmax w
open Go.RowKit in
theorem Tryd.internal_strconv_ParseUint_10_at8 (t : ByteArray) (hmax : t.size ≤ 9223372036854775806) (w : World) :
  Calls Tryd.prog 98 #[.string t, .int .i64 10, .int .i64 8] w fun e w' => e = .returned (Lib.uintTupleM 109 255 (Lib.parseUintB 8 t.data.toList)) ∧ (w' = w ∨ w' = Lib.bytesWorld w 5 t) := Any.internal_strconv_ParseUint_10_at8 Tryd.lays287 t hmax w
def Tryd.lays206_ren : Go.Shelf.Ren := ⟨fun | 206 => 82 | n => n, fun | 9 => 9 | 4 => 4 | 3 => 3 | n => n, fun | n => n⟩
theorem Tryd.lays206 : Go.Proofs.Lays.n206 Tryd.prog Tryd.lays206_ren := {
 mixed := by kernel_rfl
 f206 := Tryd.func82.trans (congrArg some (by kernel_rfl))
 t3 := Tryd.underlying3
 a3 := Tryd.isAgg3
 z3 := Tryd.sizeOf3
 v3 := Tryd.zeroValue3
 t4 := Tryd.underlying4
 a4 := Tryd.isAgg4
 z4 := Tryd.sizeOf4
 v4 := Tryd.zeroValue4
 t9 := Tryd.underlying9
 a9 := Tryd.isAgg9
 z9 := Tryd.sizeOf9
 v9 := Tryd.zeroValue9 }
open Go.RowKit Go.Lib in
theorem Tryd.stringslite_HasPrefix (s p : ByteArray) (w : World) :
  Calls Tryd.prog 82 #[.string s, .string p] w fun e w' => e = .returned (.bool (Lib.hasPrefix s.data.toList p.data.toList)) ∧ w' = w := Any.stringslite_HasPrefix Tryd.lays206 s p w
def Tryd.lays99_ren : Go.Shelf.Ren := ⟨fun | 99 => 67 | 206 => 82 | n => n, fun | 9 => 9 | 4 => 4 | 3 => 3 | n => n, fun | n => n⟩
theorem Tryd.lays99 : Go.Proofs.Lays.n99 Tryd.prog Tryd.lays99_ren := {
 mixed := by kernel_rfl
 f99 := Tryd.func67.trans (congrArg some (by kernel_rfl))
 f206 := Tryd.func82.trans (congrArg some (by kernel_rfl))
 t3 := Tryd.underlying3
 a3 := Tryd.isAgg3
 z3 := Tryd.sizeOf3
 v3 := Tryd.zeroValue3
 t4 := Tryd.underlying4
 a4 := Tryd.isAgg4
 z4 := Tryd.sizeOf4
 v4 := Tryd.zeroValue4
 t9 := Tryd.underlying9
 a9 := Tryd.isAgg9
 z9 := Tryd.sizeOf9
 v9 := Tryd.zeroValue9 }
open Go.RowKit Go.Lib in
theorem Tryd.strings_HasPrefix (s p : ByteArray) (w : World) :
  Calls Tryd.prog 67 #[.string s, .string p] w fun e w' => e = .returned (.bool (Lib.hasPrefix s.data.toList p.data.toList)) ∧ w' = w := Any.strings_HasPrefix Tryd.lays99 s p w
end Go.Proofs
