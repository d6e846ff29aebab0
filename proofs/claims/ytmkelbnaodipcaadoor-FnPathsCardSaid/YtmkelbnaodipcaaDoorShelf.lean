/- Texts of the proof, joined. -/
import Derived.Shelf.Strconv.Atoi
import Derived.Shelf.Strconv.Itoa0
import Derived.Shelf.Strconv.Itoa1
import Derived.Shelf.LaysM
import Derived.Shelf.Strconv.Itoa2
import Derived.Shelf.Strconv.Itoa3
import Derived.Shelf.Strconv.AtoiErrFast
import Derived.Shelf.Strconv.ParseIntEmpty
import Derived.Shelf.Strconv.AtoiFail
import Derived.Shelf.Strconv.Clone
import Derived.Shelf.Strconv.SyntaxError
import Derived.Shelf.LaysC
import Derived.Shelf.Strconv.ToError
import Derived.Shelf.Strconv.AtoiErr
import Derived.Shelf.Strconv.ErrVar
import Derived.Shelf.Strconv.Lower
import Derived.Shelf.Strconv.ParseUint10
import Derived.Shelf.Strconv.ParseUint10Empty
import Derived.Shelf.Strconv.ParseUint10Any
import Derived.Shelf.Strconv.ParseInt10
import Derived.Shelf.Strconv.AtoiLong
import Derived.Shelf.Strconv.AtoiInnerAll
import Derived.Shelf.Strconv.RangeError
import Derived.Shelf.Strconv.ToErrorRange
import Derived.Shelf.Strconv.AtoiAll
import Derived.Shelf.Strconv.ErrVarAll
import Derived.Shelf.Strconv.ParseUintEmpty
import Derived.Shelf.Strconv.ParseUint10b64
import Derived.Shelf.Strconv.ParseUint10b32
import Derived.Shelf.Strconv.ParseUint10b16
import Derived.Shelf.Strconv.ParseUint10b8
import Derived.Shelf.Strconv.ParseUint10At
import Derived.Test.YtmkelbnaodipcaaDoorProg
/-
 DERIVED: THE SHELF's CONTRACTS AT THIS DUMP, IN PLAIN WORDS (tools/lay-plain.mjs out of 'TrydShelf.lean', which tools/lay-shelf.mjs wrote): THE SAME DECLARATIONS UNDER THE SAME NAMES: 'import', 'namespace', 'open', 'def', 'theorem' AND NOTHING ELSE: no command of the shelf's: FOR A HAND-IN. Each laying: the table of numbers ('.._ren') and one theorem, a field a fact of the dump's own or the kernel's comparison; each contract: ONE APPLICATION.
-/
namespace Go.Proofs
open Go.Shelf
def Tryd.tZ:Go.Shelf.Ren:=⟨fun | 171=>56 | 243=>60 | 246=>66 | 283=>70 | 284=>71 | 285=>72 | 286=>73 | 129=>77 | 317=>76 | 318=>78 | 319=>79 | 320=>80 | 337=>81 | 338=>82 | n=>n,fun | 3=>3 | 9=>9 | 2=>2 | 4=>4 | 171=>100 | 0=>0 | 53=>93 | 37=>22 | 5=>5 | 173=>103 | 212=>113 | 51=>114 | 20=>20 | 213=>115 | 46=>74 | 232=>119 | 233=>120 | n=>n,fun | 17=>2 | 18=>3 | 19=>4 | n=>n⟩
theorem Tryd.BZ:Go.Proofs.LaysM.n171 Tryd.prog Tryd.tZ:={
 mixed:=by kernel_rfl
 f129:=Tryd.func77.trans (congrArg some (by kernel_rfl))
 f171:=Tryd.func56.trans (congrArg some (by kernel_rfl))
 f243:=Tryd.func60.trans (congrArg some (by kernel_rfl))
 f246:=Tryd.func66.trans (congrArg some (by kernel_rfl))
 f283:=Tryd.func70.trans (congrArg some (by kernel_rfl))
 f284:=Tryd.func71.trans (congrArg some (by kernel_rfl))
 f285:=Tryd.func72.trans (congrArg some (by kernel_rfl))
 f286:=Tryd.func73.trans (congrArg some (by kernel_rfl))
 f317:=Tryd.func76.trans (congrArg some (by kernel_rfl))
 f318:=Tryd.func78.trans (congrArg some (by kernel_rfl))
 f319:=Tryd.func79.trans (congrArg some (by kernel_rfl))
 f320:=Tryd.func80.trans (congrArg some (by kernel_rfl))
 f337:=Tryd.func81.trans (congrArg some (by kernel_rfl))
 f338:=Tryd.func82.trans (congrArg some (by kernel_rfl))
 t0:=Tryd.underlying0
 a0:=Tryd.isAgg0
 z0:=Tryd.sizeOf0
 v0:=Tryd.zeroValue0
 t2:=Tryd.underlying2
 a2:=Tryd.isAgg2
 z2:=Tryd.sizeOf2
 v2:=Tryd.zeroValue2
 t3:=Tryd.underlying3
 a3:=Tryd.isAgg3
 z3:=Tryd.sizeOf3
 v3:=Tryd.zeroValue3
 t4:=Tryd.underlying4
 a4:=Tryd.isAgg4
 z4:=Tryd.sizeOf4
 v4:=Tryd.zeroValue4
 t5:=Tryd.underlying5
 a5:=Tryd.isAgg5
 z5:=Tryd.sizeOf5
 v5:=Tryd.zeroValue5
 t9:=Tryd.underlying9
 a9:=Tryd.isAgg9
 z9:=Tryd.sizeOf9
 v9:=Tryd.zeroValue9
 t20:=Tryd.underlying20
 a20:=Tryd.isAgg20
 z20:=Tryd.sizeOf20
 v20:=Tryd.zeroValue20
 t37:=Tryd.underlying22
 a37:=Tryd.isAgg22
 z37:=Tryd.sizeOf22
 v37:=Tryd.zeroValue22
 t46:=Tryd.underlying74
 a46:=Tryd.isAgg74
 z46:=Tryd.sizeOf74
 v46:=Tryd.zeroValue74
 t51:=Tryd.underlying114
 a51:=Tryd.isAgg114
 z51:=Tryd.sizeOf114
 v51:=Tryd.zeroValue114
 t53:=Tryd.underlying93
 a53:=Tryd.isAgg93
 z53:=Tryd.sizeOf93
 v53:=Tryd.zeroValue93
 t171:=Tryd.underlying100
 a171:=Tryd.isAgg100
 z171:=Tryd.sizeOf100
 v171:=Tryd.zeroValue100
 t173:=Tryd.underlying103
 a173:=Tryd.isAgg103
 z173:=Tryd.sizeOf103
 v173:=Tryd.zeroValue103
 t212:=Tryd.underlying113
 a212:=Tryd.isAgg113
 z212:=Tryd.sizeOf113
 v212:=Tryd.zeroValue113
 t213:=Tryd.underlying115
 a213:=Tryd.isAgg115
 z213:=Tryd.sizeOf115
 t232:=Tryd.underlying119
 a232:=Tryd.isAgg119
 z232:=Tryd.sizeOf119
 v232:=Tryd.zeroValue119
 t233:=Tryd.underlying120
 a233:=Tryd.isAgg120
 z233:=Tryd.sizeOf120
 v233:=Tryd.zeroValue120
 g17:=by kernel_rfl
 g18:=by kernel_rfl
 g19:=by kernel_rfl
 i0:=by kernel_rfl
 i2:=by kernel_rfl
 i3:=by kernel_rfl
 i4:=by kernel_rfl
 i5:=by kernel_rfl
 i9:=by kernel_rfl
 i20:=by kernel_rfl
 i37:=by kernel_rfl
 i46:=by kernel_rfl
 i51:=by kernel_rfl
 i53:=by kernel_rfl
 i171:=by kernel_rfl
 i173:=by kernel_rfl
 i212:=by kernel_rfl
 i232:=by kernel_rfl
 i233:=by kernel_rfl
 m17:=by kernel_rfl
 m18:=by kernel_rfl
 m19:=by kernel_rfl}
open Go.RowKit Go.Sort Go.Lib in
theorem Tryd.strconv_Itoa (n:Int) (h0: -9223372036854775808<=n) (h1:n<=9223372036854775807) (w:World) (Ot:Lib.TabIs Tryd.prog w "internal/strconv.uint64pow10" .u64 Lib.pow10Tab):
  Calls Tryd.prog 56 #[.int .i64 n] w λe w'=>e=.returned (.string ⟨(Lib.itoa n).toArray⟩)/\∃k os,w'=grow (w.drewN k) os:=Any.strconv_Itoa Tryd.BZ n h0 h1 w Ot
def Tryd.ua:Go.Shelf.Ren:=⟨fun | 172=>55 | 244=>58 | 245=>59 | 247=>61 | 279=>62 | 280=>63 | 281=>64 | 282=>65 | 287=>67 | 316=>68 | 171=>56 | 205=>69 | 321=>74 | 322=>75 | 243=>60 | 246=>66 | 283=>70 | 284=>71 | 285=>72 | 286=>73 | 129=>77 | 317=>76 | 318=>78 | 319=>79 | 320=>80 | 337=>81 | 338=>82 | n=>n,fun | 9=>9 | 3=>3 | 75=>81 | 76=>82 | 4=>4 | 5=>5 | 167=>86 | 37=>22 | 0=>0 | 85=>87 | 2=>2 | 168=>89 | 53=>93 | 175=>94 | 46=>74 | 210=>98 | 127=>107 | 145=>110 | 143=>108 | 21=>21 | 171=>100 | 173=>103 | 212=>113 | 51=>114 | 20=>20 | 213=>115 | 232=>119 | 233=>120 | 80=>121 | n=>n,fun | 15=>0 | 16=>1 | 17=>2 | 18=>3 | 19=>4 | n=>n⟩
theorem Tryd.qF:Go.Proofs.LaysC.n172 Tryd.prog Tryd.ua:={
 mixed:=by kernel_rfl
 f129:=Tryd.func77.trans (congrArg some (by kernel_rfl))
 f171:=Tryd.func56.trans (congrArg some (by kernel_rfl))
 f172:=Tryd.func55.trans (congrArg some (by kernel_rfl))
 f205:=Tryd.func69.trans (congrArg some (by kernel_rfl))
 f243:=Tryd.func60.trans (congrArg some (by kernel_rfl))
 f244:=Tryd.func58.trans (congrArg some (by kernel_rfl))
 f245:=Tryd.func59.trans (congrArg some (by kernel_rfl))
 f246:=Tryd.func66.trans (congrArg some (by kernel_rfl))
 f247:=Tryd.func61.trans (congrArg some (by kernel_rfl))
 f279:=Tryd.func62.trans (congrArg some (by kernel_rfl))
 f280:=Tryd.func63.trans (congrArg some (by kernel_rfl))
 f281:=Tryd.func64.trans (congrArg some (by kernel_rfl))
 f282:=Tryd.func65.trans (congrArg some (by kernel_rfl))
 f283:=Tryd.func70.trans (congrArg some (by kernel_rfl))
 f284:=Tryd.func71.trans (congrArg some (by kernel_rfl))
 f285:=Tryd.func72.trans (congrArg some (by kernel_rfl))
 f286:=Tryd.func73.trans (congrArg some (by kernel_rfl))
 f287:=Tryd.func67.trans (congrArg some (by kernel_rfl))
 f316:=Tryd.func68.trans (congrArg some (by kernel_rfl))
 f317:=Tryd.func76.trans (congrArg some (by kernel_rfl))
 f318:=Tryd.func78.trans (congrArg some (by kernel_rfl))
 f319:=Tryd.func79.trans (congrArg some (by kernel_rfl))
 f320:=Tryd.func80.trans (congrArg some (by kernel_rfl))
 f321:=Tryd.func74.trans (congrArg some (by kernel_rfl))
 f322:=Tryd.func75.trans (congrArg some (by kernel_rfl))
 f337:=Tryd.func81.trans (congrArg some (by kernel_rfl))
 f338:=Tryd.func82.trans (congrArg some (by kernel_rfl))
 t0:=Tryd.underlying0
 a0:=Tryd.isAgg0
 z0:=Tryd.sizeOf0
 v0:=Tryd.zeroValue0
 t2:=Tryd.underlying2
 a2:=Tryd.isAgg2
 z2:=Tryd.sizeOf2
 v2:=Tryd.zeroValue2
 t3:=Tryd.underlying3
 a3:=Tryd.isAgg3
 z3:=Tryd.sizeOf3
 v3:=Tryd.zeroValue3
 t4:=Tryd.underlying4
 a4:=Tryd.isAgg4
 z4:=Tryd.sizeOf4
 v4:=Tryd.zeroValue4
 t5:=Tryd.underlying5
 a5:=Tryd.isAgg5
 z5:=Tryd.sizeOf5
 v5:=Tryd.zeroValue5
 t9:=Tryd.underlying9
 a9:=Tryd.isAgg9
 z9:=Tryd.sizeOf9
 v9:=Tryd.zeroValue9
 t20:=Tryd.underlying20
 a20:=Tryd.isAgg20
 z20:=Tryd.sizeOf20
 v20:=Tryd.zeroValue20
 t21:=Tryd.underlying21
 a21:=Tryd.isAgg21
 z21:=Tryd.sizeOf21
 v21:=Tryd.zeroValue21
 t37:=Tryd.underlying22
 a37:=Tryd.isAgg22
 z37:=Tryd.sizeOf22
 v37:=Tryd.zeroValue22
 t46:=Tryd.underlying74
 a46:=Tryd.isAgg74
 z46:=Tryd.sizeOf74
 v46:=Tryd.zeroValue74
 t51:=Tryd.underlying114
 a51:=Tryd.isAgg114
 z51:=Tryd.sizeOf114
 v51:=Tryd.zeroValue114
 t53:=Tryd.underlying93
 a53:=Tryd.isAgg93
 z53:=Tryd.sizeOf93
 v53:=Tryd.zeroValue93
 t75:=Tryd.underlying81
 a75:=Tryd.isAgg81
 z75:=Tryd.sizeOf81
 v75:=Tryd.zeroValue81
 t76:=Tryd.underlying82
 a76:=Tryd.isAgg82
 z76:=Tryd.sizeOf82
 v76:=Tryd.zeroValue82
 t85:=Tryd.underlying87
 a85:=Tryd.isAgg87
 z85:=Tryd.sizeOf87
 v85:=Tryd.zeroValue87
 t127:=Tryd.underlying107
 a127:=Tryd.isAgg107
 z127:=Tryd.sizeOf107
 v127:=Tryd.zeroValue107
 t143:=Tryd.underlying108
 a143:=Tryd.isAgg108
 z143:=Tryd.sizeOf108
 v143:=Tryd.zeroValue108
 t145:=Tryd.underlying110
 a145:=Tryd.isAgg110
 z145:=Tryd.sizeOf110
 v145:=Tryd.zeroValue110
 t167:=Tryd.underlying86
 a167:=Tryd.isAgg86
 z167:=Tryd.sizeOf86
 v167:=Tryd.zeroValue86
 t168:=Tryd.underlying89
 a168:=Tryd.isAgg89
 z168:=Tryd.sizeOf89
 v168:=Tryd.zeroValue89
 t171:=Tryd.underlying100
 a171:=Tryd.isAgg100
 z171:=Tryd.sizeOf100
 v171:=Tryd.zeroValue100
 t173:=Tryd.underlying103
 a173:=Tryd.isAgg103
 z173:=Tryd.sizeOf103
 v173:=Tryd.zeroValue103
 t175:=Tryd.underlying94
 a175:=Tryd.isAgg94
 z175:=Tryd.sizeOf94
 v175:=Tryd.zeroValue94
 t210:=Tryd.underlying98
 a210:=Tryd.isAgg98
 z210:=Tryd.sizeOf98
 v210:=Tryd.zeroValue98
 t212:=Tryd.underlying113
 a212:=Tryd.isAgg113
 z212:=Tryd.sizeOf113
 v212:=Tryd.zeroValue113
 t213:=Tryd.underlying115
 a213:=Tryd.isAgg115
 z213:=Tryd.sizeOf115
 t232:=Tryd.underlying119
 a232:=Tryd.isAgg119
 z232:=Tryd.sizeOf119
 v232:=Tryd.zeroValue119
 t233:=Tryd.underlying120
 a233:=Tryd.isAgg120
 z233:=Tryd.sizeOf120
 v233:=Tryd.zeroValue120
 g15:=by kernel_rfl
 g16:=by kernel_rfl
 g17:=by kernel_rfl
 g18:=by kernel_rfl
 g19:=by kernel_rfl
 t80:=Tryd.underlying121
 a80:=Tryd.isAgg121
 z80:=Tryd.sizeOf121
 v80:=Tryd.zeroValue121
 i0:=by kernel_rfl
 i2:=by kernel_rfl
 i3:=by kernel_rfl
 i4:=by kernel_rfl
 i5:=by kernel_rfl
 i9:=by kernel_rfl
 i20:=by kernel_rfl
 i21:=by kernel_rfl
 i37:=by kernel_rfl
 i46:=by kernel_rfl
 i51:=by kernel_rfl
 i53:=by kernel_rfl
 i75:=by kernel_rfl
 i76:=by kernel_rfl
 i80:=by kernel_rfl
 i85:=by kernel_rfl
 i127:=by kernel_rfl
 i143:=by kernel_rfl
 i145:=by kernel_rfl
 i167:=by kernel_rfl
 i168:=by kernel_rfl
 i171:=by kernel_rfl
 i173:=by kernel_rfl
 i175:=by kernel_rfl
 i210:=by kernel_rfl
 i212:=by kernel_rfl
 i232:=by kernel_rfl
 i233:=by kernel_rfl
 m15:=by kernel_rfl
 m16:=by kernel_rfl
 m17:=by kernel_rfl
 m18:=by kernel_rfl
 m19:=by kernel_rfl
 c0:=by kernel_rfl
 c2:=by kernel_rfl
 c3:=by kernel_rfl
 c4:=by kernel_rfl
 c5:=by kernel_rfl
 c9:=by kernel_rfl
 c20:=by kernel_rfl
 c21:=by kernel_rfl
 c37:=by kernel_rfl
 c46:=by kernel_rfl
 c51:=by kernel_rfl
 c53:=by kernel_rfl
 c75:=by kernel_rfl
 c76:=by kernel_rfl
 c80:=by kernel_rfl
 c85:=by kernel_rfl
 c127:=by kernel_rfl
 c143:=by kernel_rfl
 c145:=by kernel_rfl
 c167:=by kernel_rfl
 c168:=by kernel_rfl
 c171:=by kernel_rfl
 c173:=by kernel_rfl
 c175:=by kernel_rfl
 c210:=by kernel_rfl
 c212:=by kernel_rfl
 c213:=by kernel_rfl
 c232:=by kernel_rfl
 c233:=by kernel_rfl}
open Go.RowKit in
theorem Tryd.strconv_Atoi_ok (s:ByteArray) (Ou:s.size<=9223372036854775806) (v:Int) (h:Lib.atoiAll s.data.toList=.ok v) (w:World):
  Calls Tryd.prog 55 #[.string s] w λe w'=>e=.returned (.tuple #[.int .i64 v,.nilIface])/\(w'=w\/∃t,w'=Lib.bytesWorld w 5 t):=Any.strconv_Atoi_ok Tryd.qF s Ou v h w
open Go.RowKit in
theorem Tryd.strconv_Atoi_syntax_var (s:ByteArray) (HT:s.size<=281474976710656) (h:Lib.atoiAll s.data.toList=Lib.atoiAll []) (tp:TypeId) (p:Value) (w:World) (HU:w.var? Tryd.prog "strconv.ErrSyntax" =some #[.iface tp p]):
  Calls Tryd.prog 55 #[.string s] w λe w'=>∃N,e=.returned (.tuple #[.int .i64 0,.iface 89 (.pointer (some ⟨N,0,none⟩))])/\w.heap.size<=N/\w'.heap[N]? =some (.cells #[.string ⟨#[65,116,111,105]⟩,.string s,.iface tp p] 98 (0,0))/\Below w.heap.size w w':=Any.strconv_Atoi_syntax_var Tryd.qF s HT h tp p w HU
open Go.RowKit in
theorem Tryd.strconv_Atoi_range_var (s:ByteArray) (HT:s.size<=281474976710656) (h:Lib.atoiAll s.data.toList=.range) (tp:TypeId) (p:Value) (w:World) (HU:w.var? Tryd.prog "strconv.ErrRange" =some #[.iface tp p]):
  Calls Tryd.prog 55 #[.string s] w λe w'=>∃N,e=.returned (.tuple #[.int .i64 (Lib.atoiSat s.data.toList),.iface 89 (.pointer (some ⟨N,0,none⟩))])/\w.heap.size<=N/\w'.heap[N]? =some (.cells #[.string ⟨#[65,116,111,105]⟩,.string s,.iface tp p] 98 (0,0))/\Below w.heap.size w w':=Any.strconv_Atoi_range_var Tryd.qF s HT h tp p w HU
end Go.Proofs
