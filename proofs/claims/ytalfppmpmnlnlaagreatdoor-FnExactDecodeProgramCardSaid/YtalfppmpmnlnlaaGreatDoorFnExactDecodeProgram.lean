/- Texts of the proof, joined. -/
import Derived.Test.YtalfppmpmnlnlaaGreatDoorRows
import Derived.Test.YtalfppmpmnlnlaaGreatDoorCards
import Derived.Test.YtalfppmpmnlnlaaGreatDoorTie
import Derived.WalkKit
import Derived.ProofKit
import Derived.OpenShut
import Derived.ShutString
import Derived.ChangeOld
import Derived.Below
import Derived.HandedShaped
import Derived.ChangeSame
import Derived.ChangeVars
import Derived.ChangeMaps5
import Derived.JoinedOf
import Derived.JoinedAt
import Derived.LaidLaws
import Derived.Stop.LaidErr
import Derived.Lib.LaidTab
import Derived.SevenTiedAt
import Derived.Test.YtalfppmpmnlnlaaGreatDoorPk11
namespace Go.Proofs.YtalfppmpmnlnlaaGreatDoor.fnExactDecodeProgram
open Go.ChangeShapes Go.WideShapes Go.ChangeAt Go.RowKit
open Go.ChangeMaps (open_string shut_string)
set_option linter.unusedVariables false
theorem own : ownKnob Tryz.prog.godebug = none := by kernel_rfl
theorem laidOut : laidOutB Tryz.prog = true := by kernel_rfl
abbrev adr : ByteArray := { data := #[105, 110, 118, 97, 108, 105, 100, 32, 115, 121, 110, 116, 97, 120] }
abbrev ads : ByteArray := { data := #[118, 97, 108, 117, 101, 32, 111, 117, 116, 32, 111, 102, 32, 114, 97, 110, 103, 101] }
def Z2 : List Int := [0, 1, 28, 2, 29, 14, 24, 3, 30, 22, 20, 15, 25, 17, 4, 8, 31, 27, 13, 23, 21, 19, 16, 7, 26, 12, 18, 6, 11, 5, 10, 9]
def Z3 : List Int := [0, 1, 56, 2, 57, 49, 28, 3, 61, 58, 42, 50, 38, 29, 17, 4, 62, 47, 59, 36, 45, 43, 51, 22, 53, 39, 33, 30, 24, 18, 12, 5, 63, 55, 48, 27, 60, 41, 37, 16, 46, 35, 44, 21, 52, 32, 23, 11, 54, 26, 40, 15, 34, 20, 31, 10, 25, 14, 19, 9, 13, 8, 7, 6]
noncomputable def low : Nat := (World.holding Tryz.prog default ⟨#[], #[], []⟩).heap.size
noncomputable def DV (os : Os) : World :=
 let w0 := World.holding Tryz.prog os ⟨#[.cells #[.string adr] 274, .cells #[.string ads] 274], #[], []⟩
 let put (g : Nat) (cs : Array Value) (h : Array Obj) : Array Obj := h.modify g fun
  | .cells _ t frozen => .cells cs t frozen
  | o => o
 { w0 with heap := put 0 (Am.Hq.map fun z => Value.int .u64 z).toArray (put 1 #[.iface 272 (.pointer (some ⟨low, 0, none⟩))] (put 2 #[.iface 272 (.pointer (some ⟨low + 1, 0, none⟩))]
   (put 3 (Z2.map fun z => Value.int .u8 z).toArray (put 4 (Z3.map fun z => Value.int .u8 z).toArray w0.heap)))) }
noncomputable def places : List MemPlace := (List.range 32).map (fun i => MemPlace.cell 3 i) ++ ((List.range 64).map (fun i => MemPlace.cell 4 i) ++ ((List.range 20).map (fun i => MemPlace.cell 0 i) ++ [.cell 2 0, .cell (low + 1) 0, .cell 1 0, .cell low 0]))
abbrev uv : List (String × DataW Unit) := [("math/bits.deBruijn32tab", Rows.laid_math_bits_deBruijn32tab), ("math/bits.deBruijn64tab", Rows.laid_math_bits_deBruijn64tab), ("internal/strconv.uint64pow10", Rows.laid_internal_strconv_uint64pow10), ("strconv.ErrRange", Rows.laid_strconv_ErrRange), ("strconv.ErrSyntax", Rows.laid_strconv_ErrSyntax)]
set_option maxRecDepth 100000 in
theorem Dj (os : Os) (args : Array Value) : laidMet Tryz.prog uv ((DV os).forCall (fun _ _ => 0) ⟨#[], args, []⟩).memory :=
 laidMet_of_run (ps := places) 8 (by kernel_rfl) (by kernel_rfl) (by kernel_rfl)
theorem uw {w : World} {n : String} {g : Nat} {cs : Array Value} (hg : Tryz.prog.globalNamed n = some g) (h : w.var? Tryz.prog n = some cs) : ∃ t z, w.heap[g]? = some (.cells cs t z) := by
 unfold World.var? at h
 rw [hg] at h
 simp only [Option.bind_some] at h
 split at h
 ·rename_i c t z hh; cases h; exact ⟨_, _, hh⟩
 ·cases h
theorem lt_of_heap {w : World} {g : Nat} {o : Obj} (h : w.heap[g]? = some o) : g < w.heap.size := (Array.getElem?_eq_some_iff.1 h).1
theorem star : "*" ++ "errors.errorString" = "*errors.errorString" := by decide
theorem OH (u : TypeId) (h : Tryz.prog.typeName? 3 u = some "*errors.errorString") : u = 272 :=
 typeName_ptr_named (nm := "errors.errorString") (by rw [star]; kernel_rfl) (by kernel_rfl) (by decide) u (by rw [star]; exact h)
theorem gR : Tryz.prog.globalNamed "strconv.ErrRange" = some 2 := by kernel_rfl
theorem gRT : (Tryz.prog.globals[2]?).map (·.type) = some 231 := by kernel_rfl
theorem gST : (Tryz.prog.globals[1]?).map (·.type) = some 231 := by kernel_rfl
theorem gTT : (Tryz.prog.globals[0]?).map (·.type) = some 259 := by kernel_rfl
theorem Z4 : Tryz.prog.cellsOf 274 = 1 := by kernel_rfl
theorem c9 : Tryz.prog.cellsOf 9 = 1 := by kernel_rfl
theorem Rh {w : World} (hL : laidMet Tryz.prog uv w) (hsh : w.ShapedOpen Tryz.prog) : Am.LI (fun b => b < w.heap.size) w := by
 have h1 := hL.tail.tail
 have h2 := h1.tail
 have h3 := h2.tail
 refine ⟨fun p hp => ?_, fun g hg => ?_, fun g hg => ?_⟩
 ·have e : p = (0, (Am.Hq.map fun z => Value.int .u64 z).toArray) := by simpa [Am.FD] using hp
  subst e
  have ht : Lib.TabIs Tryz.prog w "internal/strconv.uint64pow10" .u64 Am.Hq := Lib.tabIs_of_head Am.Wi gTT Tryz.underlying259 Tryz.underlying247 (by kernel_rfl) (by kernel_rfl) h1
  obtain ⟨t, z, hh⟩ := uw Am.Wi ht
  exact ⟨lt_of_heap hh, t, z, hh⟩
 ·have hg : g = 1 ∨ g = 2 := by simpa [Am.xI] using hg
  rcases hg with rfl | rfl
  ·obtain ⟨a0, s0, Dk, -, -, -⟩ := laid_sentinel h3 Am.Wj gST Tryz.underlying231 OH Tryz.underlying272 Tryz.underlying274 rfl rfl Tryz.underlying9 Z4 c9
   obtain ⟨t, z, hh⟩ := uw Am.Wj Dk
   exact ⟨lt_of_heap hh, _, _, t, z, hh⟩
  ·obtain ⟨a0, s0, Dk, -, -, -⟩ := laid_sentinel h2 Am.Wk gRT Tryz.underlying231 OH Tryz.underlying272 Tryz.underlying274 rfl rfl Tryz.underlying9 Z4 c9
   obtain ⟨t, z, hh⟩ := uw Am.Wk Dk
   exact ⟨lt_of_heap hh, _, _, t, z, hh⟩
 ·simp [Am.KD] at hg
theorem wrap {H : Type} {enc : TypeId × Value → H} {a : Assume} {C : Checked} {os : Os} {f : FuncId} {fn : Func} {s : ChangeSpec} {conds : List PathCond} {apart fresh handsOn again : Bool} {X : World → Array Value → Prop}
  (hX : ∀ (w w' : World) (args : Array Value), w.heap = w'.heap → X w args → X w' args)
  (own : ownKnob C.prog.godebug = none) (started : os.Started) (Wl : C.prog.inits.idxOf? f = none) (Ri : C.prog.funcs[f]? = some fn)
  (witness : ∃ (w : World) (tape : Tape) (i : Input), w.os = os ∧ (w.forCall tape i).Shaped C.prog ∧ i.vars = [] ∧ Input.okWide C.prog (w.forCall tape i) .any w.heap.size f i ∧
   ((s.pre enc C.prog fn conds apart (w.forCall tape i).memory i.args ∧ X (w.forCall tape i).memory i.args) ∧ sizedMet enc C.prog fn (OpenSpec.ofChange s) apart (w.forCall tape i).memory i.args) ∧ a.holds C.prog (lone (Frame.enter C.prog f i.args .normal) [] (w.forCall tape i)))
  (contract : ∀ (W : World) (base : Nat) (args : Array Value) (ds gs : List (DataW H)) (before : List MemPlace),
   (∀ (j : Nat) t v, fn.params[j]? = some t → args[j]? = some v → Value.okWide C.prog W .any base t v) →
   DataW.Whole enc C.prog fn.params.toList s.vars apart W args.toList ds gs before → X W args → W.ShapedOpen C.prog →
   Calls C.prog f args W fun e W' => ∃ v, e = .returned v ∧ s.post enc C.prog fn apart fresh handsOn again W args v W') :
  ReturnsInHanded a C os f .any (fun w args => (s.pre enc C.prog fn conds apart w args ∧ X w args) ∧ sizedMet enc C.prog fn (OpenSpec.ofChange s) apart w args) (s.post enc C.prog fn apart fresh handsOn again) := by
 refine returnsInHanded_of_calls own started Wl witness ?_
 intro w tape i _ hsh _ yi UJ _
 obtain ⟨_, _, _, fn', adt, _, _, _, _, yP⟩ := yi
 obtain rfl : fn' = fn := Option.some.inj (adt.symm.trans Ri)
 obtain ⟨⟨⟨ds, gs, before, hw, _⟩, hx⟩, _⟩ := UJ
 refine (contract (w.forCall tape i) w.heap.size i.args ds gs before yP (DataW.Whole.of_heap (w' := w.forCall tape i) (by rfl) hw) (hX _ _ _ (by rfl) hx) hsh).mono fun e W' ⟨v, he, hp⟩ => ?_
 subst he
 exact ChangeSpec.post_blind hp
def SU (k : IntKind) (w : World) (a : Option Addr) (len cap : Nat) (zs : List Int) : Prop :=
 (a = none ∧ len = 0 ∧ cap = 0 ∧ zs = []) ∨
 ∃ x, a = some x ∧ len ≤ cap ∧ cap ≤ maxLen ∧ zs.length = cap ∧ (∀ i, i < zs.length → w.cell? (x.add i) = some (.int k (zs.getD i 0))) ∧ ∀ n ∈ zs, (Lit.int k n).wf = true
theorem walk (a0 : Option Addr) (OI OJ : Nat) (z0 : List Int) (w : World) (w0 : SU .u8 w a0 OI OJ z0) (Wm : Am.LI (fun b => b < w.heap.size) w) :
  Calls Tryz.prog 4 #[.slice a0 OI OJ] w fun e w' => e = .returned (.bool true) ∧ Below w.heap.size w w' := by
 obtain ⟨bs, hb⟩ := Am.Jq w0 (S := fun b => b < w.heap.size) (fun b hb => hb)
 refine Am.Rj Wm (Am.Dl bs) rfl (fun j pv hj => ?_)
 rcases j with _ | j
 ·cases hj
  exact ⟨_, rfl, hb⟩
 ·cases hj
set_option maxRecDepth 100000 in
theorem lifted (os : Os) (started : os.Started) (H : Type) (enc : TypeId × Value → H) :
  ReturnsInHanded {} Tryz.checked os 4 .any (fun w args => (Rows.fnExactDecodeProgramSpec.pre enc Tryz.prog Tryz.f4 Rows.fnExactDecodeProgramRow.domain false w args ∧ laidMet Tryz.prog uv w) ∧ sizedMet enc Tryz.prog Tryz.f4 (OpenSpec.ofChange Rows.fnExactDecodeProgramSpec) false w args)
   (Rows.fnExactDecodeProgramSpec.post enc Tryz.prog Tryz.f4 false true false false) := by
 refine wrap (C := Tryz.checked) (X := fun w _ => laidMet Tryz.prog uv w) (fun _ _ _ hh h => h.of_heap hh) own started (by kernel_rfl) Tryz.func4
  (ChangeSpec.witness_at (enc := enc) (C := Tryz.checked) (os := os) (X := fun w _ => laidMet Tryz.prog uv w) false (DV os) #[.slice none 0 0] 8 rfl (by kernel_rfl) (by kernel_rfl) (by kernel_rfl) (by kernel_rfl) (by kernel_rfl) (Dj os _)) ?_
 intro W base args ds gs before SV hW hL hsh
 have yP : ∀ (j : Nat) t v, Tryz.f4.params[j]? = some t → args[j]? = some v → Value.okWide Tryz.prog W .any base t v := SV
 have hW' := hW
 obtain ⟨p, q, hA0, hV, rfl, hfz, hnd⟩ := hW
 have hA : DataW.TrodAll enc Tryz.prog W 0 (fun _ => true) true Tryz.f4.params.toList args.toList ds p := hA0
 rw [Tryz.params4] at hA yP
 obtain ⟨v0, vs0, d0, ds0, p0, q0, qG, rfl, rfl, h0, r0⟩ := trodAll_cons hA
 obtain ⟨rfl, rfl, rfl⟩ := trodAll_nil r0
 obtain rfl : args = #[v0] := by cases args; simp_all
 obtain ⟨rfl, rfl⟩ := trodVars_none hV
 obtain ⟨a0, OI, OJ, rfl⟩ := okWide_slice Tryz.underlying27 (yP 0 27 v0 rfl rfl)
 have k0 := h0
 have lt0 : ∀ x ∈ p0, x.block < W.heap.size := by obtain ⟨m, hm⟩ := k0; exact DataW.trod_lt m _ _ _ hm
 obtain ⟨z0, w0⟩ : ∃ zs, SU .u8 W a0 OI OJ zs := by
  obtain ⟨fuel, hf⟩ := h0
  rcases open_ints Tryz.underlying27 Tryz.underlying5 (by kernel_rfl) hf with ⟨H6, _⟩ | ⟨x, l, c, zs, H6, _, hl, hm, hz, _, bw, hwz⟩
  ·simp [Value.cells] at H6
   obtain ⟨rfl, rfl, rfl⟩ := H6
   exact ⟨[], .inl ⟨rfl, rfl, rfl, rfl⟩⟩
  ·simp [Value.cells] at H6
   obtain ⟨rfl, rfl, rfl⟩ := H6
   exact ⟨zs, .inr ⟨_, rfl, hl, hm, by simpa using hz, bw, hwz⟩⟩
 clear hA0 SV
 refine (walk a0 OI OJ z0 W w0 (Rh hL hsh)).mono fun e W' ⟨he, bel⟩ => ?_
 subst he
 exact ⟨_, rfl, _, _, _, [], _, [], hW', trodAll_mk1 (shut_bool Tryz.underlying4 _), (trodAll_cons_mk (Below.trod laidOut (by kernel_rfl) (of_decide_eq_true (by kernel_rfl)) k0 bel lt0) trodAll_mk0), rfl, bel.frame _, fun h => by cases h⟩
theorem over : Rows.FnExactDecodeProgramSaid :=
 OpenClaim.holds_of_wide 4 Tryz.f4 rfl rfl rfl rfl rfl rfl rfl ⟨rfl, rfl, rfl, rfl, rfl⟩ rfl rfl rfl rfl rfl (by kernel_rfl) Tryz.func4 (by kernel_rfl)
  (of_decide_eq_true (by kernel_rfl)) (by unfold Func.isWrapper; first | (rw [if_pos (by decide +kernel)]; kernel_rfl) | (rw [if_neg (by decide +kernel)]; exact ⟨rfl, rfl⟩))
  (fun os started H enc _ => lifted os started H enc)
theorem proved : Rows.FnExactDecodeProgramCardSaid :=
 Claim7.holds_tied_plain_at .later [] [.data, .data, .data, .sentinel, .sentinel] true (true, "a6315651cd0bb4e8d8ab8c22d4d9cf354f8ec356a7e6331f154a77d5bb5c3187") true
  over (fun _ h => by cases h) (by kernel_rfl) (fun _ h => by cases h) fnExactDecodeProgram_row_tie rfl ⟨rfl, rfl⟩ (by kernel_rfl) rfl
  (fun f fn hf Ri => by
   obtain rfl : f = 4 := Option.some.inj ((show Tryz.prog.funcNamed "loop.example/g03011/laws.FnExactDecodeProgram" = some 4 by kernel_rfl).symm.trans hf) |>.symm
   obtain rfl : fn = Tryz.f4 := (Option.some.inj (Tryz.func4.symm.trans Ri)).symm
   exact ⟨by kernel_rfl, fun j t ht => by
    rw [Tryz.params4] at ht
    have h9 : t = 27 := by
     rcases j with _ | j
     ·simpa using ht.symm
     ·simp at ht
    subst h9
    exact (show Tryz.prog.wantsStandIn 27 = false by kernel_rfl)⟩)
  (by kernel_rfl)
end Go.Proofs.YtalfppmpmnlnlaaGreatDoor.fnExactDecodeProgram
