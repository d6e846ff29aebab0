/- Texts of the proof, joined. -/
import Derived.Test.YtiigfbapjeefbaaGreatDoorRows
import Derived.Test.YtiigfbapjeefbaaGreatDoorCards
import Derived.Test.YtiigfbapjeefbaaGreatDoorTie
import Derived.WalkKit
import Derived.ProofKit
import Derived.OpenShut
import Derived.ShutString
import Derived.ChangeOld
import Derived.Below
import Derived.HandedShaped
import Derived.ChangeSame
import Derived.ChangeVars
import Derived.ChangeMaps5
import Derived.JoinedOf
import Derived.JoinedAt
import Derived.LaidLaws
import Derived.Stop.LaidErr
import Derived.Lib.LaidTab
import Derived.SevenTiedAt
import Derived.Test.YtiigfbapjeefbaaGreatDoorPk9
namespace Go.Proofs.YtiigfbapjeefbaaGreatDoor.fnExactPrintScript
open Go.ChangeShapes Go.WideShapes Go.ChangeAt Go.RowKit
open Go.ChangeMaps (open_string shut_string)
set_option linter.unusedVariables false
theorem own : ownKnob Tryz.prog.godebug = none := by kernel_rfl
theorem laidOut : laidOutB Tryz.prog = true := by kernel_rfl
def akh : List Int := [0, 1, 28, 2, 29, 14, 24, 3, 30, 22, 20, 15, 25, 17, 4, 8, 31, 27, 13, 23, 21, 19, 16, 7, 26, 12, 18, 6, 11, 5, 10, 9]
def aki : List Int := [0, 1, 56, 2, 57, 49, 28, 3, 61, 58, 42, 50, 38, 29, 17, 4, 62, 47, 59, 36, 45, 43, 51, 22, 53, 39, 33, 30, 24, 18, 12, 5, 63, 55, 48, 27, 60, 41, 37, 16, 46, 35, 44, 21, 52, 32, 23, 11, 54, 26, 40, 15, 34, 20, 31, 10, 25, 14, 19, 9, 13, 8, 7, 6]
noncomputable def yN (os : Os) : World :=
 let w0 := World.holding Tryz.prog os ⟨#[], #[], []⟩
 let put (g : Nat) (cs : Array Value) (h : Array Obj) : Array Obj := h.modify g fun
  | .cells _ t frozen => .cells cs t frozen
  | o => o
 { w0 with heap := put 1 (Am.BS.map fun z => Value.int .u64 z).toArray (put 4 (akh.map fun z => Value.int .u8 z).toArray (put 5 (aki.map fun z => Value.int .u8 z).toArray w0.heap)) }
noncomputable def places : List MemPlace := (List.range 32).map (fun i => MemPlace.cell 4 i) ++ ((List.range 64).map (fun i => MemPlace.cell 5 i) ++ ((List.range 20).map (fun i => MemPlace.cell 1 i) ++ []))
abbrev pj : List (String × DataW Unit) := [("math/bits.deBruijn32tab", Rows.laid_math_bits_deBruijn32tab), ("math/bits.deBruijn64tab", Rows.laid_math_bits_deBruijn64tab), ("internal/strconv.uint64pow10", Rows.laid_internal_strconv_uint64pow10)]
set_option maxRecDepth 100000 in
theorem yi (os : Os) (args : Array Value) : laidMet Tryz.prog pj ((yN os).forCall (fun _ _ => 0) ⟨#[], args, []⟩).memory :=
 laidMet_of_run (ps := places) 8 (by kernel_rfl) (by kernel_rfl) (by kernel_rfl)
theorem B5 {w : World} {n : String} {g : Nat} {cs : Array Value} (hg : Tryz.prog.globalNamed n = some g) (h : w.var? Tryz.prog n = some cs) : ∃ t z, w.heap[g]? = some (.cells cs t z) := by
 unfold World.var? at h
 rw [hg] at h
 simp only [Option.bind_some] at h
 split at h
 ·rename_i c t z hh; cases h; exact ⟨_, _, hh⟩
 ·cases h
theorem lt_of_heap {w : World} {g : Nat} {o : Obj} (h : w.heap[g]? = some o) : g < w.heap.size := (Array.getElem?_eq_some_iff.1 h).1
theorem gTT : (Tryz.prog.globals[1]?).map (·.type) = some 176 := by kernel_rfl
theorem PN {w : World} (hL : laidMet Tryz.prog pj w) (Lk : w.ShapedOpen Tryz.prog) : Am.OR (fun b => b < w.heap.size) w := by
 have h1 := hL.tail.tail
 refine ⟨fun p hp => ?_, fun g hg => ?_, fun g hg => ?_⟩
 ·have e : p = (1, (Am.BS.map fun z => Value.int .u64 z).toArray) := by simpa [Am.zY] using hp
  subst e
  have ht : Lib.TabIs Tryz.prog w "internal/strconv.uint64pow10" .u64 Am.BS := Lib.tabIs_of_head Am.aac gTT Tryz.underlying176 Tryz.underlying164 (by kernel_rfl) (by kernel_rfl) h1
  obtain ⟨t, z, hh⟩ := B5 Am.aac ht
  exact ⟨lt_of_heap hh, t, z, hh⟩
 ·simp [Am.B6] at hg
 ·have hg : g = 0 := by simpa [Am.zZ] using hg
  subst hg
  obtain ⟨cs, hh, hs, _⟩ := Lk.1 0 #[.int .i64 0] (3, (0, 0)).1 (of_decide_eq_true (by kernel_rfl)) (by kernel_rfl)
  obtain ⟨m, hm⟩ := cell_of_shapedOpen_int (P := Tryz.prog) (g := 0) (t := 3) (zero := #[.int .i64 0]) Lk (of_decide_eq_true (by kernel_rfl)) (by kernel_rfl) rfl (by kernel_rfl) (by kernel_rfl) Tryz.underlying3
  have e : cs = #[.int .i64 m] := by
   obtain ⟨l⟩ := cs
   rcases l with _ | ⟨x, _ | ⟨y, l⟩⟩
   ·simp at hs
   ·simp [World.cell?, hh] at hm
    rw [hm]
   ·simp at hs
  subst e
  exact ⟨lt_of_heap hh, m, _, _, hh⟩
theorem wrap {H : Type} {enc : TypeId × Value → H} {a : Assume} {C : Checked} {os : Os} {f : FuncId} {fn : Func} {s : ChangeSpec} {conds : List PathCond} {apart fresh handsOn again : Bool} {X : World → Array Value → Prop}
  (hX : ∀ (w w' : World) (args : Array Value), w.heap = w'.heap → X w args → X w' args)
  (own : ownKnob C.prog.godebug = none) (started : os.Started) (aaQ : C.prog.inits.idxOf? f = none) (PO : C.prog.funcs[f]? = some fn)
  (witness : ∃ (w : World) (tape : Tape) (i : Input), w.os = os ∧ (w.forCall tape i).Shaped C.prog ∧ i.vars = [] ∧ Input.okWide C.prog (w.forCall tape i) .any w.heap.size f i ∧
   ((s.pre enc C.prog fn conds apart (w.forCall tape i).memory i.args ∧ X (w.forCall tape i).memory i.args) ∧ sizedMet enc C.prog fn (OpenSpec.ofChange s) apart (w.forCall tape i).memory i.args) ∧ a.holds C.prog (lone (Frame.enter C.prog f i.args .normal) [] (w.forCall tape i)))
  (contract : ∀ (W : World) (base : Nat) (args : Array Value) (ds gs : List (DataW H)) (before : List MemPlace),
   (∀ (j : Nat) t v, fn.params[j]? = some t → args[j]? = some v → Value.okWide C.prog W .any base t v) →
   DataW.Whole enc C.prog fn.params.toList s.vars apart W args.toList ds gs before → X W args → W.ShapedOpen C.prog →
   Calls C.prog f args W fun e W' => ∃ v, e = .returned v ∧ s.post enc C.prog fn apart fresh handsOn again W args v W') :
  ReturnsInHanded a C os f .any (fun w args => (s.pre enc C.prog fn conds apart w args ∧ X w args) ∧ sizedMet enc C.prog fn (OpenSpec.ofChange s) apart w args) (s.post enc C.prog fn apart fresh handsOn again) := by
 refine returnsInHanded_of_calls own started aaQ witness ?_
 intro w tape i _ Lk _ va aqw _
 obtain ⟨_, _, _, fn', aqx, _, _, _, _, tM⟩ := va
 obtain rfl : fn' = fn := Option.some.inj (aqx.symm.trans PO)
 obtain ⟨⟨⟨ds, gs, before, hw, _⟩, hx⟩, _⟩ := aqw
 refine (contract (w.forCall tape i) w.heap.size i.args ds gs before tM (DataW.Whole.of_heap (w' := w.forCall tape i) (by rfl) hw) (hX _ _ _ (by rfl) hx) Lk).mono fun e W' ⟨v, he, hp⟩ => ?_
 subst he
 exact ChangeSpec.post_blind hp
set_option maxRecDepth 100000 in
theorem lifted (os : Os) (started : os.Started) (H : Type) (enc : TypeId × Value → H) :
  ReturnsInHanded {} Tryz.checked os 5 .any (fun w args => (Rows.fnExactPrintScriptSpec.pre enc Tryz.prog Tryz.f5 Rows.fnExactPrintScriptRow.domain false w args ∧ laidMet Tryz.prog pj w) ∧ sizedMet enc Tryz.prog Tryz.f5 (OpenSpec.ofChange Rows.fnExactPrintScriptSpec) false w args)
   (Rows.fnExactPrintScriptSpec.post enc Tryz.prog Tryz.f5 false true false false) := by
 refine wrap (C := Tryz.checked) (X := fun w _ => laidMet Tryz.prog pj w) (fun _ _ _ hh h => h.of_heap hh) own started (by kernel_rfl) Tryz.func5
  (ChangeSpec.witness_at (enc := enc) (C := Tryz.checked) (os := os) (X := fun w _ => laidMet Tryz.prog pj w) false (yN os) #[.agg #[.int .i64 0, .int .i64 0, .string "".toUTF8, .slice none 0 0]] 8 rfl (by kernel_rfl) (by kernel_rfl) (by kernel_rfl) (by kernel_rfl) (by kernel_rfl) (yi os _)) ?_
 intro W base args ds gs before Vb hW hL Lk
 have tM : ∀ (j : Nat) t v, Tryz.f5.params[j]? = some t → args[j]? = some v → Value.okWide Tryz.prog W .any base t v := Vb
 have hW' := hW
 obtain ⟨p, q, hA0, hV, rfl, hfz, hnd⟩ := hW
 have hA : DataW.TrodAll enc Tryz.prog W 0 (fun _ => true) true Tryz.f5.params.toList args.toList ds p := hA0
 rw [Tryz.params5] at hA tM
 obtain ⟨v0, vs0, d0, ds0, p0, q0, aqy, rfl, rfl, h0, r0⟩ := trodAll_cons hA
 obtain ⟨rfl, rfl, rfl⟩ := trodAll_nil r0
 obtain rfl : args = #[v0] := by cases args; simp_all
 obtain ⟨rfl, rfl⟩ := trodVars_none hV
 obtain ⟨cs0, rfl, asw⟩ := okWide_struct Tryz.underlying24 (tM 0 24 v0 rfl rfl)
 have k0 := h0
 have lt0 : ∀ x ∈ p0, x.block < W.heap.size := by obtain ⟨m, hm⟩ := k0; exact DataW.trod_lt m _ _ _ hm
 obtain ⟨t0, ht0, tN⟩ := Am.aqz _ _ (Am.GA (fun b hb => hb)) h0
 clear hA0 Vb
 have hw : Calls Tryz.prog 5 #[.agg cs0] W fun e w' => e = .returned (.bool true) ∧ Below W.heap.size W w' := by
  refine Am.Ln (vs := #[.agg cs0]) (PN hL Lk) (Am.wz t0 ht0) rfl (fun j pv hj => ?_)
  rcases j with _ | j
  ·cases hj
   exact ⟨_, rfl, tN⟩
  cases hj
 refine hw.mono fun e W' ⟨he, bel⟩ => ?_
 subst he
 exact ⟨_, rfl, _, _, _, [], _, [], hW', trodAll_mk1 (shut_bool Tryz.underlying4 _), (trodAll_cons_mk (Below.trod laidOut (by kernel_rfl) (of_decide_eq_true (by kernel_rfl)) k0 bel lt0) trodAll_mk0), rfl, bel.frame _, fun h => by cases h⟩
theorem over : Rows.FnExactPrintScriptSaid :=
 OpenClaim.holds_of_wide 5 Tryz.f5 rfl rfl rfl rfl rfl rfl rfl ⟨rfl, rfl, rfl, rfl, rfl⟩ rfl rfl rfl rfl rfl (by kernel_rfl) Tryz.func5 (by kernel_rfl)
  (of_decide_eq_true (by kernel_rfl)) (by unfold Func.isWrapper; first | (rw [if_pos (by decide +kernel)]; kernel_rfl) | (rw [if_neg (by decide +kernel)]; exact ⟨rfl, rfl⟩))
  (fun os started H enc _ => lifted os started H enc)
theorem proved : Rows.FnExactPrintScriptCardSaid :=
 Claim7.holds_tied_plain_at .later [] [.data, .data, .data] true (true, "ab74de15634e0f8a56f5c7a472e40495cd2fb79f038ee583fa48df26ba417a97") true
  over (fun _ h => by cases h) (by kernel_rfl) (fun _ h => by cases h) fnExactPrintScript_row_tie rfl ⟨rfl, rfl⟩ (by kernel_rfl) rfl
  (fun f fn hf PO => by
   obtain rfl : f = 5 := Option.some.inj ((show Tryz.prog.funcNamed "loop.example/g03011/laws.FnExactPrintScript" = some 5 by kernel_rfl).symm.trans hf) |>.symm
   obtain rfl : fn = Tryz.f5 := (Option.some.inj (Tryz.func5.symm.trans PO)).symm
   exact ⟨by kernel_rfl, fun j t ht => by
    rw [Tryz.params5] at ht
    have h9 : t = 24 := by
     rcases j with _ | j
     ·simpa using ht.symm
     ·simp at ht
    subst h9
    exact (show Tryz.prog.wantsStandIn 24 = false by kernel_rfl)⟩)
  (by kernel_rfl)
end Go.Proofs.YtiigfbapjeefbaaGreatDoor.fnExactPrintScript
