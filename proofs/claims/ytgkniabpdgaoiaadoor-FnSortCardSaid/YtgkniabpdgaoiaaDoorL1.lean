/- Contracts of the library's functions, and of the one function that looks at an error, as contracts over the machine. -/
import Derived.Test.YtgkniabpdgaoiaaDoorTy
import Derived.Test.YtgkniabpdgaoiaaDoorShelf
import Derived.WalkKit
import Derived.BigCall
set_option linter.unusedVariables false
set_option linter.unusedSimpArgs false
namespace Go.Am
open Go Go.RowKit Go.Proofs
theorem ACall.ext {P : Program} {f : FuncId} {args : List PV} {r : PV} (hok : FnOk P f)
  (H : ∀ (w : World) (vs : Array Value) (S : Nat → Prop), amb S w → (∀ b, S b → b < w.heap.size) → vs.size = args.length → (∀ (j : Nat) (pv : PV), args[j]? = some pv → ∃ v, vs[j]? = some v ∧ PRep S w pv v) →
   Calls P f vs w (fun e w' => ∃ v, e = .returned v ∧ (∀ μ h S w, VRep μ h S w r v) ∧ Below w.heap.size w w'))
  (hp : args.all scalarB = true) (h : List AObj) : ACall P f args h (fun res h' => res = r ∧ h' = h) := by
 refine ⟨hok, fun w vs μ S hH hM hsz ha => (H w vs S hM.known hM.slt hsz (fun j pv hj => ?_)).mono ?_⟩
 ·obtain ⟨v, h1, h2⟩ := ha j pv hj
  have h3 := List.all_eq_true.1 hp pv (List.mem_of_getElem? hj)
  cases pv <;> first | exact ⟨v, h1, h2⟩ | (simp [scalarB] at h3)
 ·rintro e w' ⟨v, rfl, hv, hb⟩
  have ag : Agree w w' := ⟨hb.block, hb.size, hb.os, hb.tape, hb.output⟩
  exact ⟨v, r, h, μ, S, rfl, ⟨rfl, rfl⟩, hv _ _ _ _, hH.agree ag hM, hM.agree ag, Fr.of_agree ag⟩
theorem args1 {vs : Array Value} {a : Value} (hs : vs.size = 1) (h0 : vs[0]? = some a) : vs = #[a] := by
 obtain ⟨l⟩ := vs
 rcases l with _ | ⟨b, _ | ⟨c, l⟩⟩ <;> simp at hs
 simp at h0; subst h0; rfl
theorem args2 {vs : Array Value} {a b : Value} (hs : vs.size = 2) (h0 : vs[0]? = some a) (h1 : vs[1]? = some b) : vs = #[a, b] := by
 obtain ⟨l⟩ := vs
 rcases l with _ | ⟨x, _ | ⟨y, _ | ⟨z, l⟩⟩⟩ <;> simp at hs
 simp at h0 h1; subst h0; subst h1; rfl
theorem args3 {vs : Array Value} {a b c : Value} (hs : vs.size = 3) (h0 : vs[0]? = some a) (h1 : vs[1]? = some b) (h2 : vs[2]? = some c) : vs = #[a, b, c] := by
 obtain ⟨l⟩ := vs
 rcases l with _ | ⟨x, _ | ⟨y, _ | ⟨z, _ | ⟨u, l⟩⟩⟩⟩ <;> simp at hs
 simp at h0 h1 h2; subst h0; subst h1; subst h2; rfl
theorem var_of {P : Program} {w : World} {n : String} {g : Nat} {cs : Array Value} {t : TypeId} {z : Nat × Nat} (hg : P.globalNamed n = some g) (h : w.heap[g]? = some (.cells cs t z)) : w.var? P n = some cs := by
 unfold World.var?
 rw [hg]
 simp [h]
theorem gTab : Tryd.prog.globalNamed "internal/strconv.uint64pow10" = some 1 := by kernel_rfl
theorem pow10_eq : Lib.pow10Tab = pow10 := by decide
theorem amb_tab {S : Nat → Prop} {w : World} (h : amb S w) : Lib.TabIs Tryd.prog w "internal/strconv.uint64pow10" .u64 Lib.pow10Tab := by
 obtain ⟨_, t, z, hh⟩ := h.1 (1, _) (by simp [ambTabs]; rfl)
 unfold Lib.TabIs
 rw [var_of gTab hh, pow10_eq]
theorem below_grow (w : World) (k : Nat) (os : Array Obj) : Below w.heap.size w (Sort.grow (w.drewN k) os) := by
 refine ⟨rfl, rfl, rfl, ?_, fun i hi => ?_⟩
 ·show w.heap.size ≤ (w.heap ++ os).size
  simp
 ·show (w.heap ++ os)[i]? = w.heap[i]?
  rw [Array.getElem?_append_left hi]
theorem itoa_ok (n : Int) (h0 : -9223372036854775808 ≤ n) (h1 : n ≤ 9223372036854775807) (h : List AObj) : ACall Tryd.prog 85 [.int .i64 n] h (fun res h' => res = .str (Lib.itoa n) ∧ h' = h) := by
 refine ACall.ext ⟨_, _, Tryd.func85, rfl, by kernel_rfl⟩ (fun w vs S ha hS hsz hj => ?_) rfl h
 obtain ⟨v, hv, hp⟩ := hj 0 _ rfl
 cases hp
 obtain rfl := args1 hsz hv
 refine (Tryd.strconv_Itoa n h0 h1 w (amb_tab ha)).mono ?_
 rintro e w' ⟨rfl, k, os, rfl⟩
 exact ⟨_, rfl, fun _ _ _ _ => .str _, below_grow _ _ _⟩
def pw (s : List UInt8) (lo hi : Int) : Option Int :=
 if 20 < s.length then none else match Lib.atoiAll s with
  | .ok n => if Lib.itoa n = s ∧ lo ≤ n ∧ n ≤ hi then some n else none
  | _ => none
def m98 (s : Str) (lo hi : Int) : Option (Int × Bool) := match pw s lo hi with | some n => some (n, true) | none => some (0, false)
def m73 (n : Int) : Option Str := if -9223372036854775808 ≤ n ∧ n ≤ 9223372036854775807 then some (Lib.itoa n) else none
theorem ok73 {n : Int} {r : Str} (h : m73 n = some r) : ACall Tryd.prog 85 [.int .i64 n] [] (fun res h => res = .str r ∧ h = []) := by
 obtain ⟨⟨h0, h1⟩, rfl⟩ := ite_some h
 exact itoa_ok n h0 h1 []
end Go.Am
