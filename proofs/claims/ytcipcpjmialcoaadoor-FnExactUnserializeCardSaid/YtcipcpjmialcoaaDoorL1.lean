/- Contracts of the library's functions, and of the one function that looks at an error, as contracts over the machine. -/
import Derived.Test.YtcipcpjmialcoaaDoorTy
import Derived.Test.YtcipcpjmialcoaaDoorShelf
import Derived.WalkKit
import Derived.BigCall
set_option linter.unusedVariables false
set_option linter.unusedSimpArgs false
namespace Go.Am
open Go Go.RowKit Go.Proofs
theorem ACall.ext {P : Program} {f : FuncId} {args : List PV} {r : PV} (hok : FnOk P f)
  (H : ∀ (w : World) (vs : Array Value) (S : Nat → Prop), amb S w → (∀ b, S b → b < w.heap.size) → vs.size = args.length → (∀ (j : Nat) (pv : PV), args[j]? = some pv → ∃ v, vs[j]? = some v ∧ PRep S w pv v) →
   Calls P f vs w (fun e w' => ∃ v, e = .returned v ∧ (∀ μ h S w, VRep μ h S w r v) ∧ Below w.heap.size w w'))
  (hp : args.all scalarB = true) (h : List AObj) : ACall P f args h (fun res h' => res = r ∧ h' = h) := by
 refine ⟨hok, fun w vs μ S hH hM hsz ha => (H w vs S hM.known hM.slt hsz (fun j pv hj => ?_)).mono ?_⟩
 ·obtain ⟨v, h1, h2⟩ := ha j pv hj
  have h3 := List.all_eq_true.1 hp pv (List.mem_of_getElem? hj)
  cases pv <;> first | exact ⟨v, h1, h2⟩ | (simp [scalarB] at h3)
 ·rintro e w' ⟨v, rfl, hv, hb⟩
  have ag : Agree w w' := ⟨hb.block, hb.size, hb.os, hb.tape, hb.output⟩
  exact ⟨v, r, h, μ, S, rfl, ⟨rfl, rfl⟩, hv _ _ _ _, hH.agree ag hM, hM.agree ag, Fr.of_agree ag⟩
theorem args1 {vs : Array Value} {a : Value} (hs : vs.size = 1) (h0 : vs[0]? = some a) : vs = #[a] := by
 obtain ⟨l⟩ := vs
 rcases l with _ | ⟨b, _ | ⟨c, l⟩⟩ <;> simp at hs
 simp at h0; subst h0; rfl
theorem args2 {vs : Array Value} {a b : Value} (hs : vs.size = 2) (h0 : vs[0]? = some a) (h1 : vs[1]? = some b) : vs = #[a, b] := by
 obtain ⟨l⟩ := vs
 rcases l with _ | ⟨x, _ | ⟨y, _ | ⟨z, l⟩⟩⟩ <;> simp at hs
 simp at h0 h1; subst h0; subst h1; rfl
theorem args3 {vs : Array Value} {a b c : Value} (hs : vs.size = 3) (h0 : vs[0]? = some a) (h1 : vs[1]? = some b) (h2 : vs[2]? = some c) : vs = #[a, b, c] := by
 obtain ⟨l⟩ := vs
 rcases l with _ | ⟨x, _ | ⟨y, _ | ⟨z, _ | ⟨u, l⟩⟩⟩⟩ <;> simp at hs
 simp at h0 h1 h2; subst h0; subst h1; subst h2; rfl
theorem var_of {P : Program} {w : World} {n : String} {g : Nat} {cs : Array Value} {t : TypeId} {z : Nat × Nat} (hg : P.globalNamed n = some g) (h : w.heap[g]? = some (.cells cs t z)) : w.var? P n = some cs := by
 unfold World.var?
 rw [hg]
 simp [h]
theorem gTab : Tryd.prog.globalNamed "internal/strconv.uint64pow10" = some 2 := by kernel_rfl
theorem gSyn : Tryd.prog.globalNamed "strconv.ErrSyntax" = some 0 := by kernel_rfl
theorem gRng : Tryd.prog.globalNamed "strconv.ErrRange" = some 1 := by kernel_rfl
theorem pow10_eq : Lib.pow10Tab = pow10 := by decide
theorem amb_tab {S : Nat → Prop} {w : World} (h : amb S w) : Lib.TabIs Tryd.prog w "internal/strconv.uint64pow10" .u64 Lib.pow10Tab := by
 obtain ⟨_, t, z, hh⟩ := h.1 (2, _) (by simp [ambTabs]; rfl)
 unfold Lib.TabIs
 rw [var_of gTab hh, pow10_eq]
theorem amb_syn {S : Nat → Prop} {w : World} (h : amb S w) : ∃ tp p, w.var? Tryd.prog "strconv.ErrSyntax" = some #[.iface tp p] := by
 obtain ⟨_, tp, p, t, z, hh⟩ := h.2.1 0 (by simp [ambSents])
 exact ⟨tp, p, var_of gSyn hh⟩
theorem amb_rng {S : Nat → Prop} {w : World} (h : amb S w) : ∃ tp p, w.var? Tryd.prog "strconv.ErrRange" = some #[.iface tp p] := by
 obtain ⟨_, tp, p, t, z, hh⟩ := h.2.1 1 (by simp [ambSents])
 exact ⟨tp, p, var_of gRng hh⟩
theorem below_grow (w : World) (k : Nat) (os : Array Obj) : Below w.heap.size w (Sort.grow (w.drewN k) os) := by
 refine ⟨rfl, rfl, rfl, ?_, fun i hi => ?_⟩
 ·show w.heap.size ≤ (w.heap ++ os).size
  simp
 ·show (w.heap ++ os)[i]? = w.heap[i]?
  rw [Array.getElem?_append_left hi]
theorem itoa_ok (n : Int) (h0 : -9223372036854775808 ≤ n) (h1 : n ≤ 9223372036854775807) (h : List AObj) : ACall Tryd.prog 84 [.int .i64 n] h (fun res h' => res = .str (Lib.itoa n) ∧ h' = h) := by
 refine ACall.ext ⟨_, _, Tryd.func84, rfl, by kernel_rfl⟩ (fun w vs S ha hS hsz hj => ?_) rfl h
 obtain ⟨v, hv, hp⟩ := hj 0 _ rfl
 cases hp
 obtain rfl := args1 hsz hv
 refine (Tryd.strconv_Itoa n h0 h1 w (amb_tab ha)).mono ?_
 rintro e w' ⟨rfl, k, os, rfl⟩
 exact ⟨_, rfl, fun _ _ _ _ => .str _, below_grow _ _ _⟩
theorem hasPrefix_ok (s p : List UInt8) (h : List AObj) : ACall Tryd.prog 67 [.str s, .str p] h (fun res h' => res = .bool (Lib.hasPrefix s p) ∧ h' = h) := by
 refine ACall.ext ⟨_, _, Tryd.func67, rfl, by kernel_rfl⟩ (fun w vs S ha hS hsz hj => ?_) rfl h
 obtain ⟨v, hv, hp⟩ := hj 0 _ rfl
 cases hp
 obtain ⟨v', hv', hp'⟩ := hj 1 _ rfl
 cases hp'
 obtain rfl := args2 hsz hv hv'
 refine (Tryd.strings_HasPrefix ⟨⟨s⟩⟩ ⟨⟨p⟩⟩ w).mono ?_
 rintro e w' ⟨rfl, rfl⟩
 exact ⟨_, rfl, fun _ _ _ _ => .bool _, Below.refl _ _⟩
def pw (s : List UInt8) (lo hi : Int) : Option Int :=
 if 20 < s.length then none else match Lib.atoiAll s with
  | .ok n => if Lib.itoa n = s ∧ lo ≤ n ∧ n ≤ hi then some n else none
  | _ => none
def pwR (o : Option Int) : PV := match o with | some n => .tup [.int .i64 n, .bool true] | none => .tup [.int .i64 0, .bool false]
def pwV (o : Option Int) : Value := match o with | some n => .tuple #[.int .i64 n, .bool true] | none => .tuple #[.int .i64 0, .bool false]
set_option maxRecDepth 100000 in
theorem parseWithin_calls (s : ByteArray) (lo hi : Int) (w : World) (S : Nat → Prop) (ha : amb S w) (hS : ∀ b, S b → b < w.heap.size) :
  Calls Tryd.prog 68 #[.string s, .int .i64 lo, .int .i64 hi] w fun e w' => e = .returned (pwV (pw s.data.toList lo hi)) ∧ Below w.heap.size w w' := by
 have hlen : s.data.toList.length = s.size := rfl
 by_cases hl : 20 < s.size
 ·have e0 : pw s.data.toList lo hi = none := by unfold pw; rw [if_pos (by omega)]
  rw [e0]
  go_enter Tryd.func68, Tryd.ntmps68
  go_wp2
  go_ret2
  exact ⟨rfl, Below.refl _ _⟩
 ·cases h : Lib.atoiAll s.data.toList with
  | range =>
   have e0 : pw s.data.toList lo hi = none := by unfold pw; rw [if_neg (by omega), h]
   rw [e0]
   obtain ⟨tp, p, hv⟩ := amb_rng ha
   go_enter Tryd.func68, Tryd.ntmps68
   go_wp2_with (go_at_call 83; refine (Tryd.strconv_Atoi_range_var s (by omega) h tp p _ hv).mono ?_; rintro e w1 ⟨N, rfl, -, -, hb⟩)
   go_ret2
   exact ⟨rfl, hb⟩
  | ok n =>
   obtain ⟨b0, b1⟩ := Lib.atoiAll_bounds h
   have key : ∀ (r : Value) (w1 w2 : World), ((w1 = w ∨ ∃ t, w1 = Lib.bytesWorld w 5 t) → Below w.heap.size w w1) := fun r w1 w2 hb => by
    rcases hb with rfl | ⟨t, rfl⟩
    ·exact Below.refl _ _
    ·exact Lib.bytesWorld_below _ _ _
   go_enter Tryd.func68, Tryd.ntmps68
   go_wp2_with (go_at_call 83; refine (Tryd.strconv_Atoi_ok s (by omega) n h _).mono ?_; rintro e w1 ⟨rfl, hb⟩)
   go_wp2_with (go_at_call 84; refine (Tryd.strconv_Itoa n b0 b1 _ (amb_tab (ha.keep (fun b hb' => (key undef _ w hb).block b (hS b hb')) (fun _ hb => hb)))).mono ?_; rintro e w2 ⟨rfl, k, os, rfl⟩)
   all_goals go_ret2
   all_goals refine ⟨?_, (key undef _ w hb).trans ((below_grow _ _ _).mono (key undef _ w hb).size)⟩
   all_goals
    have ht : s.toList = s.data.toList := ByteArray.toList_eq s
    have pe : pw s.data.toList lo hi = if Lib.itoa n = s.data.toList ∧ lo ≤ n ∧ n ≤ hi then some n else none := by
     unfold pw; rw [if_neg (by omega), h]
    rw [pe, ← ht]
    clear ht pe h
    split
    ·rename_i hc
     first
      | rfl
      | (exfalso; obtain ⟨c1, c2, c3⟩ := hc; first | omega | contradiction)
    ·rename_i hc
     first
      | rfl
      | (exfalso; apply hc; refine ⟨?_, ?_, ?_⟩ <;> first | assumption | omega)
  | _ =>
   have e0 : pw s.data.toList lo hi = none := by unfold pw; rw [if_neg (by omega), h]
   rw [e0]
   obtain ⟨tp, p, hv⟩ := amb_syn ha
   go_enter Tryd.func68, Tryd.ntmps68
   go_wp2_with (go_at_call 83; refine (Tryd.strconv_Atoi_syntax_var s (by omega) h tp p _ hv).mono ?_; rintro e w1 ⟨N, rfl, -, -, hb⟩)
   go_ret2
   exact ⟨rfl, hb⟩
theorem parseWithin_ok (s : List UInt8) (lo hi : Int) (h : List AObj) : ACall Tryd.prog 68 [.str s, .int .i64 lo, .int .i64 hi] h (fun res h' => res = pwR (pw s lo hi) ∧ h' = h) := by
 refine ACall.ext ⟨_, _, Tryd.func68, rfl, by kernel_rfl⟩ (fun w vs S ha hS hsz hj => ?_) rfl h
 obtain ⟨v0, hv0, hp0⟩ := hj 0 _ rfl
 cases hp0
 obtain ⟨v1, hv1, hp1⟩ := hj 1 _ rfl
 cases hp1
 obtain ⟨v2, hv2, hp2⟩ := hj 2 _ rfl
 cases hp2
 obtain rfl := args3 hsz hv0 hv1 hv2
 refine (parseWithin_calls ⟨⟨s⟩⟩ lo hi w S ha hS).mono ?_
 rintro e w' ⟨rfl, hb⟩
 refine ⟨_, rfl, fun μ h S w => ?_, hb⟩
 show VRep μ h S w (pwR (pw s lo hi)) (pwV (pw s lo hi))
 cases pw s lo hi with
 | some n =>
  refine ⟨_, rfl, rfl, fun j pv hj => ?_⟩
  match j with
  | 0 => cases hj; exact ⟨_, rfl, .int _ _⟩
  | 1 => cases hj; exact ⟨_, rfl, .bool _⟩
  | j + 2 => simp at hj
 | none =>
  refine ⟨_, rfl, rfl, fun j pv hj => ?_⟩
  match j with
  | 0 => cases hj; exact ⟨_, rfl, .int _ _⟩
  | 1 => cases hj; exact ⟨_, rfl, .bool _⟩
  | j + 2 => simp at hj
def m98 (s : Str) (lo hi : Int) : Option (Int × Bool) := match pw s lo hi with | some n => some (n, true) | none => some (0, false)
theorem ok98 {s : Str} {lo hi : Int} {r : Int × Bool} (h : m98 s lo hi = some r) : ACall Tryd.prog 68 [.str s, .int .i64 lo, .int .i64 hi] [] (fun res h => res = .tup [.int .i64 r.1, .bool r.2] ∧ h = []) := by
 refine (parseWithin_ok s lo hi []).mono ?_
 rintro _ _ ⟨rfl, rfl⟩
 unfold m98 at h
 split at h
 ·rename_i n e; rw [e]; cases h; exact ⟨rfl, rfl⟩
 ·rename_i e; rw [e]; cases h; exact ⟨rfl, rfl⟩
def m73 (n : Int) : Option Str := if -9223372036854775808 ≤ n ∧ n ≤ 9223372036854775807 then some (Lib.itoa n) else none
theorem ok73 {n : Int} {r : Str} (h : m73 n = some r) : ACall Tryd.prog 84 [.int .i64 n] [] (fun res h => res = .str r ∧ h = []) := by
 obtain ⟨⟨h0, h1⟩, rfl⟩ := ite_some h
 exact itoa_ok n h0 h1 []
def m66 (s p : Str) : Option Bool := some (Lib.hasPrefix s p)
theorem ok66 {s p : Str} {r : Bool} (h : m66 s p = some r) : ACall Tryd.prog 67 [.str s, .str p] [] (fun res h => res = .bool r ∧ h = []) := by
 cases h
 exact hasPrefix_ok s p []
end Go.Am
