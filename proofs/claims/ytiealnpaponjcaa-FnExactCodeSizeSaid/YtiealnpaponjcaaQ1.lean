/- The trees of values; what is known of their types. -/
import Derived.Test.YtiealnpaponjcaaAm14
import Derived.Test.YtiealnpaponjcaaProg
set_option linter.unusedVariables false
set_option linter.unusedSimpArgs false
namespace Go.Am
open Go Go.RowKit Go.Proofs

def zKey : List PV := [.bool false, .int .i64 0, .str []]
def zVal : List PV := [.int .i64 0, .int .i64 0, .str [], .int .i64 0, .nils]
def zIns : List PV := [.int .i64 0, .int .i64 0, .int .i64 0, .str [], .str []]
def tab : Tab := mkTab [(3, .int .i64), (4, .bool), (5, .int .u8), (9, .str), (22, .slice 88 8 96 (zKey ++ zVal)), (30, .slice 91 8 96 (zKey ++ zVal)),
  (24, .struct 5 [(0, 1, false), (1, 1, false), (2, 1, false), (3, 1, false), (4, 1, false)] zVal), (32, .struct 5 [(0, 1, false), (1, 1, false), (2, 1, false), (3, 1, false), (4, 1, false)] zVal),
  (86, .struct 3 [(0, 1, false), (1, 1, false), (2, 1, false)] zKey), (89, .struct 3 [(0, 1, false), (1, 1, false), (2, 1, false)] zKey),
  (88, .struct 8 [(0, 3, true), (3, 5, true)] (zKey ++ zVal)), (91, .struct 8 [(0, 3, true), (3, 5, true)] (zKey ++ zVal)),
  (27, .struct 5 [(0, 1, false), (1, 1, false), (2, 1, false), (3, 1, false), (4, 1, false)] zIns), (37, .struct 5 [(0, 1, false), (1, 1, false), (2, 1, false), (3, 1, false), (4, 1, false)] zIns)]
theorem tab_ok : TabOk Try.prog tab := tabOk (by kernel_rfl)
theorem mixed : Try.prog.follows .mixedOrders = true := by kernel_rfl

structure K where
  text : Bool
  num : Int
  str : List UInt8
/-- A value: its kind, number, text, next index, and its items. -/
inductive V where
  | none
  | mk (kind num : Int) (str : List UInt8) (next : Int) (n : Nat) (key : Nat → K) (val : Nat → V)

abbrev K.cells (k : K) : List PV := [.bool k.text, .int .i64 k.num, .str k.str]
def V.kind : V → Int | .none => 0 | .mk a _ _ _ _ _ _ => a
def V.num : V → Int | .none => 0 | .mk _ a _ _ _ _ _ => a
def V.str : V → List UInt8 | .none => [] | .mk _ _ a _ _ _ _ => a
def V.next : V → Int | .none => 0 | .mk _ _ _ a _ _ _ => a
def V.n : V → Nat | .none => 0 | .mk _ _ _ _ a _ _ => a
def V.key : V → Nat → K | .none => fun _ => ⟨false, 0, []⟩ | .mk _ _ _ _ _ a _ => a
def V.val : V → Nat → V | .none => fun _ => .none | .mk _ _ _ _ _ _ a => a
/-- The cells of item i. -/
def V.items : V → Nat → List PV
  | .none => fun _ => []
  | .mk _ _ _ _ _ key val => fun i => [.bool (key i).text, .int .i64 (key i).num, .str (key i).str, .int .i64 (val i).kind, .int .i64 (val i).num, .str (val i).str, .int .i64 (val i).next, .slc 8 (val i).n (val i).items]
abbrev V.cells (v : V) : List PV := [.int .i64 v.kind, .int .i64 v.num, .str v.str, .int .i64 v.next, .slc 8 v.n v.items]
abbrev ecells (k : K) (v : V) : List PV := [.bool k.text, .int .i64 k.num, .str k.str, .int .i64 v.kind, .int .i64 v.num, .str v.str, .int .i64 v.next, .slc 8 v.n v.items]

/-- Lengths that a machine can hold. -/
def V.Ok : V → Prop
  | .none => False
  | .mk _ _ str _ n key val => str.length ≤ 9223372036854775807 ∧ n ≤ 9223372036854775807 ∧ ∀ i, i < n → (key i).str.length ≤ 9223372036854775807 ∧ (val i).Ok

/-! ### Equal trees -/
theorem eqKey_ok (k : K) : ACall Try.prog 60 [.agg k.cells, .agg k.cells] [] (fun res h => res = .bool true ∧ h = []) := by
  refine ACall.of_vc tab_ok mixed Try.func60 rfl (by kernel_rfl) _ _ _ rfl (by kernel_rfl) ?_
  refine ⟨rfl, rfl, rfl, rfl, splitB.mk (fun h => absurd h (by simp)) (fun _ => ?_)⟩
  refine ⟨rfl, rfl, rfl, rfl, splitB.mk (fun h => absurd h (by simp)) (fun _ => ?_)⟩
  refine ⟨rfl, rfl, rfl, rfl, splitB.mk (fun h => absurd h (by simp)) (fun _ => ?_)⟩
  exact ⟨[], .bool true, [], by simp, Nat.zero_le _, .bool _, trivial, rfl, rfl⟩

abbrev EqV (v : V) : Prop := ACall Try.prog 11 [.agg v.cells, .agg v.cells] [] (fun res h => res = .bool true ∧ h = [])

theorem eqEntry_ok (k : K) (v : V) (hv : EqV v) : ACall Try.prog 49 [.agg (ecells k v), .agg (ecells k v)] [] (fun res h => res = .bool true ∧ h = []) := by
  refine ACall.of_vc tab_ok mixed Try.func49 rfl (by kernel_rfl) _ _ _ rfl (by kernel_rfl) ?_
  refine ⟨rfl, rfl, rfl, rfl, ?_⟩
  refine ⟨_, (eqKey_ok k).frame _ rfl, ?_⟩
  rintro _ _ ⟨_, _, ⟨rfl, rfl⟩, rfl, rfl⟩
  refine splitB.mk (fun h => absurd h (by decide)) (fun _ => ?_)
  refine ⟨rfl, rfl, rfl, rfl, ?_⟩
  refine ⟨_, hv.frame _ rfl, ?_⟩
  rintro _ _ ⟨_, _, ⟨rfl, rfl⟩, rfl, rfl⟩
  refine splitB.mk (fun h => absurd h (by decide)) (fun _ => ?_)
  exact ⟨[], .bool true, [], by simp, Nat.zero_le _, .bool _, trivial, rfl, rfl⟩

theorem fz_ecells {h η : List AObj} {k : List Nat} (a : K) (v : V) : Fz h η k (.agg (ecells a v)) (.agg (ecells a v)) :=
  .agg_l ⟨.bool _, .int _ _, .str _, .int _ _, .int _ _, .str _, .int _ _, .slc_eq rfl (fun _ _ => rfl), trivial⟩

theorem eqEntryS_ok (n : Nat) (hn : n ≤ 9223372036854775807) (key : Nat → K) (val : Nat → V) (hv : ∀ i, i < n → EqV (val i)) :
    ACall Try.prog 30 [.slc 8 n (fun i => ecells (key i) (val i)), .slc 8 n (fun i => ecells (key i) (val i))] [] (fun res h => res = .bool true ∧ h = []) := by
  refine ACall.of_vc tab_ok mixed Try.func30 rfl (by kernel_rfl) _ _ _ rfl (by kernel_rfl) ?_
  refine splitB.mk (fun h => absurd h (by simp)) (fun h => ?_)
  refine LoopVC.mk Nat (fun k => [(0, .slc 8 n (fun i => ecells (key i) (val i))), (1, .slc 8 n (fun i => ecells (key i) (val i))), (5, .int .i64 k)])
    (fun k => []) (fun k => k ≤ n) (fun k => n - k) 0 (Nat.zero_le _) ?_ (fun k hk => ?_)
  · exact ⟨[], by simp, Nat.zero_le _, ⟨.slc_eq rfl (fun _ _ => rfl), .slc_eq rfl (fun _ _ => rfl), .int_eq rfl, trivial⟩, trivial⟩
  · refine splitB.mk (fun h => ?_) (fun h => ?_)
    · have h := of_decide_eq_true h
      have hkn : k < n := by omega
      refine .quiet ⟨⟨by omega, by omega⟩, ⟨by omega, by omega⟩, [.agg (ecells (key k) (val k)), .agg (ecells (key k) (val k))], .bool true, ⟨fz_ecells _ _, fz_ecells _ _, trivial⟩, rfl, (eqEntry_ok _ _ (hv k hkn)).mono (fun _ _ h => h.1), ?_⟩
      refine splitB.mk (fun h => absurd h (by decide)) (fun _ => ?_)
      exact ⟨k + 1, by omega, by omega, [], by simp, Nat.zero_le _, ⟨.slc_eq rfl (fun _ _ => rfl), .slc_eq rfl (fun _ _ => rfl), .int_eq (by rw [w64] <;> omega), trivial⟩, trivial⟩
    · exact ⟨[], .bool true, [], by simp, Nat.zero_le _, .bool _, trivial, rfl, rfl⟩

theorem eqValue_ok : ∀ v : V, v.Ok → EqV v
  | .none, ok => ok.elim
  | .mk kind num str next n key val, ok => by
    have ih : ∀ i, i < n → EqV (val i) := fun i hi => eqValue_ok (val i) (ok.2.2 i hi).2
    refine ACall.of_vc tab_ok mixed Try.func11 rfl (by kernel_rfl) _ _ _ rfl (by kernel_rfl) ?_
    refine ⟨rfl, rfl, rfl, rfl, splitB.mk (fun h => absurd h (by simp)) (fun _ => ?_)⟩
    refine ⟨rfl, rfl, rfl, rfl, splitB.mk (fun h => absurd h (by simp)) (fun _ => ?_)⟩
    refine ⟨rfl, rfl, rfl, rfl, splitB.mk (fun h => absurd h (by simp)) (fun _ => ?_)⟩
    refine ⟨rfl, rfl, rfl, rfl, splitB.mk (fun h => absurd h (by simp)) (fun _ => ?_)⟩
    refine ⟨rfl, rfl, rfl, rfl, ?_⟩
    refine ⟨_, (eqEntryS_ok n ok.2.1 key val ih).frame _ rfl, ?_⟩
    rintro _ _ ⟨_, _, ⟨rfl, rfl⟩, rfl, rfl⟩
    refine splitB.mk (fun h => absurd h (by decide)) (fun _ => ?_)
    exact ⟨[], .bool true, [], by simp, Nat.zero_le _, .bool _, trivial, rfl, rfl⟩

end Go.Am
