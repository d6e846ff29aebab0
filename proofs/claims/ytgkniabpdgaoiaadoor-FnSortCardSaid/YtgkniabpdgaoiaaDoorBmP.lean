/- Words for the models of functions, and the laws that a walk leans on. -/
import Derived.Test.YtgkniabpdgaoiaaDoorBm14
set_option linter.unusedVariables false
set_option linter.unusedSimpArgs false
namespace Go.Am
open Go Go.RowKit
abbrev Str := List UInt8
abbrev W64 (x : Int) : Int := IntKind.i64.wrap x
theorem bind_some {α β : Type} {x : Option α} {f : α → Option β} {r : β} (h : (x >>= f) = some r) : ∃ a, x = some a ∧ f a = some r := by
 cases x with
 | none => cases h
 | some a => exact ⟨a, rfl, h⟩
def idx {α : Type} [Inhabited α] (l : List α) (i : Int) : Option α := if 0 ≤ i ∧ i < (l.length : Int) then some (l.getD i.toNat default) else none
def sidx (s : Str) (i : Int) : Option UInt8 := if 0 ≤ i ∧ i < (s.length : Int) then some (s.getD i.toNat 0) else none
def sfrom (s : Str) (lo : Int) : Option Str := if 0 ≤ lo ∧ lo ≤ (s.length : Int) then some (s.drop lo.toNat) else none
def scat (a b : Str) : Option Str := if a.length + b.length ≤ 4611686018427387904 then some (a ++ b) else none
def lapp {α : Type} (bytes : Nat) (a b : List α) : Option (List α) := if (a.length + b.length) * bytes ≤ 140737488355328 then some (a ++ b) else none
def must (p : Prop) [Decidable p] : Option Unit := if p then some () else none
theorem ite_some {α : Type} {c : Prop} [Decidable c] {x r : α} (h : (if c then some x else none) = some r) : c ∧ x = r := by
 by_cases hc : c
 ·rw [if_pos hc] at h; exact ⟨hc, Option.some.inj h⟩
 ·rw [if_neg hc] at h; cases h
theorem must_some {p : Prop} [Decidable p] {u : Unit} (h : must p = some u) : p := (ite_some h).1
section
variable {α : Type} {x y r : α}
theorem T_dec {p : Prop} [Decidable p] (hb : decide p = true) (h : (if p then x else y) = r) : x = r := by rw [if_pos (of_decide_eq_true hb)] at h; exact h
theorem F_dec {p : Prop} [Decidable p] (hb : decide p = false) (h : (if p then x else y) = r) : y = r := by rw [if_neg (of_decide_eq_false hb)] at h; exact h
theorem T_beq {β : Type} [BEq β] [LawfulBEq β] {a b : β} [Decidable (a = b)] (hb : (a == b) = true) (h : (if a = b then x else y) = r) : x = r := by rw [if_pos (eq_of_beq hb)] at h; exact h
theorem F_beq {β : Type} [BEq β] [LawfulBEq β] {a b : β} [Decidable (a = b)] (hb : (a == b) = false) (h : (if a = b then x else y) = r) : y = r := by rw [if_neg (ne_of_beq_false hb)] at h; exact h
theorem T_bne {β : Type} [BEq β] [LawfulBEq β] {a b : β} [Decidable (a = b)] (hb : (a != b) = true) (h : (if a = b then x else y) = r) : y = r := F_beq (by simpa [bne] using hb) h
theorem F_bne {β : Type} [BEq β] [LawfulBEq β] {a b : β} [Decidable (a = b)] (hb : (a != b) = false) (h : (if a = b then x else y) = r) : x = r := T_beq (by simpa [bne] using hb) h
theorem T_var {b : Bool} (hb : b = true) (h : (if b = true then x else y) = r) : x = r := by rw [if_pos hb] at h; exact h
theorem F_var {b : Bool} (hb : b = false) (h : (if b = true then x else y) = r) : y = r := by rw [if_neg (by rw [hb]; decide)] at h; exact h
end
theorem not_T {b : Bool} (h : (!b) = false) : b = true := by cases b <;> simp_all
theorem not_F {b : Bool} (h : (!b) = true) : b = false := by cases b <;> simp_all
theorem splitB_t {T F : Prop} (h : T) : splitB true T F := .mk (fun _ => h) (fun h => by cases h)
theorem splitB_f {T F : Prop} (h : F) : splitB false T F := .mk (fun h => by cases h) (fun _ => h)
theorem splitB_kt {b : Bool} {T F : Prop} (hb : b = true) (h : T) : splitB b T F := .mk (fun _ => h) (fun h => by rw [hb] at h; cases h)
section
variable {α : Type} {l m : List α} {lo hi : Int}
theorem lapp_bd {b : Nat} {q : List α} (h : lapp b l m = some q) : (l.length + m.length) * b ≤ 140737488355328 := (ite_some h).1
theorem lapp_len {b : Nat} {q : List α} (h : lapp b l m = some q) : q.length = l.length + m.length := by rw [← (ite_some h).2]; simp
end
def row {α : Type} (c : α → List PV) (l : List α) : Nat → List PV := fun i => (l.map c).getD i []
abbrev sl {α : Type} (sz : Nat) (c : α → List PV) (l : List α) : PV := .slc sz l.length (row c l)
def cI (x : Int) : List PV := [.int .i64 x]
def cInt (k : IntKind) (x : Int) : List PV := [.int k x]
def cB (x : UInt8) : List PV := [.int .u8 x.toNat]
def cT (x : Bool) : List PV := [.bool x]
def cS (x : Str) : List PV := [.str x]
def cL {α : Type} (sz : Nat) (c : α → List PV) (x : List α) : List PV := [sl sz c x]
section
variable {α : Type} {c : α → List PV} {l m : List α} {x x' : α} {i lo hi : Int}
theorem cI_pure (x : Int) : (cI x).all isPure = true := rfl
theorem cInt_pure (k : IntKind) (x : Int) : (cInt k x).all isPure = true := rfl
theorem cB_pure (x : UInt8) : (cB x).all isPure = true := rfl
theorem cT_pure (x : Bool) : (cT x).all isPure = true := rfl
theorem cS_pure (x : Str) : (cS x).all isPure = true := rfl
theorem cL_pure {β : Type} (sz : Nat) (d : β → List PV) (x : List β) : (cL sz d x).all isPure = true := rfl
theorem row_lt {k : Nat} (h : k < l.length) : row c l k = c l[k] := by unfold row; simp [List.getD_eq_getElem?_getD, h]
theorem row_some {k : Nat} (h : l[k]? = some x) : row c l k = c x := by unfold row; simp [List.getD_eq_getElem?_getD, h]
theorem row_pure (hp : ∀ x, (c x).all isPure = true) (k : Nat) : (row c l k).all isPure = true := by
 by_cases h : k < l.length
 ·rw [row_lt h]; exact hp _
 ·unfold row; simp [List.getD_eq_getElem?_getD, List.getElem?_eq_none (show l.length ≤ k by omega)]
theorem sidx_bd {s : Str} {b : UInt8} (h : sidx s i = some b) : 0 ≤ i ∧ i < (s.length : Int) := (ite_some h).1
theorem sidx_at {s : Str} {b : UInt8} (h : sidx s i = some b) : s.getD i.toNat 0 = b := (ite_some h).2
theorem sfrom_bd {s t : Str} (h : sfrom s lo = some t) : 0 ≤ lo ∧ lo ≤ (s.length : Int) := (ite_some h).1
theorem sfrom_at {s t : Str} (h : sfrom s lo = some t) : s.drop lo.toNat = t := (ite_some h).2
def Shows (c : α → List PV) (f : Nat → List PV) (off : Nat) (l : List α) : Prop := ∀ i, i < l.length → f (off + i) = row c l i
theorem shows_all : Shows c (row c l) 0 l := fun i _ => by rw [Nat.zero_add]
theorem lapp_row {b : Nat} {q : List α} {f g : Nat → List PV} {off : Nat} (h : lapp b l m = some q) (hf : Shows c f off l) (hg : ∀ i, i < m.length → g i = row c m i) :
  ∀ i, i < q.length → CLe (bif Nat.blt i l.length then f (off + i) else g (i - l.length)) (row c q i) := fun i hi' => by
 have hl := lapp_len h
 have e : q = l ++ m := (ite_some h).2.symm
 subst e
 by_cases hil : i < l.length
 ·rw [bif_lt hil, hf i hil, row_lt hi', row_lt hil, List.getElem_append_left hil]; exact CLe.refl _
 ·rw [bif_ge (by omega), hg _ (by omega), row_lt hi', row_lt (by omega), List.getElem_append_right (by omega)]; exact CLe.refl _
theorem src_own {f : Nat → List PV} {off : Nat} (hs : Shows c f off m) : ∀ i, i < m.length → f (off + i) = row c m i := hs
def CLL : List (List PV) → List (List PV) → Prop
 | [], [] => True
 | a :: l, b :: r => CLe a b ∧ CLL l r
 | _, _ => False
theorem cll_cons {a b lit : List PV} {l r : List (List PV)} (e : b = lit) (h : CLe a lit) (t : CLL l r) : CLL (a :: l) (b :: r) := ⟨by rw [e]; exact h, t⟩
theorem cll_refl : ∀ {l r : List (List PV)}, l = r → CLL l r
 | [], _, rfl => trivial
 | a :: l, _, rfl => ⟨CLe.refl _, cll_refl rfl⟩
theorem cll_get : ∀ {l r : List (List PV)}, CLL l r → ∀ i, CLe (l.getD i []) (r.getD i [])
 | [], [], _, i => by simp; exact trivial
 | a :: l, b :: r, h, 0 => h.1
 | a :: l, b :: r, h, i + 1 => by simpa using cll_get h.2 i
 | [], _ :: _, h, _ => h.elim
 | _ :: _, [], h, _ => h.elim
theorem row_lit (c : α → List PV) (l : List α) {n : Nat} {cs : List (List PV)} (hn : n = l.length) (h : CLL cs (l.map c)) : ∀ i, i < n → CLe (cs.getD i []) (row c l i) := fun i _ => cll_get h i
theorem one_set {c0 cv new : List PV} {off : Nat} {f : Nat → List PV} (h : new = listSet c0 off cv) : ∀ j, j < 1 → CLe (fset f 0 (listSet c0 off cv) j) ((fun _ => new) j) := fun j hj => by
 obtain rfl : j = 0 := by omega
 subst h
 exact CLe.refl _
end
section
variable {α : Type} [Inhabited α] {c : α → List PV} {l m : List α} {x x' : α} {i lo hi : Int}
theorem idx_bd (h : idx l i = some x) : 0 ≤ i ∧ i < (l.length : Int) := (ite_some h).1
theorem idx_at (h : idx l i = some x) : l[i.toNat]? = some x := by
 have hb := idx_bd h
 have hl : i.toNat < l.length := by omega
 rw [← (ite_some h).2, List.getD_eq_getElem?_getD, List.getElem?_eq_getElem hl]; rfl
theorem idx_row (h : idx l i = some x) : row c l i.toNat = c x := row_some (idx_at h)
end
section
variable {h η : List AObj} {k : List Nat}
theorem fz_pure {pv : PV} (hp : isPure pv = true) : Fz h η k pv pv := by
 cases pv with
 | int k n => exact .int _ _
 | bool b => exact .bool _
 | str s => exact .str _
 | nils => exact .nils
 | slc sz n f => exact .slc _ _ _ _ (fun _ _ => rfl)
 | pptr cs => exact .pptr _
 | fn f => exact .fn _
 | _ => cases hp
theorem fzl_pure : ∀ {l : List PV}, l.all isPure = true → FzL h η k l l
 | [], _ => trivial
 | a :: l, hp => by
  simp only [List.all_cons, Bool.and_eq_true] at hp
  exact ⟨fz_pure hp.1, fzl_pure hp.2⟩
def CloL (h η : List AObj) (k : List Nat) : List (Nat × Nat) → List (Nat × Nat) → Prop
 | [], [] => True
 | p :: r, p' :: r' => (k[p'.1]? = some p.1 ∧ (∃ sz n e f, h[p.1]? = some (AObj.row p.2 sz n e f)) ∧ ∃ sz n e f, η[p'.1]? = some (AObj.row p'.2 sz n e f) ∧ 0 < n) ∧ CloL h η k r r'
 | _, _ => False
theorem CloL.get : ∀ (l l' : List (Nat × Nat)), CloL h η k l l' → l'.length = l.length ∧ ∀ (j : Nat) (p p' : Nat × Nat), l[j]? = some p → l'[j]? = some p' →
  k[p'.1]? = some p.1 ∧ (∃ sz n e f, h[p.1]? = some (AObj.row p.2 sz n e f)) ∧ ∃ sz n e f, η[p'.1]? = some (AObj.row p'.2 sz n e f) ∧ 0 < n
 | [], [], _ => ⟨rfl, fun j p p' hj _ => by simp at hj⟩
 | [], _ :: _, hh => hh.elim
 | _ :: _, [], hh => hh.elim
 | q :: r, q' :: r', hh => by
  obtain ⟨h1, h2⟩ := hh
  obtain ⟨q1, q2⟩ := CloL.get r r' h2
  refine ⟨by simp [q1], fun j p p' hj hj' => ?_⟩
  cases j with
  | zero =>
   simp at hj hj'
   subst hj hj'
   exact h1
  | succ j => exact q2 j p p' (by simpa using hj) (by simpa using hj')
theorem fz_frz {α : Type} {c : α → List PV} (hp : ∀ x, (c x).all isPure = true) {id g sz n off : Nat} {e : TypeId} {f : Nat → List PV} {l : List α} (hk : id ∉ k) (ho : h[id]? = some (AObj.row g sz n e f)) (hs : Shows c f off l) :
  Fz h η k (.own id g off l.length) (sl sz c l) :=
 .frz_eq hk ho rfl rfl (fun i hi => row_pure hp i) (fun i hi => by rw [hs i hi]; exact fzl_pure (row_pure hp i))
theorem fz_frz2 {α : Type} {c : α → List PV} (hp : ∀ x, (c x).all isPure = true) {id g sz n off len : Nat} {e : TypeId} {f : Nat → List PV} {l : List α} (hk : id ∉ k) (ho : h[id]? = some (AObj.row g sz n e f)) (hs : Shows c f off l) (hl : len = l.length) :
  Fz h η k (.own id g off len) (sl sz c l) := by subst hl; exact fz_frz hp hk ho hs
end
theorem shiftO_row {α : Type} {c : α → List PV} (hp : ∀ x, (c x).all isPure = true) (N g sz n : Nat) (e : TypeId) (l : List α) : shiftO N (.row g sz n e (row c l)) = .row g sz n e (row c l) := by
 suffices e : (fun i => (row c l i).map (shift1 N)) = row c l by unfold shiftO; simp only [e]
 funext i
 have h := row_pure (l := l) hp i
 generalize row c l i = q at h
 induction q with
 | nil => rfl
 | cons a r ih =>
  simp only [List.all_cons, Bool.and_eq_true] at h
  rw [List.map_cons, ih h.2]
  cases a <;> first | rfl | cases h.1
theorem renO_row {α : Type} {c : α → List PV} (hp : ∀ x, (c x).all isPure = true) (σ : Nat → Nat) (g sz n : Nat) (e : TypeId) (l : List α) : renO σ (.row g sz n e (row c l)) = .row g sz n e (row c l) := by
 suffices e : (fun i => (row c l i).map (ren1 σ)) = row c l by unfold renO; simp only [e]
 funext i
 have h := row_pure (l := l) hp i
 generalize row c l i = q at h
 induction q with
 | nil => rfl
 | cons a r ih =>
  simp only [List.all_cons, Bool.and_eq_true] at h
  rw [List.map_cons, ih h.2]
  cases a <;> first | rfl | cases h.1
theorem ACall.pure0 {P : Program} {f : FuncId} {args : List PV} {r0 : PV} (hA : ACall P f args [] (fun res h => res = r0 ∧ h = [])) (h : List AObj) (hp : args.all pureA = true) (hr : ∀ n, shiftV n r0 = r0) :
  ACall P f args h (fun res h' => res = r0 ∧ h' = h) :=
 (hA.frame h hp).mono (by rintro _ _ ⟨_, _, ⟨rfl, rfl⟩, rfl, rfl⟩; exact ⟨hr _, by simp⟩)
theorem ACall.snap0 {P : Program} {f : FuncId} {args args' : List PV} {r0 : PV} (hA : ACall P f args' [] (fun res h => res = r0 ∧ h = [])) (h : List AObj) (hz : FzL h [] [] args args') (hn : args'.all notTup = true) (hf : flatV r0 = true) (hr : ∀ n, shiftV n r0 = r0) :
  ACall P f args h (fun res h' => res = r0 ∧ h' = h) :=
 (hA.snapL h hz hn (by rintro _ _ ⟨rfl, rfl⟩; exact ⟨hf, by simp⟩)).mono (by rintro _ _ ⟨_, _, ⟨rfl, rfl⟩, rfl, rfl⟩; exact ⟨hr _, by simp⟩)
section
variable {κ β : Type} [DecidableEq κ]
def mfind : List (κ × β) → κ → Option β
 | [], _ => none
 | (a, b) :: r, k => if k = a then some b else mfind r k
def mgd (l : List (κ × β)) (k : κ) (z : β) : β := (mfind l k).getD z
def mput : List (κ × β) → κ → β → List (κ × β)
 | [], k, v => [(k, v)]
 | (a, b) :: r, k, v => if k = a then (k, v) :: r else (a, b) :: mput r k v
def mc (c : κ → PV) (d : β → PV) (p : κ × β) : List PV := [c p.1, d p.2]
end
end Go.Am
