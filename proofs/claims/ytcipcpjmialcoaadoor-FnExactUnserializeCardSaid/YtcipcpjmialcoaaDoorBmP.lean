/- Words for the models of functions, and the laws that a walk leans on. -/
import Derived.Test.YtcipcpjmialcoaaDoorBm14
set_option linter.unusedVariables false
set_option linter.unusedSimpArgs false
namespace Go.Am
open Go Go.RowKit
abbrev Str := List UInt8
abbrev W64 (x : Int) : Int := IntKind.i64.wrap x
theorem bind_some {α β : Type} {x : Option α} {f : α → Option β} {r : β} (h : (x >>= f) = some r) : ∃ a, x = some a ∧ f a = some r := by
 cases x with
 | none => cases h
 | some a => exact ⟨a, rfl, h⟩
def idx {α : Type} [Inhabited α] (l : List α) (i : Int) : Option α := if 0 ≤ i ∧ i < (l.length : Int) then some (l.getD i.toNat default) else none
def sidx (s : Str) (i : Int) : Option UInt8 := if 0 ≤ i ∧ i < (s.length : Int) then some (s.getD i.toNat 0) else none
def ssub (s : Str) (lo hi : Int) : Option Str := if 0 ≤ lo ∧ lo ≤ hi ∧ hi ≤ (s.length : Int) then some ((s.take hi.toNat).drop lo.toNat) else none
def sfrom (s : Str) (lo : Int) : Option Str := if 0 ≤ lo ∧ lo ≤ (s.length : Int) then some (s.drop lo.toNat) else none
def sto (s : Str) (hi : Int) : Option Str := if 0 ≤ hi ∧ hi ≤ (s.length : Int) then some (s.take hi.toNat) else none
def lsub {α : Type} (s : List α) (lo hi : Int) : Option (List α) := if 0 ≤ lo ∧ lo ≤ hi ∧ hi ≤ (s.length : Int) then some ((s.take hi.toNat).drop lo.toNat) else none
def lfrom {α : Type} (s : List α) (lo : Int) : Option (List α) := if 0 ≤ lo ∧ lo ≤ (s.length : Int) then some (s.drop lo.toNat) else none
def lto {α : Type} (s : List α) (hi : Int) : Option (List α) := if 0 ≤ hi ∧ hi ≤ (s.length : Int) then some (s.take hi.toNat) else none
def scat (a b : Str) : Option Str := if a.length + b.length ≤ 4611686018427387904 then some (a ++ b) else none
def lapp {α : Type} (bytes : Nat) (a b : List α) : Option (List α) := if (a.length + b.length) * bytes ≤ 140737488355328 then some (a ++ b) else none
def lnew {α : Type} (bytes : Nat) (b : List α) : Option (List α) := if b.length * bytes ≤ 140737488355328 then some b else none
def lmake {α : Type} [Inhabited α] (bytes : Nat) (n m : Int) : Option (List α) := if 0 ≤ n ∧ n ≤ m ∧ m ≤ 4611686018427387904 ∧ m.toNat * bytes ≤ 140737488355328 then some (List.replicate n.toNat default) else none
def must (p : Prop) [Decidable p] : Option Unit := if p then some () else none
theorem ite_some {α : Type} {c : Prop} [Decidable c] {x r : α} (h : (if c then some x else none) = some r) : c ∧ x = r := by
 by_cases hc : c
 ·rw [if_pos hc] at h; exact ⟨hc, Option.some.inj h⟩
 ·rw [if_neg hc] at h; cases h
theorem must_some {p : Prop} [Decidable p] {u : Unit} (h : must p = some u) : p := (ite_some h).1
section
variable {α : Type} {x y r : α}
theorem T_dec {p : Prop} [Decidable p] (hb : decide p = true) (h : (if p then x else y) = r) : x = r := by rw [if_pos (of_decide_eq_true hb)] at h; exact h
theorem F_dec {p : Prop} [Decidable p] (hb : decide p = false) (h : (if p then x else y) = r) : y = r := by rw [if_neg (of_decide_eq_false hb)] at h; exact h
theorem T_beq {β : Type} [BEq β] [LawfulBEq β] {a b : β} [Decidable (a = b)] (hb : (a == b) = true) (h : (if a = b then x else y) = r) : x = r := by rw [if_pos (eq_of_beq hb)] at h; exact h
theorem F_beq {β : Type} [BEq β] [LawfulBEq β] {a b : β} [Decidable (a = b)] (hb : (a == b) = false) (h : (if a = b then x else y) = r) : y = r := by rw [if_neg (ne_of_beq_false hb)] at h; exact h
theorem T_bne {β : Type} [BEq β] [LawfulBEq β] {a b : β} [Decidable (a = b)] (hb : (a != b) = true) (h : (if a = b then x else y) = r) : y = r := F_beq (by simpa [bne] using hb) h
theorem F_bne {β : Type} [BEq β] [LawfulBEq β] {a b : β} [Decidable (a = b)] (hb : (a != b) = false) (h : (if a = b then x else y) = r) : x = r := T_beq (by simpa [bne] using hb) h
theorem T_var {b : Bool} (hb : b = true) (h : (if b = true then x else y) = r) : x = r := by rw [if_pos hb] at h; exact h
theorem F_var {b : Bool} (hb : b = false) (h : (if b = true then x else y) = r) : y = r := by rw [if_neg (by rw [hb]; decide)] at h; exact h
end
theorem not_T {b : Bool} (h : (!b) = false) : b = true := by cases b <;> simp_all
theorem not_F {b : Bool} (h : (!b) = true) : b = false := by cases b <;> simp_all
theorem splitB_t {T F : Prop} (h : T) : splitB true T F := .mk (fun _ => h) (fun h => by cases h)
theorem splitB_f {T F : Prop} (h : F) : splitB false T F := .mk (fun h => by cases h) (fun _ => h)
theorem splitB_kt {b : Bool} {T F : Prop} (hb : b = true) (h : T) : splitB b T F := .mk (fun _ => h) (fun h => by rw [hb] at h; cases h)
theorem splitB_kf {b : Bool} {T F : Prop} (hb : b = false) (h : F) : splitB b T F := .mk (fun h => by rw [hb] at h; cases h) (fun _ => h)
section
variable {α : Type} {l m : List α} {lo hi : Int}
theorem lsub_bd (h : lsub l lo hi = some m) : 0 ≤ lo ∧ lo ≤ hi ∧ hi ≤ (l.length : Int) := (ite_some h).1
theorem lfrom_bd (h : lfrom l lo = some m) : 0 ≤ lo ∧ lo ≤ (l.length : Int) := (ite_some h).1
theorem lfrom_len (h : lfrom l lo = some m) : m.length = l.length - lo.toNat := by rw [← (ite_some h).2]; simp
theorem lto_bd (h : lto l hi = some m) : 0 ≤ hi ∧ hi ≤ (l.length : Int) := (ite_some h).1
theorem lapp_bd {b : Nat} {q : List α} (h : lapp b l m = some q) : (l.length + m.length) * b ≤ 140737488355328 := (ite_some h).1
theorem lapp_len {b : Nat} {q : List α} (h : lapp b l m = some q) : q.length = l.length + m.length := by rw [← (ite_some h).2]; simp
theorem lnew_bd {b : Nat} {q : List α} (h : lnew b m = some q) : m.length * b ≤ 140737488355328 := (ite_some h).1
theorem lnew_at {b : Nat} {q : List α} (h : lnew b m = some q) : m = q := (ite_some h).2
theorem lsub_len (h : lsub l lo hi = some m) : m.length = hi.toNat - lo.toNat := by
 have hb := lsub_bd h
 rw [← (ite_some h).2]; simp; omega
theorem lto_le (h : lto l hi = some m) : m.length ≤ l.length := by
 have h1 := (ite_some h).1
 have h2 := (ite_some h).2
 subst h2
 rw [List.length_take]
 exact Nat.min_le_right _ _
theorem lto_len (h : lto l hi = some m) : m.length = hi.toNat := by
 have hb := lto_bd h
 rw [← (ite_some h).2]; simp; omega
end
def row {α : Type} (c : α → List PV) (l : List α) : Nat → List PV := fun i => (l.map c).getD i []
abbrev sl {α : Type} (sz : Nat) (c : α → List PV) (l : List α) : PV := .slc sz l.length (row c l)
def cI (x : Int) : List PV := [.int .i64 x]
def cInt (k : IntKind) (x : Int) : List PV := [.int k x]
def cB (x : UInt8) : List PV := [.int .u8 x.toNat]
def cT (x : Bool) : List PV := [.bool x]
def cS (x : Str) : List PV := [.str x]
def cL {α : Type} (sz : Nat) (c : α → List PV) (x : List α) : List PV := [sl sz c x]
section
variable {α : Type} {c : α → List PV} {l m : List α} {x x' : α} {i lo hi : Int}
theorem cI_pure (x : Int) : (cI x).all isPure = true := rfl
theorem cInt_pure (k : IntKind) (x : Int) : (cInt k x).all isPure = true := rfl
theorem cB_pure (x : UInt8) : (cB x).all isPure = true := rfl
theorem cT_pure (x : Bool) : (cT x).all isPure = true := rfl
theorem cS_pure (x : Str) : (cS x).all isPure = true := rfl
theorem cL_pure {β : Type} (sz : Nat) (d : β → List PV) (x : List β) : (cL sz d x).all isPure = true := rfl
theorem cB_wrap (x : Int) : cB (UInt8.ofNat (IntKind.u8.wrap x).toNat) = [.int .u8 (IntKind.u8.wrap x)] := by
 have h : 0 ≤ IntKind.u8.wrap x ∧ IntKind.u8.wrap x < 256 := by
  have := IntKind.wrap_u8 x
  omega
 unfold cB
 congr 2
 rw [UInt8.toNat_ofNat']
 omega
theorem row_lt {k : Nat} (h : k < l.length) : row c l k = c l[k] := by unfold row; simp [List.getD_eq_getElem?_getD, h]
theorem row_some {k : Nat} (h : l[k]? = some x) : row c l k = c x := by unfold row; simp [List.getD_eq_getElem?_getD, h]
theorem row_pure (hp : ∀ x, (c x).all isPure = true) (k : Nat) : (row c l k).all isPure = true := by
 by_cases h : k < l.length
 ·rw [row_lt h]; exact hp _
 ·unfold row; simp [List.getD_eq_getElem?_getD, List.getElem?_eq_none (show l.length ≤ k by omega)]
theorem row_bytes {s : Str} {k : Nat} (h : k < s.length) : row cB s k = [.int .u8 (s.getD k 0).toNat] := by
 rw [row_lt h]; simp [cB, List.getD_eq_getElem?_getD, h]
theorem sidx_bd {s : Str} {b : UInt8} (h : sidx s i = some b) : 0 ≤ i ∧ i < (s.length : Int) := (ite_some h).1
theorem sidx_at {s : Str} {b : UInt8} (h : sidx s i = some b) : s.getD i.toNat 0 = b := (ite_some h).2
theorem ssub_bd {s t : Str} (h : ssub s lo hi = some t) : 0 ≤ lo ∧ lo ≤ hi ∧ hi ≤ (s.length : Int) := (ite_some h).1
theorem ssub_at {s t : Str} (h : ssub s lo hi = some t) : (s.take hi.toNat).drop lo.toNat = t := (ite_some h).2
theorem sfrom_bd {s t : Str} (h : sfrom s lo = some t) : 0 ≤ lo ∧ lo ≤ (s.length : Int) := (ite_some h).1
theorem sfrom_at {s t : Str} (h : sfrom s lo = some t) : s.drop lo.toNat = t := (ite_some h).2
theorem sto_bd {s t : Str} (h : sto s hi = some t) : 0 ≤ hi ∧ hi ≤ (s.length : Int) := (ite_some h).1
theorem sto_at {s t : Str} (h : sto s hi = some t) : s.take hi.toNat = t := (ite_some h).2
theorem scat_bd {s t u : Str} (h : scat s t = some u) : s.length + t.length ≤ 4611686018427387904 := (ite_some h).1
theorem scat_at {s t u : Str} (h : scat s t = some u) : s ++ t = u := (ite_some h).2
theorem lsub_row (h : lsub l lo hi = some m) : ∀ i, i < m.length → row c m i = row c l (lo.toNat + i) := fun i hi' => by
 have hl := lsub_len h
 have hb := lsub_bd h
 have hm : l[lo.toNat + i]? = some m[i] := by
  rw [← List.getElem?_eq_getElem hi', ← (ite_some h).2, List.getElem?_drop, List.getElem?_take, if_pos (by omega)]
 rw [row_lt hi', row_some hm]
theorem lfrom_row (h : lfrom l lo = some m) : ∀ i, i < m.length → row c m i = row c l (lo.toNat + i) := fun i hi' => by
 have hm : l[lo.toNat + i]? = some m[i] := by
  rw [← List.getElem?_eq_getElem hi', ← (ite_some h).2, List.getElem?_drop]
 rw [row_lt hi', row_some hm]
theorem lto_row (h : lto l hi = some m) : ∀ i, i < m.length → row c m i = row c l i := fun i hi' => by
 have hl := lto_len h
 have hm : l[i]? = some m[i] := by
  rw [← List.getElem?_eq_getElem hi', ← (ite_some h).2, List.getElem?_take, if_pos (by omega)]
 rw [row_lt hi', row_some hm]
def Shows (c : α → List PV) (f : Nat → List PV) (off : Nat) (l : List α) : Prop := ∀ i, i < l.length → f (off + i) = row c l i
theorem shows_all : Shows c (row c l) 0 l := fun i _ => by rw [Nat.zero_add]
theorem shows_lsub {f : Nat → List PV} {off : Nat} (hs : Shows c f off l) (h : lsub l lo hi = some m) : Shows c f (off + lo.toNat) m := fun i hi' => by
 have hb := lsub_bd h
 have hl := lsub_len h
 rw [lsub_row h i hi', Nat.add_assoc]; exact hs _ (by omega)
theorem shows_lfrom {f : Nat → List PV} {off : Nat} (hs : Shows c f off l) (h : lfrom l lo = some m) : Shows c f (off + lo.toNat) m := fun i hi' => by
 have hb := lfrom_bd h
 have hl := lfrom_len h
 rw [lfrom_row h i hi', Nat.add_assoc]; exact hs _ (by omega)
theorem shows_lto {f : Nat → List PV} {off : Nat} (hs : Shows c f off l) (h : lto l hi = some m) : Shows c f off m := fun i hi' => by
 have hb := lto_bd h
 have hl := lto_len h
 rw [lto_row h i hi']; exact hs _ (by omega)
theorem bytes_shows {s : Str} {f : Nat → List PV} {off n : Nat} (hs : Shows cB f off s) (hn : s.length = n) : ∀ i, i < n → f (off + i) = [.int .u8 (s.getD i 0).toNat] := fun i hi => by
 subst hn
 rw [hs i hi]; exact row_bytes hi
theorem lapp_row {b : Nat} {q : List α} {f g : Nat → List PV} {off : Nat} (h : lapp b l m = some q) (hf : Shows c f off l) (hg : ∀ i, i < m.length → g i = row c m i) :
  ∀ i, i < q.length → CLe (bif Nat.blt i l.length then f (off + i) else g (i - l.length)) (row c q i) := fun i hi' => by
 have hl := lapp_len h
 have e : q = l ++ m := (ite_some h).2.symm
 subst e
 by_cases hil : i < l.length
 ·rw [bif_lt hil, hf i hil, row_lt hi', row_lt hil, List.getElem_append_left hil]; exact CLe.refl _
 ·rw [bif_ge (by omega), hg _ (by omega), row_lt hi', row_lt (by omega), List.getElem_append_right (by omega)]; exact CLe.refl _
theorem src_slc : ∀ i, i < m.length → row c m i = row c m i := fun _ _ => rfl
theorem src_slc' : ∀ i, i < m.length → CLe (row c m i) (row c m i) := fun _ _ => CLe.refl _
theorem src_own {f : Nat → List PV} {off : Nat} (hs : Shows c f off m) : ∀ i, i < m.length → f (off + i) = row c m i := hs
theorem src_own' {f : Nat → List PV} {off : Nat} (hs : Shows c f off m) : ∀ i, i < m.length → CLe (f (off + i)) (row c m i) := fun i hi => by rw [hs i hi]; exact CLe.refl _
theorem src_str {s : Str} : ∀ i, i < s.length → [PV.int .u8 (s.getD i 0).toNat] = row cB s i := fun i hi => (row_bytes hi).symm
theorem src_str' {s : Str} : ∀ i, i < s.length → CLe [PV.int .u8 (s.getD i 0).toNat] (row cB s i) := fun i hi => by rw [row_bytes hi]; exact CLe.refl _
def CLL : List (List PV) → List (List PV) → Prop
 | [], [] => True
 | a :: l, b :: r => CLe a b ∧ CLL l r
 | _, _ => False
theorem cll_cons {a b lit : List PV} {l r : List (List PV)} (e : b = lit) (h : CLe a lit) (t : CLL l r) : CLL (a :: l) (b :: r) := ⟨by rw [e]; exact h, t⟩
theorem cll_refl : ∀ {l r : List (List PV)}, l = r → CLL l r
 | [], _, rfl => trivial
 | a :: l, _, rfl => ⟨CLe.refl _, cll_refl rfl⟩
theorem cll_get : ∀ {l r : List (List PV)}, CLL l r → ∀ i, CLe (l.getD i []) (r.getD i [])
 | [], [], _, i => by simp; exact trivial
 | a :: l, b :: r, h, 0 => h.1
 | a :: l, b :: r, h, i + 1 => by simpa using cll_get h.2 i
 | [], _ :: _, h, _ => h.elim
 | _ :: _, [], h, _ => h.elim
theorem row_lit (c : α → List PV) (l : List α) {n : Nat} {cs : List (List PV)} (hn : n = l.length) (h : CLL cs (l.map c)) : ∀ i, i < n → CLe (cs.getD i []) (row c l i) := fun i _ => cll_get h i
theorem row_set {k n off : Nat} {c0 cv lit : List PV} (hk : k < l.length) (he : c x' = lit) (hc : CLe (listSet c0 off cv) lit) : ∀ j, j < n → CLe (fset (row c l) k (listSet c0 off cv) j) (row c (l.set k x') j) := fun j _ => by
 rw [← he] at hc
 unfold row fset
 by_cases hj : j = k
 ·subst hj
  simpa [List.getD_eq_getElem?_getD, hk] using hc
 ·have : Nat.beq j k = false := by
   cases hb : Nat.beq j k with
   | false => rfl
   | true => exact absurd (Nat.eq_of_beq_eq_true hb) hj
  rw [this]
  simp only [cond_false, List.getD_eq_getElem?_getD, List.getElem?_map, List.getElem?_set_ne (Ne.symm hj)]
  exact CLe.refl _
theorem row_set2 {k n off : Nat} {c0 cv lit : List PV} (hk : k < l.length) (he : c x' = lit) (hc : CLe (listSet c0 off cv) lit) : ∀ j, j < n → CLe (fset (row c (l.set k x)) k (listSet c0 off cv) j) (row c (l.set k x') j) := fun j hj => by
 have := row_set (n := n) (l := l.set k x) (by simpa using hk) he hc j hj
 rw [List.set_set] at this
 exact this
theorem row_at_set {k : Nat} (hk : k < l.length) : row c (l.set k x) k = c x := row_some (by simp [hk])
theorem one_set {c0 cv new : List PV} {off : Nat} {f : Nat → List PV} (h : new = listSet c0 off cv) : ∀ j, j < 1 → CLe (fset f 0 (listSet c0 off cv) j) ((fun _ => new) j) := fun j hj => by
 obtain rfl : j = 0 := by omega
 subst h
 exact CLe.refl _
end
section
variable {α : Type} [Inhabited α] {c : α → List PV} {l m : List α} {x x' : α} {i lo hi : Int}
theorem idx_bd (h : idx l i = some x) : 0 ≤ i ∧ i < (l.length : Int) := (ite_some h).1
theorem idx_at (h : idx l i = some x) : l[i.toNat]? = some x := by
 have hb := idx_bd h
 have hl : i.toNat < l.length := by omega
 rw [← (ite_some h).2, List.getD_eq_getElem?_getD, List.getElem?_eq_getElem hl]; rfl
theorem idx_lt (h : idx l i = some x) : i.toNat < l.length := by have hb := idx_bd h; omega
theorem idx_row (h : idx l i = some x) : row c l i.toNat = c x := row_some (idx_at h)
theorem shows_idx {f : Nat → List PV} {off : Nat} (hs : Shows c f off l) (h : idx l i = some x) : f (off + i.toNat) = c x := by
 have hb := idx_bd h
 rw [hs _ (by omega)]; exact idx_row h
theorem lmake_bd {b : Nat} {n k : Int} {q : List α} (h : lmake b n k = some q) : 0 ≤ n ∧ n ≤ k ∧ k ≤ 4611686018427387904 ∧ k.toNat * b ≤ 140737488355328 := (ite_some h).1
theorem lmake_len {b : Nat} {n k : Int} {q : List α} (h : lmake b n k = some q) : q.length = n.toNat := by rw [← (ite_some h).2]; simp
theorem lmake_row {b : Nat} {n k : Int} {q : List α} {z lit : List PV} (h : lmake b n k = some q) (he : c default = lit) (hz : CLe z lit) : ∀ i, i < q.length → CLe z (row c q i) := fun i hi' => by
 have hl := lmake_len h
 rw [row_some (x := default) (by rw [← (ite_some h).2, List.getElem?_replicate, if_pos (by omega)]), he]
 exact hz
end
section
variable {h η : List AObj} {k : List Nat}
theorem fz_pure {pv : PV} (hp : isPure pv = true) : Fz h η k pv pv := by
 cases pv with
 | int k n => exact .int _ _
 | bool b => exact .bool _
 | str s => exact .str _
 | nils => exact .nils
 | slc sz n f => exact .slc _ _ _ _ (fun _ _ => rfl)
 | pptr cs => exact .pptr _
 | fn f => exact .fn _
 | _ => cases hp
theorem fzl_pure : ∀ {l : List PV}, l.all isPure = true → FzL h η k l l
 | [], _ => trivial
 | a :: l, hp => by
  simp only [List.all_cons, Bool.and_eq_true] at hp
  exact ⟨fz_pure hp.1, fzl_pure hp.2⟩
theorem fz_agg {cs : List PV} (hp : cs.all isPure = true) : Fz h η k (.agg cs) (.agg cs) := .agg_l (fzl_pure hp)
theorem fz_row {α : Type} {c : α → List PV} (hp : ∀ x, (c x).all isPure = true) {l : List α} {n : Nat} : ∀ i, i < n → FzL h η k (row c l i) (row c l i) := fun i _ => fzl_pure (row_pure hp i)
theorem fz_shows {α : Type} {c : α → List PV} (hp : ∀ x, (c x).all isPure = true) {f : Nat → List PV} {m : List α} (hs : Shows c f 0 m) : ∀ i, i < m.length → FzL h η k (f i) (row c m i) := fun i hi => by
 have h1 := hs i hi
 rw [Nat.zero_add] at h1
 rw [h1]
 exact fzl_pure (row_pure hp i)
def CloL (h η : List AObj) (k : List Nat) : List (Nat × Nat) → List (Nat × Nat) → Prop
 | [], [] => True
 | p :: r, p' :: r' => (k[p'.1]? = some p.1 ∧ (∃ sz n e f, h[p.1]? = some (AObj.row p.2 sz n e f)) ∧ ∃ sz n e f, η[p'.1]? = some (AObj.row p'.2 sz n e f) ∧ 0 < n) ∧ CloL h η k r r'
 | _, _ => False
theorem CloL.get : ∀ (l l' : List (Nat × Nat)), CloL h η k l l' → l'.length = l.length ∧ ∀ (j : Nat) (p p' : Nat × Nat), l[j]? = some p → l'[j]? = some p' →
  k[p'.1]? = some p.1 ∧ (∃ sz n e f, h[p.1]? = some (AObj.row p.2 sz n e f)) ∧ ∃ sz n e f, η[p'.1]? = some (AObj.row p'.2 sz n e f) ∧ 0 < n
 | [], [], _ => ⟨rfl, fun j p p' hj _ => by simp at hj⟩
 | [], _ :: _, hh => hh.elim
 | _ :: _, [], hh => hh.elim
 | q :: r, q' :: r', hh => by
  obtain ⟨h1, h2⟩ := hh
  obtain ⟨q1, q2⟩ := CloL.get r r' h2
  refine ⟨by simp [q1], fun j p p' hj hj' => ?_⟩
  cases j with
  | zero =>
   simp at hj hj'
   subst hj hj'
   exact h1
  | succ j => exact q2 j p p' (by simpa using hj) (by simpa using hj')
theorem Fz.clo_l {f : Nat} {caps caps' : List (Nat × Nat)} (hh : CloL h η k caps caps') : Fz h η k (.clo f caps) (.clo f caps') := .clo f caps caps' (CloL.get _ _ hh).1 (CloL.get _ _ hh).2
theorem fz_frz {α : Type} {c : α → List PV} (hp : ∀ x, (c x).all isPure = true) {id g sz n off : Nat} {e : TypeId} {f : Nat → List PV} {l : List α} (hk : id ∉ k) (ho : h[id]? = some (AObj.row g sz n e f)) (hs : Shows c f off l) :
  Fz h η k (.own id g off l.length) (sl sz c l) :=
 .frz_eq hk ho rfl rfl (fun i hi => row_pure hp i) (fun i hi => by rw [hs i hi]; exact fzl_pure (row_pure hp i))
theorem fz_frz2 {α : Type} {c : α → List PV} (hp : ∀ x, (c x).all isPure = true) {id g sz n off len : Nat} {e : TypeId} {f : Nat → List PV} {l : List α} (hk : id ∉ k) (ho : h[id]? = some (AObj.row g sz n e f)) (hs : Shows c f off l) (hl : len = l.length) :
  Fz h η k (.own id g off len) (sl sz c l) := by subst hl; exact fz_frz hp hk ho hs
theorem fz_snap2 {α : Type} {c : α → List PV} (hp : ∀ x, (c x).all isPure = true) {id g sz n off len : Nat} {e : TypeId} {f : Nat → List PV} {l : List α} (ho : h[id]? = some (AObj.row g sz n e f)) (hs : Shows c f off l) (hl : len = l.length) :
  Fz h [] [] (.own id g off len) (sl sz c l) := by subst hl; exact fz_frz hp (by simp) ho hs
theorem fz_snap {α : Type} {c : α → List PV} (hp : ∀ x, (c x).all isPure = true) {id g sz n off : Nat} {e : TypeId} {f : Nat → List PV} {l : List α} (ho : h[id]? = some (AObj.row g sz n e f)) (hs : Shows c f off l) :
  Fz h [] [] (.own id g off l.length) (sl sz c l) := fz_frz hp (by simp) ho hs
theorem fz_nils {α : Type} {c : α → List PV} {sz : Nat} : Fz h η k .nils (sl sz c []) := .nils0 _ _
end
theorem ACall.mono2 {P : Program} {f : FuncId} {args : List PV} {h h0 : List AObj} {R : PV → List AObj → Prop} {r0 : PV} (hA : ACall P f args h R) (hr : ∀ res h', R res h' → res = r0 ∧ h' = h0) : ACall P f args h (fun res h' => res = r0 ∧ h' = h0) := hA.mono hr
theorem shiftO_row {α : Type} {c : α → List PV} (hp : ∀ x, (c x).all isPure = true) (N g sz n : Nat) (e : TypeId) (l : List α) : shiftO N (.row g sz n e (row c l)) = .row g sz n e (row c l) := by
 suffices e : (fun i => (row c l i).map (shift1 N)) = row c l by unfold shiftO; simp only [e]
 funext i
 have h := row_pure (l := l) hp i
 generalize row c l i = q at h
 induction q with
 | nil => rfl
 | cons a r ih =>
  simp only [List.all_cons, Bool.and_eq_true] at h
  rw [List.map_cons, ih h.2]
  cases a <;> first | rfl | cases h.1
theorem renO_row {α : Type} {c : α → List PV} (hp : ∀ x, (c x).all isPure = true) (σ : Nat → Nat) (g sz n : Nat) (e : TypeId) (l : List α) : renO σ (.row g sz n e (row c l)) = .row g sz n e (row c l) := by
 suffices e : (fun i => (row c l i).map (ren1 σ)) = row c l by unfold renO; simp only [e]
 funext i
 have h := row_pure (l := l) hp i
 generalize row c l i = q at h
 induction q with
 | nil => rfl
 | cons a r ih =>
  simp only [List.all_cons, Bool.and_eq_true] at h
  rw [List.map_cons, ih h.2]
  cases a <;> first | rfl | cases h.1
theorem ACall.pure0 {P : Program} {f : FuncId} {args : List PV} {r0 : PV} (hA : ACall P f args [] (fun res h => res = r0 ∧ h = [])) (h : List AObj) (hp : args.all pureA = true) (hr : ∀ n, shiftV n r0 = r0) :
  ACall P f args h (fun res h' => res = r0 ∧ h' = h) :=
 (hA.frame h hp).mono (by rintro _ _ ⟨_, _, ⟨rfl, rfl⟩, rfl, rfl⟩; exact ⟨hr _, by simp⟩)
theorem ACall.snap0 {P : Program} {f : FuncId} {args args' : List PV} {r0 : PV} (hA : ACall P f args' [] (fun res h => res = r0 ∧ h = [])) (h : List AObj) (hz : FzL h [] [] args args') (hn : args'.all notTup = true) (hf : flatV r0 = true) (hr : ∀ n, shiftV n r0 = r0) :
  ACall P f args h (fun res h' => res = r0 ∧ h' = h) :=
 (hA.snapL h hz hn (by rintro _ _ ⟨rfl, rfl⟩; exact ⟨hf, by simp⟩)).mono (by rintro _ _ ⟨_, _, ⟨rfl, rfl⟩, rfl, rfl⟩; exact ⟨hr _, by simp⟩)
theorem cut_in {m : Nat} {J : List (Nat × PV) → List AObj → Prop} {env : Env} {h : List AObj} (σ : List (Nat × PV)) (η : List AObj) (ht : Taken m env h σ η) (hj : J σ η) : cutGo m J env h := .mk σ η ht hj
section
variable {κ β : Type} [DecidableEq κ]
def mfind : List (κ × β) → κ → Option β
 | [], _ => none
 | (a, b) :: r, k => if k = a then some b else mfind r k
def mgd (l : List (κ × β)) (k : κ) (z : β) : β := (mfind l k).getD z
def mhas (l : List (κ × β)) (k : κ) : Bool := (mfind l k).isSome
def mput : List (κ × β) → κ → β → List (κ × β)
 | [], k, v => [(k, v)]
 | (a, b) :: r, k, v => if k = a then (k, v) :: r else (a, b) :: mput r k v
def mc (c : κ → PV) (d : β → PV) (p : κ × β) : List PV := [c p.1, d p.2]
def scP : PV → Bool
 | .agg cs => cs.all isPure
 | v => isPure v
theorem mcat_none {c : κ → PV} {d : β → PV} {ti : TI} (he : ∀ a b, keyEq ti (c a) (c b) = some (decide (a = b))) : ∀ (l : List (κ × β)) (k : κ) (n : Nat), n ≤ l.length → (∀ j, j < n → ∀ p, l[j]? = some p → k ≠ p.1) → MNone ti (row (mc c d) l) n (c k) := fun l k n hn h j hj => by
 have hlt : j < l.length := by omega
 refine ⟨c l[j].1, d l[j].2, by rw [row_lt hlt]; rfl, ?_⟩
 rw [he, decide_eq_false (h j hj _ (List.getElem?_eq_getElem hlt))]
theorem mfind_at : ∀ (l : List (κ × β)) (k : κ) (b : β), mfind l k = some b → ∃ i, i < l.length ∧ l[i]? = some (k, b) ∧ ∀ j, j < i → ∀ p, l[j]? = some p → k ≠ p.1
 | [], _, _, h => by cases h
 | (a, b0) :: r, k, b, h => by
  unfold mfind at h
  by_cases hk : k = a
  ·rw [if_pos hk] at h
   obtain rfl := Option.some.inj h
   subst hk
   exact ⟨0, by simp, rfl, fun j hj => absurd hj (Nat.not_lt_zero _)⟩
  ·rw [if_neg hk] at h
   obtain ⟨i, h1, h2, h3⟩ := mfind_at r k b h
   refine ⟨i + 1, by simpa using h1, by simpa using h2, fun j hj p hp => ?_⟩
   cases j with
   | zero => simp at hp; subst hp; exact hk
   | succ j => exact h3 j (by omega) p (by simpa using hp)
theorem mfind_none : ∀ (l : List (κ × β)) (k : κ), mfind l k = none → ∀ (j : Nat) (p : κ × β), l[j]? = some p → k ≠ p.1
 | [], _, _, j, p, hp => by simp at hp
 | (a, b0) :: r, k, h, j, p, hp => by
  unfold mfind at h
  by_cases hk : k = a
  ·rw [if_pos hk] at h; cases h
  ·rw [if_neg hk] at h
   cases j with
   | zero => simp at hp; subst hp; exact hk
   | succ j => exact mfind_none r k h j p (by simpa using hp)
theorem mlook_of {c : κ → PV} {d : β → PV} {ti : TI} (he : ∀ a b, keyEq ti (c a) (c b) = some (decide (a = b))) (l : List (κ × β)) (k : κ) (z : β) : MLook ti (row (mc c d) l) l.length (c k) (d z) (d (mgd l k z)) (mhas l k) := by
 unfold mgd mhas
 cases h : mfind l k with
 | some b =>
  obtain ⟨i, h1, h2, h3⟩ := mfind_at l k b h
  exact .inl ⟨rfl, i, h1, mcat_none he l k i (by omega) h3, c k, by rw [row_some h2]; rfl, by rw [he, decide_eq_true rfl]⟩
 | none => exact .inr ⟨rfl, rfl, mcat_none he l k _ (Nat.le_refl _) (fun j _ p hp => mfind_none l k h j p hp)⟩
theorem mput_none : ∀ (l : List (κ × β)) (k : κ) (v : β), mfind l k = none → mput l k v = l ++ [(k, v)]
 | [], _, _, _ => rfl
 | (a, b0) :: r, k, v, h => by
  unfold mfind at h
  unfold mput
  by_cases hk : k = a
  ·rw [if_pos hk] at h; cases h
  ·rw [if_neg hk] at h
   rw [if_neg hk, mput_none r k v h]; rfl
theorem mput_some : ∀ (l : List (κ × β)) (k : κ) (v b : β), mfind l k = some b → ∃ i, i < l.length ∧ l[i]? = some (k, b) ∧ (∀ j, j < i → ∀ p, l[j]? = some p → k ≠ p.1) ∧ (mput l k v).length = l.length ∧ (mput l k v)[i]? = some (k, v) ∧ ∀ j, j ≠ i → (mput l k v)[j]? = l[j]?
 | [], _, _, _, h => by cases h
 | (a, b0) :: r, k, v, b, h => by
  unfold mfind at h
  unfold mput
  by_cases hk : k = a
  ·rw [if_pos hk] at h
   obtain rfl := Option.some.inj h
   rw [if_pos hk]
   subst hk
   exact ⟨0, by simp, rfl, fun j hj => absurd hj (Nat.not_lt_zero _), by simp, rfl, fun j hj => by cases j with | zero => exact absurd rfl hj | succ j => rfl⟩
  ·rw [if_neg hk] at h
   obtain ⟨i, h1, h2, h3, h4, h5, h6⟩ := mput_some r k v b h
   rw [if_neg hk]
   refine ⟨i + 1, by simpa using h1, by simpa using h2, fun j hj p hp => ?_, by simpa using h4, by simpa using h5, fun j hj => ?_⟩
   ·cases j with
    | zero => simp at hp; subst hp; exact hk
    | succ j => exact h3 j (by omega) p (by simpa using hp)
   ·cases j with
    | zero => rfl
    | succ j => simpa using h6 j (by omega)
theorem mupd_of {c : κ → PV} {d : β → PV} {ti : TI} (he : ∀ a b, keyEq ti (c a) (c b) = some (decide (a = b))) (l : List (κ × β)) (k : κ) (v : β) : MUpd ti (row (mc c d) l) l.length (c k) (d v) (mput l k v).length (row (mc c d) (mput l k v)) := by
 cases h : mfind l k with
 | some b =>
  obtain ⟨i, h1, h2, h3, h4, h5, h6⟩ := mput_some l k v b h
  refine .inl ⟨i, d b, ⟨h1, mcat_none he l k i (by omega) h3, c k, by rw [row_some h2]; rfl, by rw [he, decide_eq_true rfl]⟩, h4, by rw [row_some h5]; rfl, fun j hj hji => ?_⟩
  rw [row_some (List.getElem?_eq_getElem hj), row_some ((h6 j hji).trans (List.getElem?_eq_getElem hj))]
 | none =>
  rw [mput_none l k v h]
  refine .inr ⟨mcat_none he l k _ (Nat.le_refl _) (fun j _ p hp => mfind_none l k h j p hp), by simp, ?_, fun j hj => ?_⟩
  ·rw [row_some (x := (k, v)) (by simp)]; rfl
  ·rw [row_some (List.getElem?_eq_getElem hj), row_some (x := l[j]) (by rw [List.getElem?_append_left hj, List.getElem?_eq_getElem hj])]
end
theorem fz_sc {h η : List AObj} {k : List Nat} {pv : PV} (hp : scP pv = true) : Fz h η k pv pv := by
 cases pv with
 | agg cs => exact fz_agg hp
 | _ => exact fz_pure hp
theorem fz_mrow {h η : List AObj} {k : List Nat} {κ β : Type} {c : κ → PV} {d : β → PV} (hc : ∀ x, scP (c x) = true) (hd : ∀ x, scP (d x) = true) {l : List (κ × β)} {n : Nat} : ∀ i, i < n → FzL h η k (row (mc c d) l i) (row (mc c d) l i) := fun i _ => by
 by_cases h : i < l.length
 ·rw [row_lt h]; exact ⟨fz_sc (hc _), fz_sc (hd _), trivial⟩
 ·unfold row; simp [List.getD_eq_getElem?_getD, List.getElem?_eq_none (show l.length ≤ i by omega)]; trivial
theorem key_int (k : IntKind) (a b : Int) : keyEq (.int k) (.int k a) (.int k b) = some (decide (a = b)) := by
 have e : (a == b) = decide (a = b) := by rw [Bool.eq_iff_iff]; simp
 cases k <;> simp only [keyEq, eqAnd, kindEq, Bool.and_true, e]
theorem key_str (a b : Str) : keyEq .str (.str a) (.str b) = some (decide (a = b)) := by
 simp only [keyEq]
 have e : (a == b) = decide (a = b) := by rw [Bool.eq_iff_iff]; simp
 rw [e]
end Go.Am
