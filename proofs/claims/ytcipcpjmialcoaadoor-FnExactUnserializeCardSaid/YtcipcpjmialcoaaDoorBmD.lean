/- Rows whose elements own rows: a row is told by a function f of which only 'DR' is known. -/
import Derived.Test.YtcipcpjmialcoaaDoorBmQ
set_option linter.unusedVariables false
set_option linter.unusedSimpArgs false
namespace Go.Am
open Go Go.RowKit
structure DR {α : Type} (D : List PV → α → Prop) (n : Nat) (f : Nat → List PV) (l : List α) : Prop where
 len : l.length = n
 at_ : ∀ i (h : i < l.length), D (f i) l[i]
 z : ∀ i, n ≤ i → f i = []
inductive OD1 : PV → PV → Prop
 | p {a : PV} (h : isPure a = true) : OD1 a a
 | o {a b : PV} (h : OslF a b) : OD1 a b
def ODL : List PV → List PV → Prop
 | [], [] => True
 | a :: l, b :: r => OD1 a b ∧ ODL l r
 | _, _ => False
class Dcl {α : Type} (D : List PV → α → Prop) (c : outParam (α → List PV)) : Prop where
 frz : ∀ cs x, D cs x → ODL cs (c x)
def DEq {α : Type} (c : α → List PV) : List PV → α → Prop := fun cs x => cs = c x
theorem ODL.len : ∀ {l r : List PV}, ODL l r → r.length = l.length
 | [], [], _ => rfl
 | a :: l, b :: r, h => congrArg (· + 1) (ODL.len h.2)
 | [], _ :: _, h => h.elim
 | _ :: _, [], h => h.elim
theorem ODL.get : ∀ {l r : List PV}, ODL l r → ∀ {j : Nat} {a b : PV}, l[j]? = some a → r[j]? = some b → OD1 a b
 | a :: l, b :: r, h, 0, x, y, hx, hy => by simp at hx hy; subst hx hy; exact h.1
 | a :: l, b :: r, h, j + 1, x, y, hx, hy => ODL.get h.2 (by simpa using hx) (by simpa using hy)
 | [], _, h, j, x, y, hx, hy => by simp at hx
 | _ :: _, [], h, _, _, _, _, _ => h.elim
theorem ODL.pure : ∀ {l : List PV}, l.all isPure = true → ODL l l
 | [], _ => trivial
 | a :: l, h => by
  simp only [List.all_cons, Bool.and_eq_true] at h
  exact ⟨.p h.1, ODL.pure h.2⟩
theorem OslF.isO {a b : PV} (h : OslF a b) : isOsl a = true := by cases h; rfl
theorem OslF.pureR {a b : PV} (h : OslF a b) : isPure b = true := by cases h; rfl
theorem OD1.po {a b : PV} (h : OD1 a b) : isPure a = true ∨ isOsl a = true := by
 cases h with
 | p h => exact .inl h
 | o h => exact .inr h.isO
theorem OD1.pureR {a b : PV} (h : OD1 a b) : isPure b = true := by
 cases h with
 | p h => exact h
 | o h => exact h.pureR
theorem ODL.po {l r : List PV} (h : ODL l r) : ∀ c, c ∈ l → isPure c = true ∨ isOsl c = true := fun c hc => by
 obtain ⟨j, hj, rfl⟩ := List.getElem_of_mem hc
 have hl := h.len
 exact (h.get (List.getElem?_eq_getElem hj) (List.getElem?_eq_getElem (show j < r.length by omega))).po
instance {α : Type} (c : α → List PV) [hp : Pur c] : Dcl (DEq c) c := ⟨fun cs x h => by
 have h : cs = c x := h
 subst h; exact ODL.pure (hp.pure x)⟩
theorem isPure_osl {a : PV} (h : isOsl a = true) : isPure a = false := by cases a <;> first | rfl | cases h
theorem ren_po {σ : Nat → Nat} {a : PV} (h : isPure a = true ∨ isOsl a = true) : ren1 σ a = a := by cases a <;> first | rfl | (rcases h with h | h <;> cases h)
theorem shift_po {N : Nat} {a : PV} (h : isPure a = true ∨ isOsl a = true) : shift1 N a = a := by cases a <;> first | rfl | (rcases h with h | h <;> cases h)
theorem map_po {g : PV → PV} : ∀ {l : List PV}, (∀ c, c ∈ l → g c = c) → l.map g = l
 | [], _ => rfl
 | a :: l, h => by simp only [List.map_cons]; rw [h a (by simp), map_po (fun c hc => h c (by simp [hc]))]
section
variable {α : Type} {D : List PV → α → Prop} {c : α → List PV} {n : Nat} {f : Nat → List PV} {l : List α}
theorem oslf_row (hD : ∀ i (h : i < l.length), ODL (f i) (c l[i])) (hl : l.length = n) (sz : Nat) (e : TypeId) (F : Nat → Prop) : OslF (.osl sz n e f F) (sl sz c l) := by
 subst hl
 have at_ : ∀ i, i < l.length → ODL (f i) (row c l i) := fun i hi => by rw [row_lt hi]; exact hD i hi
 refine .mk sz l.length e f (row c l) F (fun i hi => (at_ i hi).len) (fun i j pv pv' hi h1 h2 hn => ?_) (fun i j pv pv' hi h1 h2 hn => ?_) (fun i j pv' hi h2 => ?_)
 ·cases (at_ i hi).get h1 h2 with
  | p _ => rfl
  | o h => rw [h.isO] at hn; cases hn
 ·cases (at_ i hi).get h1 h2 with
  | p h => rw [isPure_osl hn] at h; cases h
  | o h => exact h
 ·have hj : j < (f i).length := by rw [← (at_ i hi).len]; exact (List.getElem?_eq_some_iff.1 h2).1
  exact ((at_ i hi).get (List.getElem?_eq_getElem hj) h2).pureR
theorem DR.od [hc : Dcl D c] (d : DR D n f l) : ∀ i (h : i < l.length), ODL (f i) (c l[i]) := fun i h => hc.frz _ _ (d.at_ i h)
theorem DR.po [hc : Dcl D c] (d : DR D n f l) : ∀ i, i < n → ∀ x, x ∈ f i → isPure x = true ∨ isOsl x = true := fun i hi => (d.od (c := c) i (by rw [d.len]; exact hi)).po
theorem DR.ren [hc : Dcl D c] (d : DR D n f l) {g : PV → PV} (hg : ∀ x, isPure x = true ∨ isOsl x = true → g x = x) : (fun i => (f i).map g) = f := by
 funext i
 by_cases hi : i < n
 ·exact map_po (fun x hx => hg x (d.po (c := c) i hi x hx))
 ·rw [d.z i (by omega)]; rfl
theorem red [hc : Dcl D c] (d : DR D n f l) (σ : Nat → Nat) (g sz n' : Nat) (e : TypeId) : renO σ (.row g sz n' e f) = .row g sz n' e f := by
 show AObj.row g sz n' e (fun i => (f i).map (ren1 σ)) = _
 rw [d.ren (c := c) (fun x => ren_po)]
theorem shd [hc : Dcl D c] (d : DR D n f l) (N g sz n' : Nat) (e : TypeId) : shiftO N (.row g sz n' e f) = .row g sz n' e f := by
 show AObj.row g sz n' e (fun i => (f i).map (shift1 N)) = _
 rw [d.ren (c := c) (fun x => shift_po)]
theorem ovd [hc : Dcl D c] (d : DR D n f l) {σ : Nat → Nat} {g sz n' : Nat} {e : TypeId} {x : Option AObj} (hx : x = some (.row g sz n' e f) := by rfl) : x = some (renO σ (.row g sz n' e f)) := by rw [red (c := c) d]; exact hx
theorem ovdn [hc : Dcl D c] (d : DR D n f l) {σ : Nat → Nat} {g sz : Nat} {e : TypeId} {x : Option AObj} (hx : x = some (.row g sz n e f) := by rfl) : x = some (renO σ (.row g sz l.length e f)) := by rw [red (c := c) d, d.len]; exact hx
theorem DR.self (d : DR D n f l) : DR D l.length f l := by have h := d.len; subst h; exact d
theorem DR.cast (d : DR D n f l) {l' : List α} (h : l = l') : DR D n f l' := h ▸ d
theorem DR.nil : DR D 0 (fun _ => []) [] := ⟨rfl, fun i h => absurd h (Nat.not_lt_zero _), fun _ _ => rfl⟩
theorem DR.rowE {c : α → List PV} {l : List α} : DR (DEq c) l.length (row c l) l := ⟨rfl, fun i h => row_lt h, fun i hi => by unfold row; simp [List.getD_eq_getElem?_getD, List.getElem?_eq_none (show (l.map c).length ≤ i by simpa using hi)]⟩
theorem DR.rowN {c : α → List PV} {l : List α} {n : Nat} (h : n = l.length) : DR (DEq c) n (row c l) l := by subst h; exact DR.rowE
theorem DR.eqR {c : α → List PV} (d : DR (DEq c) n f l) : f = row c l := by
 funext i
 by_cases hi : i < l.length
 ·rw [row_lt hi]; exact d.at_ i hi
 ·rw [d.z i (by rw [← d.len]; omega), DR.rowE.z i (by omega)]
theorem fset_at {f : Nat → List PV} {i : Nat} {cs : List PV} : fset f i cs i = cs := by
 unfold fset
 rw [show Nat.beq i i = true from Nat.beq_refl i]
 rfl
theorem fset_ne {f : Nat → List PV} {i k : Nat} {cs : List PV} (h : k ≠ i) : fset f i cs k = f k := by
 unfold fset
 rw [show Nat.beq k i = false from Bool.eq_false_iff.2 (fun q => h (Nat.eq_of_beq_eq_true q))]
 rfl
theorem DR.set (d : DR D n f l) {i : Nat} (hi : i < l.length) {cs : List PV} {x : α} (hx : D cs x) : DR D n (fset f i cs) (l.set i x) := by
 refine ⟨by rw [List.length_set]; exact d.len, fun k hk => ?_, fun k hk => ?_⟩
 ·rw [List.length_set] at hk
  rw [List.getElem_set]
  by_cases h : i = k
  ·subst h; rw [if_pos rfl, fset_at]; exact hx
  ·rw [if_neg h, fset_ne (Ne.symm h)]; exact d.at_ k hk
 ·have := d.len
  rw [fset_ne (by omega)]; exact d.z k hk
theorem DR.app (d : DR D n f l) {cs : List PV} {x : α} (hx : D cs x) : DR D (n + 1) (fset f n cs) (l ++ [x]) := by
 have hl := d.len
 refine ⟨by simp [hl], fun k hk => ?_, fun k hk => ?_⟩
 ·by_cases h : k = n
  ·subst h
   rw [fset_at, List.getElem_append_right (by omega)]
   simp only [hl, Nat.sub_self, List.getElem_cons_zero]
   exact hx
  ·rw [fset_ne h, List.getElem_append_left (by simp at hk; omega)]; exact d.at_ k (by simp at hk; omega)
 ·rw [fset_ne (by omega)]; exact d.z k (by omega)
theorem DR.rep {x : α} {cs : List PV} (hx : D cs x) (n : Nat) : DR D n (fun i => bif Nat.blt i n then cs else []) (List.replicate n x) :=
 ⟨by simp, fun k hk => by
  simp only [List.length_replicate] at hk
  show D (bif Nat.blt k n then cs else []) _
  rw [bif_lt hk, List.getElem_replicate]; exact hx, fun k hk => by
  show (bif Nat.blt k n then cs else []) = []
  rw [bif_ge (by omega)]⟩
theorem DR.idx [Inhabited α] (d : DR D n f l) {i : Int} {x : α} (h : Go.Am.idx l i = some x) : D (f i.toNat) x := by
 have h1 := idx_at h
 obtain ⟨h2, h3⟩ := List.getElem?_eq_some_iff.1 h1
 rw [← h3]; exact d.at_ _ h2
theorem DR.lt [Inhabited α] (d : DR D n f l) {i : Int} {x : α} (h : Go.Am.idx l i = some x) : i.toNat < n := by rw [← d.len]; exact idx_lt h
theorem DR.bd [Inhabited α] (d : DR D n f l) {i : Int} {x : α} (h : Go.Am.idx l i = some x) : 0 ≤ i ∧ i < (n : Int) := by rw [← d.len]; exact idx_bd h
variable {h η : List AObj} {k : List Nat} {m : Nat}
theorem fz_po {a : PV} (hp : isPure a = true ∨ isOsl a = true) : Fz h η k a a := by
 cases a <;> first | exact fz_pure rfl | exact .osl _ _ _ _ _ | (rcases hp with hp | hp <;> cases hp)
theorem fzl_po : ∀ {l : List PV}, (∀ c, c ∈ l → isPure c = true ∨ isOsl c = true) → FzL h η k l l
 | [], _ => trivial
 | a :: l, hp => ⟨fz_po (hp a (by simp)), fzl_po (fun c hc => hp c (by simp [hc]))⟩
theorem Fz.rd [hc : Dcl D c] {id g sz n0 n' : Nat} {e : TypeId} (d : DR D n f l) (hn : n' = l.length := by first | rfl | simp [*]) (ho : h[id]? = some (AObj.row g sz n0 e f) := by rfl) (hk : id ∉ k := by first | decide | simp) : Fz h η k (.own id g 0 n') (sl sz c l) := by
 subst hn
 have at_ : ∀ i, i < l.length → ODL (f i) (row c l i) := fun i hi => by rw [row_lt hi]; exact d.od (c := c) i hi
 refine .frz id g sz n0 0 l.length e f (row c l) hk ho (fun i hi => by rw [Nat.zero_add]; exact (at_ i hi).len) (fun i j pv' hi h2 => ?_) (fun i j pv pv' hi h1 h2 hno => ?_)
 ·have hj : j < (f i).length := by rw [← (at_ i hi).len]; exact (List.getElem?_eq_some_iff.1 h2).1
  exact ((at_ i hi).get (List.getElem?_eq_getElem hj) h2).pureR
 ·rw [Nat.zero_add] at h1
  cases (at_ i hi).get h1 h2 with
  | p h => exact fz_pure h
  | o h => exact absurd h hno
theorem odd [hc : Dcl D c] {id g sz n0 n' : Nat} {e : TypeId} (d : DR D n f l) (hn : n' = n0 := by first | rfl | simp [*]) (hle : n' = n := by first | rfl | simp [*]) (ho : h[id]? = some (AObj.row g sz n0 e f) := by rfl) : OFz h η k m (.row g sz n' e f) id id := by
 subst hn hle
 unfold OFz; rw [ho]; exact ⟨fun _ => ⟨rfl, rfl⟩, rfl, .inl rfl, rfl, fun i hi => fzl_po (d.po (c := c) i hi)⟩
theorem nwd [hc : Dcl D c] {i id g g' sz n0 n' : Nat} {e : TypeId} (d : DR D n f l) (hn : n' = n0 := by first | rfl | simp [*]) (hle : n' = n := by first | rfl | simp [*]) (hi : Nat.ble m i = true := by rfl) (ho : h[id]? = some (AObj.row g sz n0 e f) := by rfl) : OFz h η k m (.row g' sz n' e f) i id := by
 subst hn hle
 unfold OFz; rw [ho]; exact ⟨fun h0 => absurd h0 (Nat.not_lt.2 (Nat.le_of_ble_eq_true hi)), rfl, .inl rfl, rfl, fun i hi => fzl_po (d.po (c := c) i hi)⟩
theorem Fz.od {id id' g g' sz sz' n0 n1 n2 n3 : Nat} {e e' : TypeId} {f f' : Nat → List PV} (h1 : n1 = n2 := by first | rfl | simp [*]) (h2 : n2 = n3 := by first | rfl | simp [*]) (hk : k[id']? = some id := by rfl) (ho : h[id]? = some (AObj.row g sz n0 e f) := by rfl) (hη : η[id']? = some (AObj.row g' sz' n3 e' f') := by rfl) : Fz h η k (.own id g 0 n1) (.own id' g' 0 n2) := by
 subst h1 h2
 exact .own _ _ _ _ _ _ _ _ _ _ _ _ _ _ hk ho hη (Nat.le_of_eq (Nat.zero_add _))
theorem exs (id : Nat) {g sz n : Nat} {e : TypeId} {f : Nat → List PV} {i sz' n' : Nat} {e' : TypeId} {f' : Nat → List PV} {F : Nat → Prop} (j : Nat) (cs cs1 : List PV) (f1 : Nat → List PV) (hi : i < n) (hc : f i = cs) (h1 : f1 i = cs1) (hr : ∀ k, k ≠ i → f1 k = f k)
  (hj : cs[j]? = some (.osl sz' n' e' f' F) := by rfl) (hs : cs1 = cs.set j (.own h.length 0 0 n') := by rfl) (ho : h[id]? = some (.row g sz n e f) := by rfl) {h2 : List AObj} (h3 : h2 = h.set id (.row g sz n e f1) ++ [.row 0 sz' n' e' f'] := by rfl) : ExOk h h2 :=
 ⟨id, g, sz, n, e, f, i, j, sz', n', e', f', F, f1, ho, hi, by rw [hc]; exact hj, by rw [h1, hc, hs], fun k _ hk => hr k hk, h3⟩
theorem abs_ {id sub g sz n : Nat} {e : TypeId} {f : Nat → List PV} {g2 sz2 n2 : Nat} {e2 : TypeId} {f2 : Nat → List PV} {i : Nat} {j : Nat} {F : Nat → Prop} (cs cs1 : List PV) (f1 : Nat → List PV) (hi : i < n) (hc : f i = cs) (h1 : f1 i = cs1) (hr : ∀ k, k ≠ i → f1 k = f k)
  (hp : ∀ k, k < n2 → ∀ x, x ∈ f2 k → isPure x = true ∨ isOsl x = true) (hj : cs[j]? = some (.own sub g2 0 n2) := by rfl) (hs : cs1 = cs.set j (.osl sz2 n2 e2 f2 F) := by rfl) (ho : h[id]? = some (.row g sz n e f) := by rfl) (ho2 : h[sub]? = some (.row g2 sz2 n2 e2 f2) := by rfl) (hne : id ≠ sub := by decide)
  {h2 : List AObj} (h3 : h2 = (h.set id (.row g sz n e f1)).set sub .dead := by rfl) : AbOk h id i j sub F h2 :=
 ⟨g, sz, n, e, f, g2, sz2, n2, e2, f2, f1, ho, ho2, hne, hi, by rw [hc]; exact hj, hp, by rw [h1, hc, hs], fun k _ hk => hr k hk, h3⟩
theorem row_po {c : α → List PV} [hp : Pur c] {l : List α} {n : Nat} : ∀ k, k < n → ∀ x, x ∈ row c l k → isPure x = true ∨ isOsl x = true := fun k _ x hx => .inl (List.all_eq_true.1 (row_pure hp.pure k) x hx)
theorem st_set {f : Nat → List PV} {i off n : Nat} {c0 cv cs : List PV} (hc : CLe (listSet c0 off cv) cs) : ∀ j, j < n → CLe (fset f i (listSet c0 off cv) j) (fset f i cs j) := fun j _ => by
 by_cases h : j = i
 ·subst h; rw [fset_at, fset_at]; exact hc
 ·rw [fset_ne h, fset_ne h]; exact CLe.refl _
theorem st_set2 {f : Nat → List PV} {i off n : Nat} {c0 cq cv cs : List PV} (hc : CLe (listSet c0 off cv) cs) : ∀ j, j < n → CLe (fset (fset f i cq) i (listSet c0 off cv) j) (fset f i cs j) := fun j _ => by
 by_cases h : j = i
 ·subst h; rw [fset_at, fset_at]; exact hc
 ·rw [fset_ne h, fset_ne h, fset_ne h]; exact CLe.refl _
theorem fset_k {f : Nat → List PV} {i : Nat} {cs : List PV} : ∀ k, k ≠ i → fset f i cs k = f k := fun k h => fset_ne h
theorem fset_kk {f : Nat → List PV} {i : Nat} {cs cq : List PV} : ∀ k, k ≠ i → fset f i cs k = fset f i cq k := fun k h => by rw [fset_ne h, fset_ne h]
theorem app_one {f : Nat → List PV} {n N : Nat} {cs cq : List PV} (hN : N = n + 1) (hc : CLe cs cq) : ∀ i, i < N → CLe (bif Nat.blt i n then f (0 + i) else cs) (fset f n cq i) := fun i hi => by
 subst hN
 by_cases h : i < n
 ·rw [bif_lt h, fset_ne (by omega), Nat.zero_add]; exact CLe.refl _
 ·obtain rfl : i = n := by omega
  rw [bif_ge (by omega), fset_at]; exact hc
theorem app_nil {N : Nat} {cs cq : List PV} (hN : N = 1) (hc : CLe cs cq) : ∀ i, i < N → CLe cs (fset (fun _ => []) 0 cq i) := fun i hi => by
 subst hN
 obtain rfl : i = 0 := by omega
 rw [fset_at]; exact hc
theorem mk_rep {n' : Nat} {n : Nat} {z cs : List PV} (hn : n' = n) (hc : CLe z cs) : ∀ i, i < n' → CLe z ((fun i => bif Nat.blt i n then cs else []) i) := fun i hi => by
 subst hn
 show CLe z (bif Nat.blt i n' then cs else [])
 rw [bif_lt hi]; exact hc
end
section
variable {P : Program} {f : FuncId} {args : List PV} {h : List AObj} {K : PV → List AObj → Prop} {R : PV → List AObj → Prop}
theorem pcOq {hc : List AObj} {args0 : List PV} (hA : ACall P f args hc R) (is : List Nat) (hobj : OvL h (sigma is h.length) hc is)
  (k : ∀ r0 h0, R r0 h0 → ∃ r1 h1, renV (sigma is h.length) r0 = r1 ∧ nxtL h is h0 = h1 ∧ K r1 h1)
  (hargs : args0 = args.map (renA (sigma is h.length)) := by rfl) (hl : hc.length = is.length := by rfl) (hd : is.Nodup := by decide) (hlt : is.all (fun id => Nat.blt id h.length) = true := by rfl) : pcall P f args0 h K :=
 ⟨_, hA.overL is h hobj hl hd hlt hargs, by
  rintro _ _ ⟨r0, h0, hR, rfl, rfl⟩
  obtain ⟨r1, h1, rfl, rfl, hk⟩ := k r0 h0 hR
  exact hk⟩
theorem pcFq (hA : ACall P f args [] R) (k : ∀ r0 h0, R r0 h0 → ∃ r1 h1, shiftV h.length r0 = r1 ∧ h ++ h0.map (shiftO h.length) = h1 ∧ K r1 h1) (hp : args.all pureA = true := by rfl) : pcall P f args h K :=
 ⟨_, hA.frame h hp, by
  rintro _ _ ⟨r0, h0, hR, rfl, rfl⟩
  obtain ⟨r1, h1, rfl, rfl, hk⟩ := k r0 h0 hR
  exact hk⟩
end
theorem lit_one {cs : List PV} : ∀ i, i < 1 → CLe ([cs].getD i []) ((fun _ => cs) i) := fun i hi => by
 obtain rfl : i = 0 := by omega
 exact CLe.refl _
theorem noO_pure : ∀ {l : List PV}, l.all isPure = true → noO l = true
 | [], _ => rfl
 | a :: l, h => by
  simp only [List.all_cons, Bool.and_eq_true] at h
  have := noO_pure h.2
  cases a <;> first | exact this | (have h1 := h.1; cases h1)
theorem src_no {α : Type} {c : α → List PV} [hp : Pur c] {f : Nat → List PV} {off : Nat} {l : List α} (hs : Shows c f off l) : ∀ i, i < l.length → noO (f (off + i)) = true := fun i hi => by
 rw [hs i hi]; exact noO_pure (row_pure hp.pure i)
section
variable {α : Type} {D : List PV → α → Prop} {n : Nat} {f : Nat → List PV} {l q : List α} {x : α} {b : Nat}
theorem lapp1_at (h : lapp b l [x] = some q) : l ++ [x] = q := (ite_some h).2
theorem DR.appq (d : DR D n f l) (h : lapp b l [x] = some q) {cs : List PV} (hx : D cs x) : DR D q.length (fset f n cs) q := by
 have h1 := lapp1_at h
 subst h1
 exact (d.app hx).self
theorem DR.ln (d : DR D n f l) (h : lapp b l [x] = some q) : q.length = n + 1 := by
 have h1 := lapp1_at h
 subst h1
 simp [d.len]
theorem DR.lq (d : DR D n f l) (h : lapp b l [x] = some q) : n < q.length := by rw [d.ln h]; exact Nat.lt_succ_self n
theorem DR.lbd (d : DR D n f l) (h : lapp b l [x] = some q) : (n + 1) * b ≤ 140737488355328 := by
 have h1 := lapp_bd h
 rw [d.len] at h1
 exact h1
theorem lmake_dr [Inhabited α] {b : Nat} {i j : Int} (h : lmake b i j = some l) {cs : List PV} (hx : D cs default) : DR D l.length (fun i => bif Nat.blt i l.length then cs else []) l := by
 have h1 := (ite_some h).2
 subst h1
 have := DR.rep hx i.toNat
 simpa using this
end
theorem oslf_flat {α : Type} {c : α → List PV} [hp : Pur c] {l : List α} {n : Nat} (hl : l.length = n) (sz : Nat) (e : TypeId) (F : Nat → Prop) : OslF (.osl sz n e (row c l) F) (sl sz c l) :=
 oslf_row (fun i hi => by rw [row_lt hi]; exact ODL.pure (hp.pure _)) hl sz e F
end Go.Am
