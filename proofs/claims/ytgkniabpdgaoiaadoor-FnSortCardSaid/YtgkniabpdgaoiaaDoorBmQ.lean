/- Short words for printed walks. -/
import Derived.Test.YtgkniabpdgaoiaaDoorBmP
set_option linter.unusedVariables false
set_option linter.unusedSimpArgs false
namespace Go.Am
open Go Go.RowKit
class Pur {α : Type} (c : α → List PV) : Prop where
 pure : ∀ x, (c x).all isPure = true
instance : Pur cI := ⟨cI_pure⟩
instance (k : IntKind) : Pur (cInt k) := ⟨cInt_pure k⟩
instance : Pur cB := ⟨cB_pure⟩
instance : Pur cT := ⟨cT_pure⟩
instance : Pur cS := ⟨cS_pure⟩
instance {α : Type} (sz : Nat) (c : α → List PV) : Pur (cL sz c) := ⟨cL_pure sz c⟩
instance (a b : IntKind) : Pur (mc (PV.int a) (PV.int b)) := ⟨fun _ => rfl⟩
instance (a : IntKind) : Pur (mc (PV.int a) PV.bool) := ⟨fun _ => rfl⟩
instance (a : IntKind) : Pur (mc (PV.int a) PV.str) := ⟨fun _ => rfl⟩
instance (b : IntKind) : Pur (mc PV.str (PV.int b)) := ⟨fun _ => rfl⟩
instance : Pur (mc PV.str PV.bool) := ⟨fun _ => rfl⟩
instance : Pur (mc PV.str PV.str) := ⟨fun _ => rfl⟩
def lcopy {α : Type} (l : List α) (off : Nat) (s : List α) : List α := l.mapIdx fun i x => if i < off then x else if i < off + s.length then s.getD (i - off) x else x
@[simp] theorem lcopy_len {α : Type} (l : List α) (off : Nat) (s : List α) : (lcopy l off s).length = l.length := by unfold lcopy; simp
section
variable {h η : List AObj} {k : List Nat}
theorem Fz.i {q : IntKind} {a b : Int} (e : a = b := by rfl) : Fz h η k (.int q a) (.int q b) := .int_eq e
theorem Fz.b {a b : Bool} (e : a = b := by rfl) : Fz h η k (.bool a) (.bool b) := .bool_eq e
theorem Fz.s {a b : List UInt8} (e : a = b := by rfl) : Fz h η k (.str a) (.str b) := .str_eq e
theorem Fz.l {sz n : Nat} {f : Nat → List PV} : Fz h η k (.slc sz n f) (.slc sz n f) := .slc _ _ _ _ (fun _ _ => rfl)
theorem Fz.z {α : Type} {c : α → List PV} {sz : Nat} : Fz h η k .nils (sl sz c []) := .nils0 _ _
theorem Fz.g {id id' g' sz' : Nat} {e' : TypeId} {f' : Nat → List PV} (hk : k[id']? = some id := by rfl) (ho : h[id]? = none := by rfl) (hη : η[id']? = some (AObj.row g' sz' 0 e' f') := by rfl) : Fz h η k .nils (.own id' g' 0 0) := .nilo id id' g' sz' e' f' hk ho hη
theorem Fz.o {id id' g g' sz sz' n len : Nat} {e e' : TypeId} {f f' : Nat → List PV} (hk : k[id']? = some id := by rfl) (ho : h[id]? = some (AObj.row g sz n e f) := by rfl) (hη : η[id']? = some (AObj.row g' sz' len e' f') := by rfl) : Fz h η k (.own id g 0 len) (.own id' g' 0 len) :=
 .own _ _ _ _ _ _ _ _ _ _ _ _ _ _ hk ho hη (Nat.le_of_eq (Nat.zero_add _))
theorem Fz.p {id id' g g' sz sz' n n' off : Nat} {e e' : TypeId} {f f' : Nat → List PV} (hk : k[id']? = some id := by rfl) (ho : h[id]? = some (AObj.row g sz n e f) := by rfl) (hη : η[id']? = some (AObj.row g' sz' (n' + 1) e' f') := by rfl) : Fz h η k (.optr id g 0 off) (.optr id' g' 0 off) :=
 .optr _ _ _ _ _ _ _ _ _ _ _ _ _ _ hk ho hη (Nat.succ_pos _)
theorem Fz.m {id id' g g' sz sz' n n' : Nat} {e e' : TypeId} {f f' : Nat → List PV} (hk : k[id']? = some id := by rfl) (ho : h[id]? = some (AObj.row g sz n e f) := by rfl) (hη : η[id']? = some (AObj.row g' sz' n' e' f') := by rfl) : Fz h η k (.omp id) (.omp id') :=
 .omp _ _ _ _ _ _ _ _ _ _ _ _ hk ho hη
theorem Fz.j {pv : PV} : Fz h η k pv .junk := .junk _
theorem Fz.f {n : Nat} : Fz h η k (.fn n) (.fn n) := .fn _
theorem Fz.r {α : Type} {c : α → List PV} [Pur c] {id g sz n : Nat} {e : TypeId} {l : List α} (ho : h[id]? = some (AObj.row g sz n e (row c l)) := by rfl) (hk : id ∉ k := by first | decide | simp) : Fz h η k (.own id g 0 l.length) (sl sz c l) := fz_frz Pur.pure hk ho shows_all
theorem Fz.rx {α : Type} {c : α → List PV} [Pur c] {id g sz n len : Nat} {e : TypeId} {l : List α} (hl : len = l.length) (ho : h[id]? = some (AObj.row g sz n e (row c l)) := by rfl) (hk : id ∉ k := by first | decide | simp) : Fz h η k (.own id g 0 len) (sl sz c l) := fz_frz2 Pur.pure hk ho shows_all hl
variable {m : Nat}
theorem od {α : Type} {c : α → List PV} [Pur c] {id g sz : Nat} {e : TypeId} {l : List α} (ho : h[id]? = some (AObj.row g sz l.length e (row c l)) := by rfl) : OFz h η k m (.row g sz l.length e (row c l)) id id := by
 unfold OFz; rw [ho]; exact ⟨fun _ => ⟨rfl, rfl⟩, rfl, .inl rfl, rfl, fun i _ => fzl_pure (row_pure Pur.pure i)⟩
theorem ob {id g sz : Nat} {e : TypeId} {a b : List PV} (ho : h[id]? = some (AObj.row g sz 1 e (fun _ => a))) (F : FzL h η k a b) : OFz h η k m (.row g sz 1 e (fun _ => b)) id id := by
 unfold OFz; rw [ho]; exact ⟨fun _ => ⟨rfl, rfl⟩, rfl, .inl rfl, rfl, fun i _ => F⟩
theorem nw {α : Type} {c : α → List PV} [Pur c] {i id g g' sz : Nat} {e : TypeId} {l : List α} (hi : Nat.ble m i = true := by rfl) (ho : h[id]? = some (AObj.row g sz l.length e (row c l)) := by rfl) : OFz h η k m (.row g' sz l.length e (row c l)) i id := by
 unfold OFz; rw [ho]; exact ⟨fun h0 => absurd h0 (Nat.not_lt.2 (Nat.le_of_ble_eq_true hi)), rfl, .inl rfl, rfl, fun i _ => fzl_pure (row_pure Pur.pure i)⟩
theorem nb {i id g g' sz : Nat} {e : TypeId} {a b : List PV} (ho : h[id]? = some (AObj.row g sz 1 e (fun _ => a))) (F : FzL h η k a b) (hi : Nat.ble m i = true := by rfl) : OFz h η k m (.row g' sz 1 e (fun _ => b)) i id := by
 unfold OFz; rw [ho]; exact ⟨fun h0 => absurd h0 (Nat.not_lt.2 (Nat.le_of_ble_eq_true hi)), rfl, .inl rfl, rfl, fun i _ => F⟩
theorem obp {id g sz : Nat} {e : TypeId} {a : List PV} (ho : h[id]? = some (AObj.row g sz 1 e (fun _ => a))) (hp : a.all isPure = true := by rfl) : OFz h η k m (.row g sz 1 e (fun _ => a)) id id := ob ho (fzl_pure hp)
theorem nbp {i id g g' sz : Nat} {e : TypeId} {a : List PV} (ho : h[id]? = some (AObj.row g sz 1 e (fun _ => a))) (hp : a.all isPure = true := by rfl) (hi : Nat.ble m i = true := by rfl) : OFz h η k m (.row g' sz 1 e (fun _ => a)) i id := nb ho (fzl_pure hp) hi
theorem dd {i id : Nat} : OFz h η k m .dead i id := by unfold OFz; trivial
theorem gh {i id g' sz' : Nat} {e' : TypeId} {f' : Nat → List PV} (hi : Nat.ble m i = true := by rfl) (ho : h[id]? = none := by rfl) : OFz h η k m (.row g' sz' 0 e' f') i id := by
 unfold OFz; rw [ho]; exact ⟨Nat.le_of_ble_eq_true hi, rfl⟩
theorem tk {env : Env} {σ : List (Nat × PV)} (k : List Nat) (he : FzEnv h η k env σ) (hh : FzHeap h η k m 0 η k) (hd : nodupB (liveK η k) = true := by rfl) (hl : Nat.ble m k.length = true := by rfl) : Taken m env h σ η := ⟨k, hd, Nat.le_of_ble_eq_true hl, he, hh⟩
theorem ct {J : List (Nat × PV) → List AObj → Prop} {env : Env} {σ : List (Nat × PV)} (hj : J σ η) (ht : Taken m env h σ η) : cutGo m J env h := ⟨σ, η, ht, hj⟩
theorem lg {body : (Env → List AObj → Prop) → Env → List AObj → Prop} {env : Env} {σ : List (Nat × PV)} (hj : LoopAt m body σ η) (ht : Taken m env h σ η) : loopGo m body env h := ⟨σ, η, ht, hj⟩
theorem le {body : (Env → List AObj → Prop) → Env → List AObj → Prop} {env : Env} {σ : List (Nat × PV)} (hj : LoopAt m body σ η) (ht : Taken m env h σ η) : LoopI m body env h := .take σ η ht hj
theorem en {R : PV → List AObj → Prop} {vs : List PV} {res : PV} (k : List Nat) (hR : R res η) (F : Fz h η k (oneOf vs) res) (hh : FzHeap h η k m 0 η k) (hd : nodupB (liveK η k) = true := by rfl) (hl : Nat.ble m k.length = true := by rfl) (hn : vs.all notTup = true := by rfl) : Ends m R h vs := by
 exact ⟨hn, k, res, η, hd, Nat.le_of_ble_eq_true hl, F, hh, hR⟩
theorem eB {a r : Bool} (hh : some a = some r) : Ends 0 (fun res h => res = .bool r ∧ h = []) h [.bool a] := ⟨rfl, [], _, [], rfl, Nat.le_refl _, .bool_eq (Option.some.inj hh), trivial, rfl, rfl⟩
theorem eI {q : IntKind} {a r : Int} (hh : some a = some r) : Ends 0 (fun res h => res = .int q r ∧ h = []) h [.int q a] := ⟨rfl, [], _, [], rfl, Nat.le_refl _, .int_eq (Option.some.inj hh), trivial, rfl, rfl⟩
theorem eS {a r : List UInt8} (hh : some a = some r) : Ends 0 (fun res h => res = .str r ∧ h = []) h [.str a] := ⟨rfl, [], _, [], rfl, Nat.le_refl _, .str_eq (Option.some.inj hh), trivial, rfl, rfl⟩
end
section
variable {α : Type} {x y r : α} {T F : Prop}
theorem sD {c : Prop} [Decidable c] (h : (if c then x else y) = r) (kT : decide c = true → x = r → T) (kF : decide c = false → y = r → F) : splitB (decide c) T F := .mk (fun hb => kT hb (T_dec hb h)) (fun hb => kF hb (F_dec hb h))
theorem sDn {c : Prop} [Decidable c] (h : (if c then x else y) = r) (kT : (!decide c) = true → y = r → T) (kF : (!decide c) = false → x = r → F) : splitB (!decide c) T F := .mk (fun hb => kT hb (F_dec (not_F hb) h)) (fun hb => kF hb (T_dec (not_T hb) h))
theorem sE {β : Type} [BEq β] [LawfulBEq β] {a b : β} [Decidable (a = b)] (h : (if a = b then x else y) = r) (kT : (a == b) = true → x = r → T) (kF : (a == b) = false → y = r → F) : splitB (a == b) T F := .mk (fun hb => kT hb (T_beq hb h)) (fun hb => kF hb (F_beq hb h))
theorem sEn {β : Type} [BEq β] [LawfulBEq β] {a b : β} [Decidable (a = b)] (h : (if a = b then x else y) = r) (kT : (!(a == b)) = true → y = r → T) (kF : (!(a == b)) = false → x = r → F) : splitB (!(a == b)) T F := .mk (fun hb => kT hb (F_beq (not_F hb) h)) (fun hb => kF hb (T_beq (not_T hb) h))
theorem sN {β : Type} [BEq β] [LawfulBEq β] {a b : β} [Decidable (a = b)] (h : (if a = b then x else y) = r) (kT : (a != b) = true → y = r → T) (kF : (a != b) = false → x = r → F) : splitB (a != b) T F := .mk (fun hb => kT hb (T_bne hb h)) (fun hb => kF hb (F_bne hb h))
theorem sV {b : Bool} (h : (if b = true then x else y) = r) (kT : b = true → x = r → T) (kF : b = false → y = r → F) : splitB b T F := .mk (fun hb => kT hb (T_var hb h)) (fun hb => kF hb (F_var hb h))
theorem sVn {b : Bool} (h : (if b = true then x else y) = r) (kT : (!b) = true → y = r → T) (kF : (!b) = false → x = r → F) : splitB (!b) T F := .mk (fun hb => kT hb (F_var (not_F hb) h)) (fun hb => kF hb (T_var (not_T hb) h))
end
theorem splitB.t {T F : Prop} (h : T) : splitB true T F := splitB_t h
theorem splitB.f {T F : Prop} (h : F) : splitB false T F := splitB_f h
theorem splitB.kt {b : Bool} {T F : Prop} (hb : b = true) (h : T) : splitB b T F := splitB_kt hb h
theorem SeqVC.d {m : Nat} {A B : XQ → Env → List AObj → Prop} {Q : XQ} {env : Env} {h : List AObj} (hd : A (XQ.then (B Q) Q) env h) : SeqVC m A B Q env h := .direct hd
inductive Nz : PV → PV → Prop
 | same (a : PV) : Nz a a
 | nil (sz : Nat) (f : Nat → List PV) : Nz .nils (.slc sz 0 f)
def NzL : List PV → List PV → Prop
 | [], [] => True
 | a :: l, b :: r => Nz a b ∧ NzL l r
 | _, _ => False
inductive NzA : PV → PV → Prop
 | same (a : PV) : NzA a a
 | nil (sz : Nat) (f : Nat → List PV) : NzA .nils (.slc sz 0 f)
 | agg {cs cs' : List PV} (h : NzL cs cs') : NzA (.agg cs) (.agg cs')
def NzAL : List PV → List PV → Prop
 | [], [] => True
 | a :: l, b :: r => NzA a b ∧ NzAL l r
 | _, _ => False
theorem NzL.get : ∀ {l r : List PV}, NzL l r → r.length = l.length ∧ ∀ (j : Nat) (p : PV), r[j]? = some p → ∃ q : PV, l[j]? = some q ∧ Nz q p
 | [], [], _ => ⟨rfl, fun j p h => by simp at h⟩
 | a :: l, b :: r, h => by
  obtain ⟨h1, h2⟩ := NzL.get h.2
  refine ⟨by simp [h1], fun j p hj => ?_⟩
  cases j with
  | zero => simp at hj; subst hj; exact ⟨a, rfl, h.1⟩
  | succ j => obtain ⟨q, q1, q2⟩ := h2 j p (by simpa using hj); exact ⟨q, by simpa using q1, q2⟩
 | [], _ :: _, h => h.elim
 | _ :: _, [], h => h.elim
theorem NzAL.get : ∀ {l r : List PV}, NzAL l r → r.length = l.length ∧ ∀ (j : Nat) (p : PV), r[j]? = some p → ∃ q : PV, l[j]? = some q ∧ NzA q p
 | [], [], _ => ⟨rfl, fun j p h => by simp at h⟩
 | a :: l, b :: r, h => by
  obtain ⟨h1, h2⟩ := NzAL.get h.2
  refine ⟨by simp [h1], fun j p hj => ?_⟩
  cases j with
  | zero => simp at hj; subst hj; exact ⟨a, rfl, h.1⟩
  | succ j => obtain ⟨q, q1, q2⟩ := h2 j p (by simpa using hj); exact ⟨q, by simpa using q1, q2⟩
 | [], _ :: _, h => h.elim
 | _ :: _, [], h => h.elim
section
variable {P : Program} {f : FuncId} {args : List PV} {h : List AObj} {K : PV → List AObj → Prop} {r0 : PV}
theorem pcP (hA : ACall P f args [] (fun res h => res = r0 ∧ h = [])) (k : K r0 h) (hp : args.all pureA = true := by rfl) (hr : ∀ n, shiftV n r0 = r0 := by intro _; rfl) : pcall P f args h K :=
 ⟨_, hA.pure0 h hp hr, by rintro _ _ ⟨rfl, rfl⟩; exact k⟩
theorem pcS {args' : List PV} (hA : ACall P f args' [] (fun res h => res = r0 ∧ h = [])) (hz : FzL h [] [] args args') (k : K r0 h) (hn : args'.all notTup = true := by rfl) (hf : flatV r0 = true := by rfl) (hr : ∀ n, shiftV n r0 = r0 := by intro _; rfl) : pcall P f args h K :=
 ⟨_, hA.snap0 h hz hn hf hr, by rintro _ _ ⟨rfl, rfl⟩; exact k⟩
theorem shr {α : Type} {c : α → List PV} [Pur c] (N g sz n : Nat) (e : TypeId) (l : List α) : shiftO N (.row g sz n e (row c l)) = .row g sz n e (row c l) := shiftO_row Pur.pure N g sz n e l
theorem rer {α : Type} {c : α → List PV} [Pur c] (σ : Nat → Nat) (g sz n : Nat) (e : TypeId) (l : List α) : renO σ (.row g sz n e (row c l)) = .row g sz n e (row c l) := renO_row Pur.pure σ g sz n e l
theorem pcF {h0 : List AObj} (hA : ACall P f args [] (fun res h => res = r0 ∧ h = h0)) (r1 : PV) (h1 : List AObj) (k : K r1 h1) (e2 : h ++ h0.map (shiftO h.length) = h1 := by simp only [List.map_cons, List.map_nil, shr]; rfl) (e1 : shiftV h.length r0 = r1 := by rfl) (hp : args.all pureA = true := by rfl) : pcall P f args h K :=
 ⟨_, hA.frame h hp, by rintro _ _ ⟨_, _, ⟨rfl, rfl⟩, rfl, rfl⟩; rw [e1, e2]; exact k⟩
def OvL (h : List AObj) (σ : Nat → Nat) : List AObj → List Nat → Prop
 | [], _ => True
 | o :: r, i :: is => h[i]? = some (renO σ o) ∧ OvL h σ r is
 | _ :: _, [] => False
theorem OvL.get {h : List AObj} {σ : Nat → Nat} : ∀ {hc : List AObj} {is : List Nat}, OvL h σ hc is → ∀ (j : Nat) (o : AObj), hc[j]? = some o → ∃ i : Nat, is[j]? = some i ∧ h[i]? = some (renO σ o)
 | [], _, _, j, o, hj => by simp at hj
 | a :: r, [], hh, _, _, _ => hh.elim
 | a :: r, i :: is, hh, 0, o, hj => by simp at hj; subst hj; exact ⟨i, rfl, hh.1⟩
 | a :: r, i :: is, hh, j + 1, o, hj => by
  obtain ⟨q, h1, h2⟩ := OvL.get hh.2 j o (by simpa using hj)
  exact ⟨q, by simpa using h1, h2⟩
theorem ov {α : Type} {c : α → List PV} [Pur c] {σ : Nat → Nat} {g sz n : Nat} {e : TypeId} {l : List α} {x : Option AObj} (hx : x = some (.row g sz n e (row c l)) := by rfl) : x = some (renO σ (.row g sz n e (row c l))) := by rw [renO_row Pur.pure]; exact hx
theorem ACall.overL {hc : List AObj} {args args0 : List PV} {R : PV → List AObj → Prop} (hA : ACall P f args hc R) (is : List Nat) (h : List AObj) (hobj : OvL h (sigma is h.length) hc is) (hl : hc.length = is.length) (hd : is.Nodup) (hlt : is.all (fun id => Nat.blt id h.length) = true)
  (hargs : args0 = args.map (renA (sigma is h.length))) : ACall P f args0 h (fun res h' => ∃ r0 h0, R r0 h0 ∧ res = renV (sigma is h.length) r0 ∧ h' = nxtL h is h0) :=
 hA.over is h hl hd (fun id hid => Nat.le_of_ble_eq_true (List.all_eq_true.1 hlt id hid)) (fun j o hj => by
  obtain ⟨i, h1, h2⟩ := hobj.get j o hj
  unfold sigma; rw [h1]; exact h2) hargs
theorem pcO {hc h0 : List AObj} {args args0 : List PV} (hA : ACall P f args hc (fun res h => res = r0 ∧ h = h0)) (is : List Nat) (hobj : OvL h (sigma is h.length) hc is) (r1 : PV) (h1 : List AObj) (k : K r1 h1) (e2 : nxtL h is h0 = h1 := by simp only [nxtL, putSel, List.map_cons, List.map_nil, List.drop, List.length_cons, List.length_nil, rer]; rfl) (e1 : renV (sigma is h.length) r0 = r1 := by rfl)
  (hl : hc.length = is.length := by rfl) (hd : is.Nodup := by decide) (hlt : is.all (fun id => Nat.blt id h.length) = true := by rfl) (hargs : args0 = args.map (renA (sigma is h.length)) := by rfl) : pcall P f args0 h K :=
 ⟨_, hA.overL is h hobj hl hd hlt hargs, by rintro _ _ ⟨_, _, ⟨rfl, rfl⟩, rfl, rfl⟩; rw [e1, e2]; exact k⟩
end
theorem si {α : Type} {a b : α} (h : some a = some b) : a = b := Option.some.inj h
theorem bk {α β : Type} {x : Option α} {f : α → Option β} {r : β} {G : Prop} (h : (x >>= f) = some r) (k : ∀ a, x = some a → f a = some r → G) : G := by
 obtain ⟨a, h1, h2⟩ := bind_some h
 exact k a h1 h2
theorem bd {α β : Type} {x : Option α} {f : α → Option β} {r : β} (h : (x >>= f) = some r) : ∃ a, x = some a ∧ f a = some r := bind_some h
end Go.Am
