/- Append, and calls. -/
import Derived.Test.YtgkniabpdgaoiaaDoorBm5
set_option linter.unusedVariables false
set_option linter.unusedSimpArgs false
namespace Go.Am
open Go Go.RowKit
section
variable {P : Program} {T : Tab} {μ : Mu} {h : List AObj} {S : Nat → Prop} {w : World}
theorem run_append_fit (t tx ty e : TypeId) (i : TypeInfo) (d : TypeDesc) (ht : P.underlying t = some (.slice e)) (hx : P.underlying tx = some d) (hd : (∃ e', d = .slice e') ∨ d = .string) (hi : P.info? e = some i)
  (sa : Option Addr) (sLen sCap : Nat) (xv : Value) (m : Nat) (news : Array Value) (w' : World) (hlen : (Builtin.lenOf xv).run P w = .ok m w) (hfc : (Builtin.firstCells i.size m xv).run P w = .ok news w) (hroom : sLen + m ≤ sCap)
  (hst : match sa with | some a => (storeCells (a.add (sLen * i.size)) news.toList).run P w = .ok () w' | none => w' = w) :
  (Builtin.append_ #[t, tx] ty #[.slice sa sLen sCap, xv]).run P w = .ok (.slice sa (sLen + m) sCap) w' := by
 rcases hd with ⟨e', rfl⟩ | rfl <;> cases sa with
 | none =>
  have hst : w' = w := hst
  subst hst
  simp [Builtin.append_, run_underlying ht, run_underlying hx, sizeOf, typeInfo, hi, hlen, hroom, hfc]
 | some a =>
  have hst : (storeCells (a.add (sLen * i.size)) news.toList).run P w = .ok () w' := hst
  simp [Builtin.append_, run_underlying ht, run_underlying hx, sizeOf, typeInfo, hi, hlen, hroom, hfc, hst]
theorem run_append_more (t tx ty e : TypeId) (i : TypeInfo) (z : Value) (d : TypeDesc) (ht : P.underlying t = some (.slice e)) (hx : P.underlying tx = some d) (hd : (∃ e', d = .slice e') ∨ d = .string) (hi : P.info? e = some i) (hz : i.zero = some z)
  (sa : Option Addr) (sLen sCap : Nat) (xv : Value) (m : Nat) (olds news : Array Value) (hlen : (Builtin.lenOf xv).run P w = .ok m w) (hfo : (Builtin.firstCells i.size sLen (.slice sa sLen sCap)).run P w.drew = .ok olds w.drew)
  (hfc : (Builtin.firstCells i.size m xv).run P w.drew = .ok news w.drew) (hg : sCap < sLen + m) (hb0 : 0 < i.bytes) (hfit : (sLen + m) * i.bytes ≤ 140737488355328) :
  (Builtin.append_ #[t, tx] ty #[.slice sa sLen sCap, xv]).run P w = .ok (.slice (some ⟨w.heap.size, 0, none⟩) (sLen + m) (grownCap w (sLen + m) sCap e))
   (w.drew.alloc (.cells (olds ++ news ++ Builtin.zeroCells z.cells (grownCap w (sLen + m) sCap e - (sLen + m))) e)) := by
 have hn : ¬ (sLen + m ≤ sCap) := by omega
 have hle : sLen + m ≤ (sLen + m) * i.bytes := Nat.le_mul_of_pos_right _ hb0
 have h63' : ¬ (9223372036854775807 < ((sLen : Int) + (m : Int))) := by omega
 have hfit2 := growslice_fits hg hfit
 have h48' : ¬ (281474976710656 < Builtin.nextslicecap (sLen + m) sCap * i.bytes) := by omega
 rcases hd with ⟨e', rfl⟩ | rfl <;>
  simp [Builtin.append_, run_underlying ht, run_underlying hx, sizeOf, typeInfo, zeroValue, hi, hz, hlen, hn, h63', h48', Question.forced, hfc, hfo, newRow, grownCap]
theorem read_row (b off m sz : Nat) (hsz : 0 < sz) (g : Nat → List PV) (hl : ∀ i, i < m → (g i).length = sz)
  (hcell : ∀ (i j : Nat) (pv : PV), i < m → (g i)[j]? = some pv → ∃ u, w.cell? ⟨b, off + i * sz + j, none⟩ = some u ∧ CRep μ h S w pv u) :
  ∃ news : Array Value, news.size = m * sz ∧ (∀ (i j : Nat) (pv : PV), i < m → (g i)[j]? = some pv → ∃ u, news[i * sz + j]? = some u ∧ CRep μ h S w pv u) ∧
   (∀ u ∈ news.toList, u.oneCell' = true) ∧ ∀ w', Agree w w' → (loadCells ⟨b, off, none⟩ (m * sz)).run P w' = .ok news w' := by
 let F : Nat → Value := fun q => (w.cell? ⟨b, off + q, none⟩).getD undef
 have hF : ∀ (i j : Nat) (pv : PV), i < m → (g i)[j]? = some pv → w.cell? ⟨b, off + (i * sz + j), none⟩ = some (F (i * sz + j)) ∧ CRep μ h S w pv (F (i * sz + j)) := fun i j pv hi hj => by
  obtain ⟨u, h1, h2⟩ := hcell i j pv hi hj
  have e : off + (i * sz + j) = off + i * sz + j := by omega
  have e2 : F (i * sz + j) = u := by
   show (w.cell? ⟨b, off + (i * sz + j), none⟩).getD undef = u
   rw [e, h1]; rfl
  rw [e2, e]
  exact ⟨h1, h2⟩
 have hq : ∀ q, q < m * sz → ∃ pv, q / sz < m ∧ (g (q / sz))[q % sz]? = some pv := fun q hq => by
  have h1 : q / sz < m := (Nat.div_lt_iff_lt_mul hsz).2 hq
  have h2 : q % sz < (g (q / sz)).length := by rw [hl _ h1]; exact Nat.mod_lt _ hsz
  exact ⟨_, h1, List.getElem?_eq_getElem h2⟩
 have hdm : ∀ q, q / sz * sz + q % sz = q := fun q => by rw [Nat.mul_comm]; exact Nat.div_add_mod q sz
 refine ⟨((List.range (m * sz)).map F).toArray, by simp, fun i j pv hi hj => ?_, fun u hu => ?_, fun w' ha => ?_⟩
 ·have hjs : j < sz := by rw [← hl i hi]; exact (List.getElem?_eq_some_iff.1 hj).1
  have hlt : i * sz + j < m * sz := by
   have : (i + 1) * sz ≤ m * sz := Nat.mul_le_mul_right _ hi
   rw [Nat.add_mul] at this
   omega
  exact ⟨F (i * sz + j), by simp [hlt], (hF i j pv hi hj).2⟩
 ·simp only [List.mem_map, List.mem_range] at hu
  obtain ⟨q, hql, rfl⟩ := hu
  obtain ⟨pv, h1, h2⟩ := hq q hql
  have := (hF _ _ pv h1 h2).2.one
  rwa [hdm] at this
 ·refine run_loadCells w' ⟨b, off, none⟩ (m * sz) F fun q hql => ?_
  obtain ⟨pv, h1, h2⟩ := hq q hql
  have := (hF _ _ pv h1 h2).1
  rw [hdm] at this
  rw [Addr.add_lit]
  exact ha.cell this
def Src (P : Program) (μ : Mu) (h : List AObj) (S : Nat → Prop) (w : World) (xv : Value) (sz m : Nat) (g : Nat → List PV) : Prop :=
 (∀ i, i < m → (g i).length = sz) ∧ ∃ news : Array Value, news.size = m * sz ∧ (∀ (i j : Nat) (pv : PV), i < m → (g i)[j]? = some pv → ∃ u, news[i * sz + j]? = some u ∧ CRep μ h S w pv u) ∧
  (∀ u ∈ news.toList, u.oneCell' = true) ∧ ∀ w', Agree w w' → (Builtin.lenOf xv).run P w' = .ok m w' ∧ (Builtin.firstCells sz m xv).run P w' = .ok news w'
theorem Src.empty (xv : Value) (sz : Nat) (g : Nat → List PV) (hx : ∃ a c, xv = .slice a 0 c) : Src P μ h S w xv sz 0 g := by
 obtain ⟨a, c, rfl⟩ := hx
 refine ⟨fun i hi => absurd hi (by omega), #[], by simp, fun i j pv hi => absurd hi (by omega), fun u hu => by simp at hu, fun w' _ => ⟨rfl, ?_⟩⟩
 cases a with
 | none => rfl
 | some a => simp [Builtin.firstCells, loadCells, loadCellsFrom]
theorem own_cells (hc : Core μ h S w) (id g off len sz n : Nat) (e : TypeId) (f : Nat → List PV) (hh : h[id]? = some (AObj.row g sz n e f)) (v : Value) (hv : VRep μ h S w (.own id g off len) v) (hsz : 0 < sz) : Src P μ h S w v sz len (fun i => f (off + i)) := by
 have hr := hv.own_inv
 unfold OwnRep at hr
 rw [hh] at hr
 obtain ⟨_, _, hr⟩ := hr
 obtain ⟨hle, hr⟩ := hr rfl
 obtain ⟨hl, hcell⟩ := hc.heap id g sz n e f hh
 cases hmu : μ id with
 | none =>
  rw [hmu] at hr hcell
  have hn : n = 0 := hcell
  have h0 : len = 0 := by omega
  subst h0
  exact Src.empty v sz _ ⟨_, _, hr⟩
 | some p =>
  obtain ⟨b, base⟩ := p
  rw [hmu] at hr hcell
  obtain ⟨ad, cap, hv, hlc, had, hcp⟩ := hr
  obtain ⟨cur, hcur, hfit, hcells⟩ := HeapRep.cells hcp hcell
  rcases Nat.eq_zero_or_pos len with h0 | h0
  ·subst h0
   exact Src.empty v sz _ ⟨_, _, hv⟩
  ·have had := had (by omega)
   subst had
   obtain ⟨news, q1, q2, q3, q4⟩ := read_row (P := P) (μ := μ) (h := h) (S := S) (w := w) b (base + off * sz) len sz hsz (fun i => f (off + i)) (fun i hi => hl _ (by omega)) (fun i j pv hi hj => by
    obtain ⟨u, r1, r2⟩ := hcells (off + i) j pv (by omega) hj
    refine ⟨u, ?_, r2⟩
    rw [cell_of_row w b _ cur e (0, 0) hcur, ← r1]
    congr 1
    rw [Nat.add_mul]
    omega)
   exact ⟨fun i hi => hl _ (by omega), news, q1, q2, q3, fun w' ha => ⟨by rw [hv]; rfl, by rw [hv]; exact q4 w' ha⟩⟩
theorem src_sound (hc : Core μ h S w) (x : PV) (xv : Value) (hx : VRep μ h S w x xv) (sz : Nat) (hsz : 0 < sz) (K : Nat → (Nat → List PV) → Prop) (hp : psrc x h sz K) : ∃ m g, K m g ∧ Src P μ h S w xv sz m g := by
 unfold psrc at hp
 split at hp
 ·exact ⟨_, _, hp, Src.empty _ _ _ ⟨_, _, hx.nils_inv⟩⟩
 ·rename_i sz' m g
  replace hp := guardB_elim hp
  obtain ⟨hse, hp⟩ := hp
  obtain rfl := Nat.eq_of_beq_eq_true hse
  refine ⟨m, g, hp, ?_⟩
  rcases hx.slc_inv with ⟨a, c, ex, rfl⟩ | ⟨b, off, c, vf, ex, hS, hl, hc', hcell, hrep⟩
  ·exact Src.empty _ _ _ ⟨_, _, ex⟩
  ·obtain ⟨news, q1, q2, q3, q4⟩ := read_row (P := P) (μ := μ) (h := h) (S := S) (w := w) b off m sz hsz g hl (fun i j pv hi hj => ⟨_, hcell i j pv hi hj, CRep.of_pure (hrep i j pv hi hj)⟩)
   exact ⟨hl, news, q1, q2, q3, fun w' ha => ⟨by rw [ex]; rfl, by rw [ex]; exact q4 w' ha⟩⟩
 ·rename_i id gen off m
  split at hp
  ·rename_i g sz' n e f hg
   obtain ⟨rfl, hp⟩ := hp
   replace hp := guardB_elim hp
   obtain ⟨hse, hp⟩ := hp
   obtain rfl := Nat.eq_of_beq_eq_true hse
   exact ⟨m, _, hp, own_cells hc id g off m sz n e f (hget_some hg) xv hx hsz⟩
  ·exact hp.elim
 ·rename_i s
  replace hp := guardB_elim hp
  obtain ⟨hse, hp⟩ := hp
  obtain rfl := Nat.eq_of_beq_eq_true hse
  refine ⟨_, _, hp, fun i hi => rfl, (s.map fun b => Value.int .u8 b.toNat).toArray, by simp, fun i j pv hi hj => ?_, fun u hu => ?_, fun w' _ => ⟨by rw [hx.str_inv]; rfl, ?_⟩⟩
  ·cases j with
   | zero =>
    simp at hj
    subst hj
    refine ⟨.int .u8 (s.getD i 0).toNat, ?_, PRep.int _ _⟩
    rw [List.getD_eq_getElem?_getD, List.getElem?_eq_getElem hi]
    simp [hi]
   | succ j => simp at hj
  ·simp at hu
   obtain ⟨b, _, rfl⟩ := hu
   rfl
  ·rw [hx.str_inv]
   have e1 : (ByteArray.mk ⟨s⟩).extract 0 s.length = ByteArray.mk ⟨s⟩ := by rw [str_extract]; simp
   simp only [Builtin.firstCells, e1]
   simp
 ·exact hp.elim
end
end Go.Am
