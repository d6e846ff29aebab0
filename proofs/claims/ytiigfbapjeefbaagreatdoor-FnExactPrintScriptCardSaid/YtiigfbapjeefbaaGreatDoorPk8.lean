/- Texts of the proof, joined and shortened. -/
import Derived.Test.YtiigfbapjeefbaaGreatDoorPk7
import Derived.DataReads
import Derived.ChangeArms
import Derived.Lib.AtoiTie
import Derived.Lib.IndexMore
set_option linter.unusedVariables false
set_option linter.unusedSimpArgs false
set_option maxRecDepth 100000
namespace Go.Am
open Go Go.RowKit Go.Proofs
def eP (a0 : ae) : Option (Bool) :=
 jX a0 1048576 >>= fun v1 =>
 (if v1 < 0 then
 some true
 else
 ib a0 >>= fun v4 =>
 im v4 >>= fun v6 =>
 ib a0 >>= fun v8 =>
 iu v8 >>= fun v10 =>
 (if v10 = v6 then
 ib a0 >>= fun o9 =>
 jY v8 o9 >>= fun xN =>
 (if xN = true then
 some true
 else
 some false)
 else
 some false))
theorem nB {a0 : ae} {r : Bool} (h : eP a0 = some r) : ACall Tryz.prog 5 [.agg a0.lit] [] (fun res h => res = .bool r ∧ h = []) := by
 refine gq Tryz.func5 ?_
 unfold eP at h
 refine .d (.d (.d ⟨rfl, _, rfl, (bk h fun v1 mq h => (aR (B7 mq) (.d (.d (sD h (fun oV h => ?_) (fun oV h => ?_))))))⟩))
 exact auL
 refine .d ⟨rfl, _, rfl, (bk h fun v4 vW h => (aR (pk vW) (bk h fun v6 hv7 h => (aR (tG hv7) (.d ⟨rfl, _, rfl, (bk h fun v8 hv9 h => (aR (pk hv9) ⟨rfl, _, fun _ => [.int .i64 v8.ai, .int .i64 v8.aC, .str v8.aj, sl 4 ae.cells v8.ah], rfl, bI rfl, (.d ⟨rfl, _, rfl, (bk h fun v10 Kd h => (aR (tO Kd) ?_))⟩)⟩))⟩)))))⟩
 refine .d (.d (Pd h (fun oO h => ?_) (fun oO h => ?_)))
 exact auL
 refine .d (.d (.float [(0, true), (1, true), (2, false), (3, false), (4, true)] avs ?_))
 refine ⟨rfl, _, rfl, ⟨rfl, _, rfl, (bk h fun o9 qL h => (aR (pk qL) ⟨rfl, (bk h fun xN Dd h => (aR (B8 Dd) (jV h (fun rX h => ?_) (fun rX h => ?_))))⟩))⟩⟩
 exact auL
 exact auL
set_option maxRecDepth 20000
def la (S : Nat → Prop) (w : World) (pvs : List PV) (cs : List Value) : Prop := cs.length = pvs.length ∧ ∀ (j : Nat) (pv : PV), pvs[j]? = some pv → ∃ u, cs[j]? = some u ∧ aF S w pv u
theorem akj {α : Type} {l : List α} (h : l.length = 4) : ∃ a0 a1 a2 a3, l = [a0, a1, a2, a3] := by
 rcases l with _ | ⟨a0, _ | ⟨a1, _ | ⟨a2, _ | ⟨a3, _ | ⟨b, l⟩⟩⟩⟩⟩ <;> simp at h
 exact ⟨a0, a1, a2, a3, rfl⟩
section
variable {P : Program} {H : Type} {enc : TypeId × Value → H} {w : World} {spare : Nat → Bool} {held : Bool} {S : Nat → Prop}
theorem PQ {α : Type} (cells : α → List PV) (good : α → Prop) (Lo : α) {ts te : TypeId} {sz : Nat} (hu : P.underlying ts = some (.slice te)) (hc : P.cellsOf te = sz) (yg : 0 < sz) (hlen : ∀ a, (cells a).length = sz)
  (hS : ∀ b, b < w.heap.size → S b) {fuel : Nat} (aaR : ∀ n, n < fuel → ∀ (cs : List Value) (x : DataW H × List MemPlace), DataW.trod enc P w 0 spare held n te cs = some x → ∃ a, good a ∧ la S w (cells a) cs)
  {e : Value} {x : DataW H × List MemPlace} (h : DataW.trod enc P w 0 spare held fuel ts [e] = some x) :
  ∃ (n : Nat) (f : Nat → α), n ≤ 9223372036854775807 ∧ (∀ i, i < n → good (f i)) ∧ aF S w (.eG sz n (fun i => cells (f i))) e := by
 rcases DataW.trod_slice hu h with ⟨e4, _⟩ | ⟨ad, len, cap, elems, rest, n', hn', e4, _, hb, PR, dZ, hel, bV, _⟩
 ·simp at e4
  subst e4
  exact ⟨0, fun _ => Lo, by omega, fun i hi => absurd hi (atq _), .mr _ _ _ _⟩
 ·simp at e4
  subst e4
  rw [hc] at bV
  have each : ∀ i, ∃ a : α, i < len → good a ∧ ∃ tP, w.cells? 0 (ad.add (i * sz)) sz = some tP ∧ la S w (cells a) tP := fun i => by
   by_cases hi : i < len
   ·have hg := bV i hi
    rw [amb avh] at hg
    obtain ⟨tP, q1, q2⟩ := Option.bind_eq_some_iff.1 hg
    obtain ⟨a, g1, g2⟩ := aaR n' avh _ _ q2
    exact ⟨a, fun _ => ⟨g1, tP, q1, g2⟩⟩
   ·exact ⟨Lo, fun h => absurd h hi⟩
  obtain ⟨kv, OU⟩ := Classical.axiomOfChoice each
  rcases atw len with h00 | hposl
  ·subst h00
   exact ⟨0, fun _ => Lo, by omega, fun i hi => absurd hi (atq _), .mr _ _ _ _⟩
  ·refine ⟨len, kv, by simp [maxLen] at dZ; omega, fun i hi => (OU i hi).1, ?_⟩
   obtain ⟨bl, off, spot⟩ := ad
   have aJ : ∀ i, i < len → ∀ j pv, (cells (kv i))[j]? = some pv → ∃ u, w.cell? ((Addr.add ⟨bl, off, spot⟩ (i * sz)).add j) = some u ∧ aF S w pv u := fun i hi j pv hj => by
    obtain ⟨_, tP, q1, q2, q3⟩ := OU i hi
    obtain ⟨u, hu, hr⟩ := q3 j pv hj
    obtain ⟨_, _, r3⟩ := World.cells?_some q1
    have hj8 : j < sz := by have := (At.1 hj).1; rw [hlen] at this; exact this
    exact ⟨u, by rw [r3 j hj8, hu], hr⟩
   have h0 : ∃ pv, (cells (kv 0))[0]? = some pv := ⟨_, amb (by rw [hlen]; exact yg)⟩
   obtain ⟨pv0, aqA⟩ := h0
   obtain ⟨u0, hu0, _⟩ := aJ 0 hposl 0 _ aqA
   have akk : spot = none := by
    have := World.cell?_spot hu0
    simpa [Addr.add] using this
   subst akk
   have kU : bl < w.heap.size := by
    have := World.block_lt_of_cell? _ _ hu0
    simpa [Addr.add_lit] using this
   refine .eG sz len _ bl off cap (fun i j => (w.cell? ⟨bl, off + i * sz + j, none⟩).getD undef) (hS _ kU) (fun i hi => hlen _) PR (fun i j pv hi hj => ?_) (fun i j pv hi hj => ?_)
   ·obtain ⟨u, hu, _⟩ := aJ i hi j pv hj
    rw [Addr.add_lit, Addr.add_lit] at hu
    rw [hu]; rfl
   ·obtain ⟨u, hu, hr⟩ := aJ i hi j pv hj
    rw [Addr.add_lit, Addr.add_lit] at hu
    rw [hu]; exact hr
end
theorem aqz {H : Type} {enc : TypeId × Value → H} {w : World} {spare : Nat → Bool} {held : Bool} {α : Type} (cells : α → List PV) (good : α → Prop) {P : Program} {t : TypeId}
  (aqB : ∀ (fuel : Nat) (cs : List Value) (x : DataW H × List MemPlace), DataW.trod enc P w 0 spare held fuel t cs = some x → ∃ a, good a ∧ la (fun b => b < w.heap.size) w (cells a) cs)
  {cs : Array Value} {d : DataW H} {p : List MemPlace} (h : DataW.Trod enc P w 0 spare held t (.agg cs) d p) : ∃ a, good a ∧ gJ (fun _ => none) [] (fun b => b < w.heap.size) w (.agg (cells a)) (.agg cs) := by
 obtain ⟨fuel, hf⟩ := h
 obtain ⟨a, ha, hl, hc⟩ := aqB fuel _ _ hf
 refine ⟨a, ha, cs, rfl, by have h' : cs.toList.length = _ := hl; simpa using h', fun j pv hj => ?_⟩
 obtain ⟨u, hu, hr⟩ := hc j pv hj
 exact ⟨u, by have h' : cs.toList[j]? = some u := hu; simpa using h', bq.jy hr⟩
theorem DJ {S : Nat → Prop} {w : World} {sz n : Nat} {f g : Nat → List PV} {v : Value} (h : aF S w (.eG sz n f) v) (e : ∀ i, i < n → f i = g i) : aF S w (.eG sz n g) v := by
 cases h with
 | mr => exact .mr _ _ _ _
 | eG _ _ _ b off c vf hS hlen hc aJ kV =>
  exact .eG sz n g b off c vf hS (fun i hi => by rw [← e i hi]; exact hlen i hi) hc (fun i j pv hi hj => aJ i j pv hi (by rw [e i hi]; exact hj)) (fun i j pv hi hj => kV i j pv hi (by rw [e i hi]; exact hj))
theorem akl {P : Program} {H : Type} {enc : TypeId × Value → H} {w : World} {spare : Nat → Bool} {held : Bool} {S : Nat → Prop} {α : Type} (cells : α → List PV) (good : α → Prop) (Lo : α) {ts te : TypeId} {sz : Nat} (hu : P.underlying ts = some (.slice te)) (hc : P.cellsOf te = sz) (yg : 0 < sz) (hlen : ∀ a, (cells a).length = sz)
  (hS : ∀ b, b < w.heap.size → S b) {fuel : Nat} (aaR : ∀ n, n < fuel → ∀ (cs : List Value) (x : DataW H × List MemPlace), DataW.trod enc P w 0 spare held n te cs = some x → ∃ a, good a ∧ la S w (cells a) cs)
  {e : Value} {x : DataW H × List MemPlace} (h : DataW.trod enc P w 0 spare held fuel ts [e] = some x) :
  ∃ l : List α, l.length ≤ 9223372036854775807 ∧ (∀ a ∈ l, good a) ∧ aF S w (sl sz cells l) e := by
 obtain ⟨n, f, h1, h2, h3⟩ := PQ cells good Lo hu hc yg hlen hS aaR h
 have hl : ((List.range n).map f).length = n := by simp
 have hi : ∀ i, i < n → ((List.range n).map f)[i]? = some (f i) := fun i hi => by simp [hi]
 refine ⟨(List.range n).map f, by rw [hl]; exact h1, fun a ha => ?_, ?_⟩
 ·obtain ⟨i, hi, rfl⟩ := asR.1 ha
  exact h2 i (atO.1 hi)
 ·show aF S w (.eG sz ((List.range n).map f).length (row cells _)) e
  rw [hl]
  exact DJ h3 (fun i cM => (pn (hi i cM)).symm)
theorem Ln {P : Program} {f : FuncId} {args : List PV} {vs : Array Value} {w : World} (aqC : OR (fun b => b < w.heap.size) w) (hA : ACall P f args [] (fun res _ => res = .bool true)) (fQ : vs.size = args.length)
  (ha : ∀ (j : Nat) (pv : PV), args[j]? = some pv → ∃ v, vs[j]? = some v ∧ gJ (fun _ => none) [] (fun b => b < w.heap.size) w pv v) :
  Calls P f vs w fun e w' => e = .returned (.bool true) ∧ Below w.heap.size w w' := by
 refine (hA.2 w vs (fun _ => none) (fun b => b < w.heap.size) (fun id g sz n e f hid => by simp at hid) ⟨fun b hb => absurd hb jz, fun b hb => absurd hb jz, fun b hb => hb, fun i j g sz n e f g' bx n' e' f' b o o' hi => by simp at hi, aqC, fun b _ x y z hx => sw hx, fun b _ _ _ _ _ _ hx => absurd hx sw⟩ fQ ha).mono ?_
 rintro e w' ⟨v, res, h', μ', S', rfl, rfl, hv, hH, hM, hF⟩
 exact ⟨by rw [hv.ku], hF.os, hF.tape, hF.output, hF.size, fun b hb => hF.blocks b hb jz⟩
section
variable {H : Type} {enc : TypeId × Value → H} {w : World} {spare : Nat → Bool} {held : Bool} {S : Nat → Prop}
theorem ct3 : Tryz.prog.cellsOf 3 = 1 := by kernel_rfl
theorem ct9 : Tryz.prog.cellsOf 9 = 1 := by kernel_rfl
theorem aqD : Tryz.prog.cellsOf 22 = 1 := by kernel_rfl
theorem akm : Tryz.prog.cellsOf 24 = 4 := by kernel_rfl
inductive ae.Ok : ae → Prop where
 | mk (a0 : Int) (a1 : Int) (a2 : aq) (a3 : List ae) (h0 : a2.length ≤ 9223372036854775807) (h1 : a3.length ≤ 9223372036854775807) (h2 : ∀ x ∈ a3, ae.Ok x) : ae.Ok (.mk a0 a1 a2 a3)
theorem ae.Ok.inv {a : ae} (h : a.Ok) : (a.aj.length ≤ 9223372036854775807) ∧ (a.ah.length ≤ 9223372036854775807) ∧ (∀ x ∈ a.ah, ae.Ok x) := by
 cases h
 exact ⟨by assumption, by assumption, by assumption⟩
theorem ae.akn {w : World} {S : Nat → Prop} {cs : List Value} (h : ∃ a : ae, a.Ok ∧ la S w a.lit cs) : ∃ a : ae, a.Ok ∧ la S w a.cells cs := by
 obtain ⟨a, h1, h2⟩ := h
 exact ⟨a, h1, by rw [ae.au]; exact h2⟩
theorem DK (hS : ∀ b, b < w.heap.size → S b) : ∀ fuel : Nat, (∀ (cs : List Value) (x : DataW H × List MemPlace), DataW.trod enc Tryz.prog w 0 spare held fuel 24 cs = some x → ∃ a : ae, a.Ok ∧ la S w a.lit cs) := by
 intro fuel
 induction fuel using Nat.strongRecOn with
 | _ fuel ih =>
  ·intro cs x h
   obtain ⟨xs, n, hn, _, hl, hlen, hf⟩ := DataW.trod_struct Tryz.underlying24 h
   have h0 := hf 0 _ rfl
   have h1 := hf 1 _ rfl
   have h2 := hf 2 _ rfl
   have h3 := hf 3 _ rfl
   rw [akm] at hl
   obtain ⟨z0, z1, z2, z3, rfl⟩ := akj hl
   obtain ⟨x0, x1, x2, x3, rfl⟩ := akj (show xs.length = 4 from hlen)
   simp [ct3, ct9, aqD] at h0 h1 h2 h3
   obtain ⟨v0, e0, _⟩ := DataW.trod_int Tryz.underlying3 h0
   obtain rfl : z0 = _ := by simpa using e0
   obtain ⟨v1, e1, _⟩ := DataW.trod_int Tryz.underlying3 h1
   obtain rfl : z1 = _ := by simpa using e1
   obtain ⟨s2, e2, _, q2⟩ := DataW.trod_string Tryz.underlying9 h2
   obtain rfl : z2 = _ := by simpa using e2
   obtain ⟨⟨v2⟩⟩ := s2
   replace q2 : v2.length ≤ 9223372036854775807 := by have h' : v2.length ≤ maxLen := q2; simpa [maxLen] using h'
   obtain ⟨v3, q3, g3, p3⟩ := akl ae.cells ae.Ok default Tryz.underlying22 akm avn (fun a => by rw [ae.au]; rfl) hS (fun m hm cs x h => ae.akn ((ih m avh) cs x h)) h3
   refine ⟨.mk v0 v1 v2 v3, .mk _ _ _ _ q2 q3 g3, rfl, fun j pv hj => ?_⟩
   match j with
   | 0 => cases hj; exact ⟨_, rfl, .int _ _⟩
   | 1 => cases hj; exact ⟨_, rfl, .int _ _⟩
   | 2 => cases hj; exact ⟨_, rfl, .str _⟩
   | 3 => cases hj; exact ⟨_, rfl, p3⟩
   | j + 4 => simp [ae.lit, sl] at hj
theorem GA (hS : ∀ b, b < w.heap.size → S b) (fuel : Nat) (cs : List Value) (x : DataW H × List MemPlace) (h : DataW.trod enc Tryz.prog w 0 spare held fuel 24 cs = some x) : ∃ a : ae, a.Ok ∧ la S w a.lit cs := (DK hS fuel) cs x h
end
set_option maxRecDepth 100000
theorem sb {α β : Type} (a : α) (f : α → Option β) : (some a >>= f) = f a := rfl
theorem sx {s : aq} {i : Nat} (h : i < s.length) : n9 s (i : Int) = some (s.getD i 0) := by
 unfold n9; rw [if_pos ⟨by omega, by omega⟩]; rfl
theorem bc {α : Type} [Inhabited α] {l : List α} {i : Nat} (h : i < l.length) : idx l (i : Int) = some l[i] := by
 unfold idx; rw [if_pos ⟨by omega, by omega⟩]
 simp [asM, h]
theorem kx {x : Int} {n : Nat} (h : x = (n : Int)) (hn : n ≤ 9223372036854775807) : aS x = (n : Int) := by
 subst h; exact PT avh avh
theorem bF {i : Nat} (h : i < 9223372036854775807) : aS ((i : Int) + 1) = ((i + 1 : Nat) : Int) := kx avh avh
theorem jP {α : Type} {b : Nat} {l m : List α} (h : (l.length + m.length) * b ≤ 140737488355328) : n8 b l m = some (l ++ m) := if_pos h
theorem nC (a b c : Int) : BU a b c = some (decide (b ≤ a ∧ a ≤ c)) := by
 unfold BU
 by_cases h : b ≤ a
 ·rw [if_pos h]; congr 1; simp; omega
 ·rw [if_neg h]; congr 1; symm; rw [decide_eq_false_iff_not]; omega
theorem mB (a b c : Int) : tA a b c = some (decide (b ≤ a ∧ a ≤ c)) := by
 unfold tA
 by_cases h : a ≥ b
 ·rw [if_pos h]; congr 1; simp; omega
 ·rw [if_neg h]; congr 1; symm; rw [decide_eq_false_iff_not]; omega
def isLet (b : UInt8) : Bool := decide (65 ≤ b.toNat ∧ b.toNat ≤ 90) || decide (97 ≤ b.toNat ∧ b.toNat ≤ 122)
def wA (b : UInt8) : Bool := decide (48 ≤ b.toNat ∧ b.toNat ≤ 57)
theorem aaS (b : UInt8) : ky (b.toNat : Int) = some (isLet b) := by
 unfold ky isLet
 by_cases h : (b.toNat : Int) ≥ 65
 ·rw [if_pos h]
  by_cases h2 : (b.toNat : Int) ≤ 90
  ·rw [if_pos h2]; congr 1; symm; simp; omega
  ·rw [if_neg h2]
   by_cases h3 : (b.toNat : Int) ≥ 97
   ·rw [if_pos h3]; congr 1; rw [atN]; simp; omega
   ·rw [if_neg h3]; congr 1; symm; simp; omega
 ·rw [if_neg h, if_neg avh]; congr 1; symm; simp; omega
theorem aaT (b : UInt8) : lb (b.toNat : Int) = some (wA b) := by
 unfold lb wA
 by_cases h : (b.toNat : Int) ≥ 48
 ·rw [if_pos h]; congr 1; rw [atN]; simp; omega
 ·rw [if_neg h]; congr 1; symm; simp; omega
theorem wb (b : UInt8) : aS (b.toNat : Int) = (b.toNat : Int) := by
 have := b.toNat_lt
 exact PT avh avh
theorem PU (b : UInt8) : jM (b.toNat : Int) = some (isLet b || decide (b.toNat = 95)) := by
 unfold jM isLet
 rw [wb, mB, sb]
 by_cases h : (97 : Int) ≤ (b.toNat : Int) ∧ (b.toNat : Int) ≤ 122
 ·rw [if_pos avm]; congr 1; symm; simp; omega
 ·rw [if_neg avm, mB, sb]
  by_cases h2 : (65 : Int) ≤ (b.toNat : Int) ∧ (b.toNat : Int) ≤ 90
  ·rw [if_pos avm]; congr 1; symm; simp; omega
  ·rw [if_neg avm]; congr 1; rw [atN]; simp; omega
theorem PW (b : UInt8) : kA (b.toNat : Int) = some (wA b) := by
 unfold kA wA
 rw [wb, mB, sb]
 congr 1; rw [atN]; simp; omega
def po (s : aq) : Nat → Nat → Nat
 | 0, i => i
 | f + 1, i => if i < s.length then (if isLet (s.getD i 0) || decide ((s.getD i 0).toNat = 95) || (decide (0 < i) && wA (s.getD i 0)) then po s f (i + 1) else i) else i
theorem B9 (s : aq) (hs : s.length < 9223372036854775807) : ∀ (f i : Nat), s.length ≤ i + f → i ≤ s.length → cE s (i : Int) = some ((po s (f + 1) i : Nat) : Int)
 | f, i, h, hi => by
  rw [cE, po]
  by_cases hc : i < s.length
  ·rw [if_pos avh, if_pos hc, sx hc, sb, aaS, sb, bF avh]
   obtain ⟨g, rfl⟩ : ∃ g, f = g + 1 := ⟨f - 1, by omega⟩
   have ih := B9 s hs g (i + 1) avh avh
   cases hl : isLet (s.getD i 0)
   ·rw [if_neg avj, sb]
    by_cases h5 : (s.getD i 0).toNat = 95
    ·rw [if_pos avh, ih, if_pos (by simp only [h5, eq_self, decide_true, atr, atx])]
    ·rw [if_neg avh]
     by_cases h0 : 0 < i
     ·rw [if_pos avh, sb, aaT, sb]
      cases hd : wA (s.getD i 0)
      ·rw [if_neg avj, if_neg (by simp only [h5, decide_false, atb, atl, atf]; simp)]
      ·rw [if_pos rfl, ih, if_pos (by simp only [h0, decide_true, atM, atr])]
     ·rw [if_neg avh, if_neg (by simp only [h5, h0, decide_false, atC, atb]; simp)]
   ·rw [if_pos rfl, ih, if_pos avj]
  ·rw [if_neg avh, if_neg hc]
theorem Ca (s : aq) (hs : s.length < 9223372036854775807) : ∀ (f i : Nat), s.length ≤ i + f → i ≤ s.length → gO s 0 (i : Int) = some ((po s (f + 1) i : Nat) : Int)
 | f, i, h, hi => by
  rw [gO, po]
  by_cases hc : i < s.length
  ·rw [if_pos avh, if_pos hc, sx hc, sb, PU, sb, bF avh]
   obtain ⟨g, rfl⟩ : ∃ g, f = g + 1 := ⟨f - 1, by omega⟩
   have ih := Ca s hs g (i + 1) avh avh
   cases hl : (isLet (s.getD i 0) || decide ((s.getD i 0).toNat = 95))
   ·rw [if_neg avj]
    by_cases h0 : 0 < i
    ·rw [if_pos avh, sb, PW, sb]
     cases hd : wA (s.getD i 0)
     ·rw [if_neg avj, if_neg avj]
     ·rw [if_pos rfl, ih, if_pos (by simp [h0])]
    ·rw [if_neg avh, if_neg (by simp [h0])]
   ·rw [if_pos rfl, ih, if_pos avj]
  ·rw [if_neg avh, if_neg hc]
theorem GB (s : aq) : ∃ b, kW s = some b ∧ lY s = some b := by
 unfold kW lY
 by_cases h : s.length ≤ 20
 ·rw [if_pos avh]
  have e1 : gP s = some ((po s (s.length + 1) 0 : Nat) : Int) := by
   unfold gP
   have := B9 s avh s.length 0 avh avh
   rw [show ((0 : Nat) : Int) = 0 from rfl] at this
   rw [this, sb]
  have e2 : ld s 0 = some ((po s (s.length + 1) 0 : Nat) : Int) := by
   unfold ld
   have := Ca s avh s.length 0 avh avh
   rw [show ((0 : Nat) : Int) = 0 from rfl] at this
   rw [this, sb]
  rw [e1, sb, e2]
  cases s with
  | nil => exact ⟨_, rfl, rfl⟩
  | cons c r =>
   rw [if_pos (show ((c :: r).length : Int) ≥ 1 by simp; omega), if_pos (show ((c :: r).length : Int) ≤ 20 by omega), sb]
   by_cases he : po (c :: r) ((c :: r).length + 1) 0 = (c :: r).length
   ·rw [if_pos avh]
    refine ⟨_, rfl, ?_⟩
    congr 1
    simp only [beq_iff_eq, he]
    simp
   ·rw [if_neg avh]
    refine ⟨_, rfl, ?_⟩
    congr 1
    rw [beq_eq_false_iff_ne]
    omega
 ·rw [if_neg avh]
  refine ⟨_, rfl, ?_⟩
  rw [if_pos avh, if_neg avh]
def vg : List aq := [[101, 99, 104, 111], [105, 102], [101, 108, 115, 101], [119, 104, 105, 108, 101], [102, 111, 114, 101, 97, 99, 104], [97, 115], [98, 114, 101, 97, 107], [99, 111, 110, 116, 105, 110, 117, 101], [114, 101, 116, 117, 114, 110], [103, 108, 111, 98, 97, 108], [117, 110, 115, 101, 116], [116, 104, 114, 111, 119], [116, 114, 121], [99, 97, 116, 99, 104], [102, 105, 110, 97, 108, 108, 121], [121, 105, 101, 108, 100], [105, 110, 99, 108, 117, 100, 101], [102, 117, 110, 99, 116, 105, 111, 110], [99, 108, 97, 115, 115], [116, 114, 97, 105, 116], [101, 120, 116, 101, 110, 100, 115], [117, 115, 101], [112, 114, 105, 118, 97, 116, 101], [115, 116, 97, 116, 105, 99], [110, 101, 119], [116, 114, 117, 101], [102, 97, 108, 115, 101], [110, 117, 108, 108]]
theorem E2 (s : aq) : ∀ (f k : Nat), vg.length ≤ k + f → gx s (k : Int) = some (if (vg.drop k).any (fun x => decide (s = x)) then .inr true else .inl ())
 | f, k, h => by
  rw [gx]
  change (if (k : Int) < (vg.length : Int) then idx vg (k : Int) >>= _ else _) = _
  by_cases hc : k < vg.length
  ·have hl : vg.length = 28 := rfl
   rw [if_pos avh, bc hc, sb, bF avh, asE hc, List.any_cons]
   by_cases he : vg[k] = s
   ·rw [if_pos he, if_pos (by rw [← he]; simp)]
   ·obtain ⟨g, rfl⟩ : ∃ g, f = g + 1 := ⟨f - 1, by omega⟩
    rw [if_neg he, E2 s g (k + 1) avh, decide_eq_false (fun h => he h.symm), atf]
  ·rw [if_neg avh, asD avh]; rfl
theorem cg {s x : aq} {b : Bool} {z : Option Bool} (h : z = some b) : (if s = x then some true else z) = some (decide (s = x) || b) := by
 subst h
 by_cases h : s = x
 ·rw [if_pos h, decide_eq_true h, atx]
 ·rw [if_neg h, decide_eq_false h, atf]
theorem PY (s : aq) : jk s = some (vg.any fun x => decide (s = x)) := by
 unfold jk
 have := E2 s vg.length 0 avh
 rw [show ((0 : Nat) : Int) = 0 from rfl, asJ] at this
 rw [this, sb]
 cases hc : vg.any (fun x => decide (s = x))
 ·rfl
 ·rfl
theorem PZ (s : aq) : jl s = some (vg.any fun x => decide (s = x)) := by
 have e : vg.any (fun x => decide (s = x)) = (decide (s = ([101, 99, 104, 111] : aq)) || (decide (s = ([105, 102] : aq)) || (decide (s = ([101, 108, 115, 101] : aq)) || (decide (s = ([119, 104, 105, 108, 101] : aq)) || (decide (s = ([102, 111, 114, 101, 97, 99, 104] : aq)) || (decide (s = ([97, 115] : aq)) || (decide (s = ([98, 114, 101, 97, 107] : aq)) || (decide (s = ([99, 111, 110, 116, 105, 110, 117, 101] : aq)) || (decide (s = ([114, 101, 116, 117, 114, 110] : aq)) || (decide (s = ([103, 108, 111, 98, 97, 108] : aq)) || (decide (s = ([117, 110, 115, 101, 116] : aq)) || (decide (s = ([116, 104, 114, 111, 119] : aq)) || (decide (s = ([116, 114, 121] : aq)) || (decide (s = ([99, 97, 116, 99, 104] : aq)) || (decide (s = ([102, 105, 110, 97, 108, 108, 121] : aq)) || (decide (s = ([121, 105, 101, 108, 100] : aq)) || (decide (s = ([105, 110, 99, 108, 117, 100, 101] : aq)) || (decide (s = ([102, 117, 110, 99, 116, 105, 111, 110] : aq)) || (decide (s = ([99, 108, 97, 115, 115] : aq)) || (decide (s = ([116, 114, 97, 105, 116] : aq)) || (decide (s = ([101, 120, 116, 101, 110, 100, 115] : aq)) || (decide (s = ([117, 115, 101] : aq)) || (decide (s = ([112, 114, 105, 118, 97, 116, 101] : aq)) || (decide (s = ([115, 116, 97, 116, 105, 99] : aq)) || (decide (s = ([110, 101, 119] : aq)) || (decide (s = ([116, 114, 117, 101] : aq)) || (decide (s = ([102, 97, 108, 115, 101] : aq)) || (decide (s = ([110, 117, 108, 108] : aq)) || false)))))))))))))))))))))))))))) := rfl
 rw [e]
 unfold jl
 exact (cg (cg (cg (cg (cg (cg (cg (cg (cg (cg (cg (cg (cg (cg (cg (cg (cg (cg (cg (cg (cg (cg (cg (cg (cg (cg (cg (cg rfl))))))))))))))))))))))))))))
theorem E3 (s : aq) : ∃ b, aX s = some b ∧ ck s = some b := by
 obtain ⟨b, h1, h2⟩ := GB s
 unfold aX ck
 rw [h1, h2, sb, sb, PZ, PY]
 cases b
 ·exact ⟨_, rfl, rfl⟩
 ·exact ⟨_, rfl, rfl⟩
def good (s : aq) : Bool := (aX s).getD false
theorem qD (s : aq) : aX s = some (good s) := by obtain ⟨v, h, _⟩ := E3 s; rw [good, h]; rfl
theorem Lp (s : aq) : ck s = some (good s) := by obtain ⟨v, h, h2⟩ := E3 s; rw [good, h, h2]; rfl
def q1 (b : UInt8) : List UInt8 := if b.toNat = 39 ∨ b.toNat = 92 then [92, b] else [b]
def qt (s : aq) : aq := [39] ++ s.flatMap q1 ++ [39]
theorem E4 (s : aq) (hs : s.length ≤ 1099511627776) : ∀ (f i : Nat) (l : List UInt8), s.length ≤ i + f → l.length ≤ 2 * i + 1 → dN s l (i : Int) = some (l ++ (s.drop i).flatMap q1)
 | f, i, l, h, hl => by
  rw [dN]
  by_cases hc : i < s.length
  ·obtain ⟨g, rfl⟩ : ∃ g, f = g + 1 := ⟨f - 1, by omega⟩
   have hd : s.getD i 0 = s[i] := by simp [asM, hc]
   rw [if_pos avh, sx hc, sb, bF avh, asE hc, asZ, hd]
   by_cases h1 : s[i].toNat = 39
   ·rw [if_pos avh, jP avm, sb, sb, jP avm, sb, E4 s hs g (i + 1) _ avh avm]
    simp [q1, h1]
   ·rw [if_neg avh, sb]
    by_cases h2 : s[i].toNat = 92
    ·rw [if_pos avh, jP avm, sb, sb, jP avm, sb, E4 s hs g (i + 1) _ avh avm]
     simp [q1, h2]
    ·rw [if_neg avh, sb, jP avm, sb, E4 s hs g (i + 1) _ avh avm]
     simp [q1, h1, h2]
  ·rw [if_neg avh, asD avh]; simp
theorem sy : ∀ s : aq, (s.flatMap q1).length ≤ 2 * s.length
 | [] => by simp
 | b :: s => by
  have := sy s
  have h1 : (q1 b).length ≤ 2 := by unfold q1; split <;> simp
  simp only [asZ, An, an]
  omega
theorem E5 (s : aq) (hs : s.length ≤ 1099511627776) : ∀ (f i : Nat) (l : List UInt8), s.length ≤ i + f → l.length ≤ 2 * i + 1 → dO s l (i : Int) = some (l ++ (s.drop i).flatMap q1)
 | f, i, l, h, hl => by
  rw [dO]
  by_cases hc : i < s.length
  ·obtain ⟨g, rfl⟩ : ∃ g, f = g + 1 := ⟨f - 1, by omega⟩
   have hd : s.getD i 0 = s[i] := by simp [asM, hc]
   rw [if_pos avh, sx hc, sb, bF avh, asE hc, asZ, hd]
   by_cases h1 : s[i].toNat = 39
   ·rw [if_pos avh, jP avm, sb, sb, jP avm, sb, E5 s hs g (i + 1) _ avh avm]
    simp [q1, h1]
   ·rw [if_neg avh, sb]
    by_cases h2 : s[i].toNat = 92
    ·rw [if_pos avh, jP avm, sb, sb, jP avm, sb, E5 s hs g (i + 1) _ avh avm]
     simp [q1, h2]
    ·rw [if_neg avh, sb, jP avm, sb, E5 s hs g (i + 1) _ avh avm]
     simp [q1, h1, h2]
  ·rw [if_neg avh, asD avh]; simp
theorem sQ (s : aq) (hs : s.length ≤ 1099511627776) : iD s = some (qt s) := by
 unfold iD
 have := E4 s hs s.length 0 [39] avh avj
 rw [show ((0 : Nat) : Int) = 0 from rfl, asJ] at this
 have hf := sy s
 rw [this, sb, jP avl, sb]; rfl
theorem iQ (s : aq) (hs : s.length ≤ 1099511627776) : iF s = some (qt s) := by
 unfold iF
 have := E5 s hs s.length 0 [39] avh avj
 rw [show ((0 : Nat) : Int) = 0 from rfl, asJ] at this
 have hf := sy s
 rw [this, sb, jP avl, sb]; rfl
theorem Ab : ∀ (k u : Nat), u < 10 ^ (k + 1) → Lib.nDigits u ≤ k + 1
 | 0, u, h => by rw [Lib.nDigits_small avx]; exact asA _
 | k + 1, u, h => by
  by_cases h1 : u < 10
  ·rw [Lib.nDigits_small h1]; omega
  ·rw [Lib.nDigits_big h1]
   have := Ab k (u / 10) (by rw [Nat.pow_succ] at h; omega)
   omega
theorem wB (u : Nat) : Lib.decDigits u = (if u / 10 = 0 then [] else Lib.decDigits (u / 10)) ++ [UInt8.ofNat (48 + u % 10)] := by
 by_cases h : u < 10
 ·rw [if_pos avh, Lib.decDigits, dif_pos h, show u % 10 = u by omega]; rfl
 ·rw [if_neg avh]
  conv => lhs; rw [Lib.decDigits, dif_neg h]
theorem Lq : ∀ (k : Nat) (out : aq) (m : Int), m.natAbs < 10 ^ k → -9223372036854775808 ≤ m → m ≤ 9223372036854775807 → k + out.length ≤ 1000 →
  pq out m = some ((if m = 0 then [] else Lib.decDigits m.natAbs) ++ out)
 | 0, out, m, h, _, _, _ => by
  have : m = 0 := by simp at h; exact h
  subst this
  rw [pq, if_pos rfl, if_pos rfl]; rfl
 | k + 1, out, m, h, h0, h1, ho => by
  rw [pq]
  by_cases hm : m = 0
  ·rw [if_pos hm, if_pos hm]; rfl
  rw [if_neg hm, if_neg hm]
  have ab : (m.tmod 10).natAbs = m.natAbs % 10 := Int.natAbs_tmod m 10
  have ad : (m.tdiv 10).natAbs = m.natAbs / 10 := Int.natAbs_tdiv m 10
  have dv : aS (m.tdiv 10) = m.tdiv 10 := by rw [aS, PT] <;> omega
  have fin : ∀ d : Int, d = ((m.natAbs % 10 : Nat) : Int) → UInt8.ofNat (IntKind.u8.wrap (aS (48 + d))).toNat = UInt8.ofNat (48 + m.natAbs % 10) := fun d hd => by
   subst hd
   rw [aS, PT avh avh, IntKind.wrap_u8]
   congr 1
   omega
  have next : pq ([UInt8.ofNat (48 + m.natAbs % 10)] ++ out) (aS (m.tdiv 10)) = some (Lib.decDigits m.natAbs ++ out) := by
   rw [dv, Lq k _ _ (by rw [Nat.pow_succ] at h; omega) avh avh avm, wB m.natAbs, ad, No]
   by_cases h : m.tdiv 10 = 0
   ·rw [if_pos h, if_pos avh]
   ·rw [if_neg h, if_neg avh]
  have hs : ∀ b : UInt8, aI [b] out = some ([b] ++ out) := fun b => if_pos avm
  by_cases hn : m.tmod 10 < 0
  ·rw [if_pos hn, hs, sb, fin _ (by rw [aS, PT] <;> omega), next]
  ·rw [if_neg hn, hs, sb, fin _ avh, next]
theorem aaU (n : Int) (h0 : -9223372036854775808 ≤ n) (h1 : n ≤ 9223372036854775807) : m94 n = some (Lib.itoa n) := by
 unfold m94
 by_cases h : n = 0
 ·subst h; rw [if_pos rfl, show Lib.itoa 0 = [48] by decide +kernel]
 rw [if_neg h, Lq 20 [] n (by simp only [Nat.reducePow]; omega) h0 h1 avj, sb, if_neg h, atv]
 unfold Lib.itoa
 have hL : (Lib.decDigits n.natAbs).length ≤ 20 := by rw [Lib.decDigits_length]; exact Ab 19 _ (by simp only [Nat.reduceAdd, Nat.reducePow]; omega)
 by_cases hn : n < 0
 ·rw [if_pos hn, if_pos hn, aI, if_pos avm]; rfl
 ·rw [if_neg hn, if_neg hn, show n.natAbs = n.toNat by omega]
theorem Lr (n : Int) (h0 : 0 ≤ n) (h1 : n ≤ 1000000000) : 1 ≤ (Lib.itoa n).length ∧ (Lib.itoa n).length ≤ 20 := by
 unfold Lib.itoa
 rw [if_neg avh, Lib.decDigits_length]
 have h3 := Ab 19 n.toNat (by simp only [Nat.reduceAdd, Nat.reducePow]; omega)
 have h4 := Lib.nDigits_pos n.toNat
 omega
theorem sOp (n : Int) (h1 : 1 ≤ n) (h2 : n ≤ 15) : ∃ s, jw n = some s ∧ kB n = some s ∧ ∃ k, dk n = some k ∧ j7 n = some k ∧ 6 ≤ k ∧ k ≤ 10 := by
 obtain ⟨k, rfl⟩ : ∃ k : Nat, n = (k : Int) := ⟨n.toNat, by omega⟩
 have h3 : k ≤ 15 := by omega
 have h4 : 1 ≤ k := by omega
 match k, h3, h4 with
 | 1, _, _ => exact ⟨_, rfl, rfl, _, rfl, rfl, by decide, by decide⟩
 | 2, _, _ => exact ⟨_, rfl, rfl, _, rfl, rfl, by decide, by decide⟩
 | 3, _, _ => exact ⟨_, rfl, rfl, _, rfl, rfl, by decide, by decide⟩
 | 4, _, _ => exact ⟨_, rfl, rfl, _, rfl, rfl, by decide, by decide⟩
 | 5, _, _ => exact ⟨_, rfl, rfl, _, rfl, rfl, by decide, by decide⟩
 | 6, _, _ => exact ⟨_, rfl, rfl, _, rfl, rfl, by decide, by decide⟩
 | 7, _, _ => exact ⟨_, rfl, rfl, _, rfl, rfl, by decide, by decide⟩
 | 8, _, _ => exact ⟨_, rfl, rfl, _, rfl, rfl, by decide, by decide⟩
 | 9, _, _ => exact ⟨_, rfl, rfl, _, rfl, rfl, by decide, by decide⟩
 | 10, _, _ => exact ⟨_, rfl, rfl, _, rfl, rfl, by decide, by decide⟩
 | 11, _, _ => exact ⟨_, rfl, rfl, _, rfl, rfl, by decide, by decide⟩
 | 12, _, _ => exact ⟨_, rfl, rfl, _, rfl, rfl, by decide, by decide⟩
 | 13, _, _ => exact ⟨_, rfl, rfl, _, rfl, rfl, by decide, by decide⟩
 | 14, _, _ => exact ⟨_, rfl, rfl, _, rfl, rfl, by decide, by decide⟩
 | 15, _, _ => exact ⟨_, rfl, rfl, _, rfl, rfl, by decide, by decide⟩
 | 0, _, h => omega
 | k + 16, h, _ => omega
mutual
def sz : ae → Nat | .mk _ _ _ k => 1 + gZ k
def gZ : List ae → Nat | [] => 0 | x :: r => sz x + gZ r
end
mutual
def dp : ae → Nat | .mk _ _ _ k => 1 + Da k
def Da : List ae → Nat | [] => 0 | x :: r => max (dp x) (Da r)
end
theorem iK (n : ae) : sz n = 1 + gZ n.ah := by cases n; rfl
theorem E6 (n : ae) : dp n = 1 + Da n.ah := by cases n; rfl
theorem sA : ∀ (l : List ae) (i : Nat) (h : i < l.length), gZ (l.drop i) = sz l[i] + gZ (l.drop (i + 1))
 | x :: r, 0, h => rfl
 | x :: r, i + 1, h => sA r i avx
theorem wC : ∀ (l : List ae) (i : Nat) (h : i < l.length), Da (l.drop i) = max (dp l[i]) (Da (l.drop (i + 1)))
 | x :: r, 0, h => rfl
 | x :: r, i + 1, h => wC r i avx
theorem mT (n : ae) : 0 < sz n := by rw [iK]; omega
theorem Ls : ∀ (l : List ae) (i : Nat), gZ (l.drop i) ≤ gZ l
 | [], i => by simp [gZ]
 | x :: r, 0 => asA _
 | x :: r, i + 1 => att (Ls r i) (by show gZ r ≤ sz x + gZ r; omega)
theorem Ac (l : List ae) (i : Nat) (h : i < l.length) : sz l[i] ≤ gZ l := by
 have := sA l i h; have := Ls l i; omega
theorem sC : ∀ l : List ae, l.length ≤ gZ l
 | [] => asA _
 | x :: r => by have := sC r; have := mT x; simp only [an]; show r.length + 1 ≤ sz x + gZ r; omega
theorem Cb : ∀ (k : Nat), (∀ n : ae, sz n ≤ k → sz n < 4611686018427387904 → ia n = some (sz n : Int))
 | 0, n, h, _ => by have := mT n; omega
 | k + 1, n, h, hb => by
  have hk := iK n
  have go : ∀ (f i s : Nat), n.ah.length ≤ i + f → s + gZ (n.ah.drop i) < 4611686018427387904 → fZ n (s : Int) (i : Int) = some ((s + gZ (n.ah.drop i) : Nat) : Int) := by
   intro f
   induction f with
   | zero =>
    intro i s h1 h2
    rw [fZ, if_neg avh, asD avh]; rfl
   | succ f ih =>
    intro i s h1 h2
    rw [fZ]
    by_cases hc : i < n.ah.length
    ·have hd := sA n.ah i hc
     have hl := Ac n.ah i hc
     have hn := sC n.ah
     rw [if_pos avh, bc hc, sb, Cb k _ avh avh, sb, bF avh, kx (n := s + sz n.ah[i]) avh avh, ih (i + 1) _ avh avh, hd, aui]
    ·rw [if_neg avh, asD avh]; rfl
  have h0 := go n.ah.length 0 1 avh (by rw [asJ]; omega)
  rw [ia]
  rw [show ((1 : Nat) : Int) = 1 from rfl, show ((0 : Nat) : Int) = 0 from rfl, asJ] at h0
  rw [h0, sb, hk]
theorem ako (a b : Nat) : WY (a : Int) (b : Int) = some ((max a b : Nat) : Int) := by
 unfold WY
 by_cases h : a < b
 ·rw [if_pos avh, auo avh]
 ·rw [if_neg avh, Nat.max_eq_left avh]
theorem akp (a b : Nat) : W5 (a : Int) (b : Int) = some ((max a b : Nat) : Int) := by
 unfold W5
 by_cases h : a < b
 ·first | rw [if_pos avh, auo avh] | rw [if_neg avh, auo avh]
 ·by_cases h2 : b < a
  ·first | rw [if_neg avh, Nat.max_eq_left avh] | rw [if_pos avh, Nat.max_eq_left avh]
  ·obtain rfl : a = b := by omega
   split <;> simp
mutual
theorem akq : ∀ n : ae, dp n ≤ sz n
 | .mk _ _ _ k => by have := vB k; show 1 + Da k ≤ 1 + gZ k; omega
theorem vB : ∀ l : List ae, Da l ≤ gZ l
 | [] => asA _
 | x :: r => by have := akq x; have := vB r; show max (dp x) (Da r) ≤ sz x + gZ r; omega
end
theorem Lt : ∀ (k : Nat), (∀ n : ae, sz n ≤ k → sz n < 4611686018427387904 → gB n = some (dp n : Int))
 | 0, n, h, _ => by have := mT n; omega
 | k + 1, n, h, hb => by
  have hk := iK n
  have hd0 := E6 n
  have hn := sC n.ah
  have go : ∀ (f i s : Nat), n.ah.length ≤ i + f → fe n (s : Int) (i : Int) = some ((max s (Da (n.ah.drop i)) : Nat) : Int) := by
   intro f
   induction f with
   | zero =>
    intro i s h1
    rw [fe, if_neg avh, asD avh]; simp [Da]
   | succ f ih =>
    intro i s h1
    rw [fe]
    by_cases hc : i < n.ah.length
    ·have hl := Ac n.ah i hc
     rw [if_pos avh, bc hc, sb, Lt k _ avh avh, sb, ako, sb, bF avh, ih (i + 1) _ avh, wC n.ah i hc, Nat.max_assoc]
    ·rw [if_neg avh, asD avh]; simp [Da]
  have h0 := go n.ah.length 0 0 avh
  have hz := vB n.ah
  rw [gB]
  rw [show ((0 : Nat) : Int) = 0 from rfl, asJ, Nat.zero_max] at h0
  rw [h0, sb, kx (n := Da n.ah + 1) avh avh, hd0, Nat.add_comm]
theorem Lu : ∀ (k : Nat), (∀ n : ae, sz n ≤ k → sz n < 4611686018427387904 → gC n = some (dp n : Int))
 | 0, n, h, _ => by have := mT n; omega
 | k + 1, n, h, hb => by
  have hk := iK n
  have hd0 := E6 n
  have hn := sC n.ah
  have go : ∀ (f i s : Nat), n.ah.length ≤ i + f → ff n (s : Int) (i : Int) = some ((max s (Da (n.ah.drop i)) : Nat) : Int) := by
   intro f
   induction f with
   | zero =>
    intro i s h1
    rw [ff, if_neg avh, asD avh]; simp [Da]
   | succ f ih =>
    intro i s h1
    rw [ff]
    by_cases hc : i < n.ah.length
    ·have hl := Ac n.ah i hc
     rw [if_pos avh, bc hc, sb, Lu k _ avh avh, sb, akp, sb, bF avh, ih (i + 1) _ avh, wC n.ah i hc, Nat.max_assoc]
    ·rw [if_neg avh, asD avh]; simp [Da]
  have h0 := go n.ah.length 0 0 avh
  have hz := vB n.ah
  rw [gC]
  rw [show ((0 : Nat) : Int) = 0 from rfl, asJ, Nat.zero_max] at h0
  rw [h0, sb, kx (n := Da n.ah + 1) avh avh, hd0, Nat.add_comm]
theorem Cc : ∀ (k : Nat), (∀ n : ae, sz n ≤ k → sz n < 4611686018427387904 → ∀ left : Int, 0 ≤ left → left ≤ 600 → ∃ v, jf n left = some v ∧ -4611686018427387904 < v ∧ v ≤ 600 ∧ ((sz n : Int) ≤ left → v = left - sz n) ∧ (left < sz n → v < 0))
 | 0, n, h, _, _, _, _ => by have := mT n; omega
 | k + 1, n, h, hb, left, Bg, hl1 => by
  have hk := iK n
  have hn := sC n.ah
  have go : ∀ (f i : Nat) (y : Int), n.ah.length ≤ i + f → -4611686018427387904 < y → y ≤ 600 → ∃ v, gM n y (i : Int) = some v ∧ -4611686018427387904 < v ∧ v ≤ 600 ∧ (0 ≤ y → (gZ (n.ah.drop i) : Int) ≤ y → v = y - gZ (n.ah.drop i)) ∧ (y < gZ (n.ah.drop i) → v < 0) ∧ (y < 0 → v < 0) := by
   intro f
   induction f with
   | zero =>
    intro i y h1 h2 h3
    rw [gM, if_neg avh, asD avh]
    exact ⟨y, rfl, h2, h3, fun _ _ => by simp [gZ], fun q => by simp [gZ] at q; exact q, fun q => q⟩
   | succ f ih =>
    intro i y h1 h2 h3
    rw [gM]
    by_cases hc : i < n.ah.length
    ·have hl := Ac n.ah i hc
     have hd := sA n.ah i hc
     rw [if_pos avh]
     by_cases hy : 0 ≤ y
     ·obtain ⟨v, e1, e2, e3, e4, e5⟩ := Cc k n.ah[i] avh avh y hy h3
      obtain ⟨u, g1, g2, g3, g4, g5, g6⟩ := ih (i + 1) v avh e2 e3
      rw [if_pos hy, bc hc, sb, e1, sb, bF avh, g1]
      refine ⟨u, rfl, g2, g3, fun _ q => ?_, fun q => ?_, fun q => by omega⟩
      ·have := e4 avh; have := g4 avh avh; omega
      ·by_cases hq : (sz n.ah[i] : Int) ≤ y
       ·have := e4 hq; exact g5 avh
       ·exact g6 (e5 avh)
     ·rw [if_neg hy]
      exact ⟨y, rfl, h2, h3, fun q => absurd q hy, fun _ => by omega, fun q => q⟩
    ·rw [if_neg avh, asD avh]
     exact ⟨y, rfl, h2, h3, fun _ _ => by simp [gZ], fun q => by simp [gZ] at q; exact q, fun q => q⟩
  obtain ⟨v, e1, e2, e3, e4, e5, e6⟩ := go n.ah.length 0 (left - 1) avh avh avh
  rw [asJ] at e4 e5
  have hw : aS (left - 1) = left - 1 := by
   by_cases h0 : left = 0
   ·subst h0; decide
   ·rw [kx (n := (left - 1).toNat) avh avh]; omega
  rw [jf, hw, show (0 : Int) = ((0 : Nat) : Int) from rfl, e1, sb]
  refine ⟨v, rfl, e2, e3, fun q => ?_, fun q => ?_⟩
  ·have := e4 avh avh; omega
  ·exact e5 avh
theorem Lv (n : ae) (hb : sz n < 4611686018427387904) : jG n = some (decide (sz n ≤ 600 ∧ dp n ≤ 30)) ∧ kj n = some (decide (sz n ≤ 600 ∧ dp n ≤ 30)) := by
 obtain ⟨v, e1, _, _, e4, e5⟩ := Cc (sz n) n (asA _) hb 600 avh avh
 unfold jG kj
 rw [Cb (sz n) n (asA _) hb, e1, sb, sb]
 by_cases h : sz n ≤ 600
 ·have := e4 avh
  rw [if_pos avh, if_pos avh, Lu (sz n) n (asA _) hb, Lt (sz n) n (asA _) hb, sb]
  constructor <;> (congr 1; simp only [decide_eq_decide]; omega)
 ·have := e5 avh
  rw [if_neg avh, if_neg avh]
  constructor <;> (rw [decide_eq_false avh])
set_option maxRecDepth 100000
theorem wD {s p : aq} {i : Nat} (hp : p ≠ []) (h : ¬ i + p.length ≤ s.length) : Lib.occAt s p i = false := by
 cases hc : Lib.occAt s p i
 ·rfl
 ·rcases Lib.occAt_room hc with h2 | h2
  ·exact absurd h2 h
  ·exact absurd h2 hp
theorem E7 {s p : aq} {i : Nat} (h : i + p.length ≤ s.length) : ((s.take (i + p.length)).drop i == p) = Lib.occAt s p i := by
 rw [Lib.occAt_iff_take s p i h, List.drop_take, aua]
theorem aqE {s p : aq} {i : Nat} (hp : p ≠ []) (OV : p.length ≤ 10) (hi : i ≤ s.length) (hs : s.length ≤ 4611686018427387904) : nD s (i : Int) p = some (Lib.occAt s p i) := by
 unfold nD
 rw [kx (x := (s.length : Int) - (i : Int)) (n := s.length - i) avh avh, kx (x := (i : Int) + (p.length : Int)) (n := i + p.length) avh avh]
 by_cases h : i + p.length ≤ s.length
 ·rw [if_pos avh, GC, if_pos ⟨by omega, by omega, by omega⟩, sb, ← E7 h]; rfl
 ·rw [if_neg avh, wD hp h]
theorem DL (n : ae) (hs : n.aj.length ≤ 4611686018427387904) : ∀ (f i : Nat) (b : Bool), n.aj.length ≤ i + f → i ≤ n.aj.length →
  ∃ v, dP n b (i : Int) = some ((n.aC == 0), v) ∧ (v = true ↔ b = true ∧ ∀ j, i ≤ j → j < n.aj.length → Lib.occAt n.aj [60, 63] j = false)
 | f, i, b, h, hi => by
  rw [dP]
  by_cases hc : i < n.aj.length
  ·obtain ⟨g, rfl⟩ : ∃ g, f = g + 1 := ⟨f - 1, by omega⟩
   rw [if_pos avh, bF avh]
   cases b
   ·rw [if_neg avj]
    obtain ⟨v, h1, h2⟩ := DL n hs g (i + 1) false avh avh
    exact ⟨v, h1, by rw [h2]; simp⟩
   ·rw [if_pos rfl, aqE avj avj hi hs, sb]
    obtain ⟨v, h1, h2⟩ := DL n hs g (i + 1) (!Lib.occAt n.aj [60, 63] i) avh avh
    refine ⟨v, h1, ?_⟩
    rw [h2]
    constructor
    ·rintro ⟨q, r⟩
     refine ⟨rfl, fun j hj1 hj2 => ?_⟩
     by_cases e : j = i
     ·subst e; simpa using q
     ·exact r j avh hj2
    ·rintro ⟨_, r⟩
     exact ⟨by simp [r i avh hc], fun j hj1 hj2 => r j avh hj2⟩
  ·rw [if_neg avh]
   exact ⟨b, rfl, ⟨fun q => ⟨q, fun j hj1 hj2 => by omega⟩, fun q => q.1⟩⟩
def t31 (t : aq) : Bool := !(t == ([] : aq)) && !decide (0 ≤ Lib.index t [60, 63])
theorem aaV (n : ae) (hs : n.aj.length ≤ 4611686018427387904) : dP n (!(n.aj == ([] : aq))) 0 = some ((n.aC == 0), t31 n.aj) := by
 obtain ⟨v, h1, h2⟩ := DL n hs n.aj.length 0 (!(n.aj == ([] : aq))) avh avh
 rw [show ((0 : Nat) : Int) = 0 from rfl] at h1
 rw [h1]
 congr 2
 rw [atN, h2, t31, As]
 refine and_congr_right fun _ => ?_
 rcases Lib.index_spec n.aj [60, 63] with ⟨e, q⟩ | ⟨i, e, q1, q2, _⟩
 ·rw [e]; exact ⟨fun _ => by decide, fun _ j _ hj => q j avh⟩
 ·rw [e]
  constructor
  ·intro r
   by_cases hi : i < n.aj.length
   ·rw [r i avh hi] at q2; cases q2
   ·rw [wD avj avm] at q2; cases q2
  ·intro r; simp at r
theorem Cd (s : aq) (hs : s.length ≤ 4611686018427387904) : ∀ (f i : Nat), s.length ≤ i + f → i ≤ s.length → (∀ j, j < i → Lib.occAt s [58, 58] j = false) →
  iv s (i : Int) = some (if 0 ≤ Lib.index s [58, 58] then .inr (s.take (Lib.index s [58, 58]).toNat, s.drop ((Lib.index s [58, 58]).toNat + 2)) else .inl ())
 | f, i, h, hi, hj => by
  rw [iv, bF avh]
  by_cases hc : i + 1 < s.length
  ·obtain ⟨g, rfl⟩ : ∃ g, f = g + 1 := ⟨f - 1, by omega⟩
   have ho := E7 (s := s) (p := [58, 58]) (i := i) avm
   simp only [an, mg] at ho
   rw [if_pos avh, kx (x := (i : Int) + 2) (n := i + 2) avh avh, GC, if_pos ⟨by omega, by omega, by omega⟩, sb]
   show (if (s.take (i + 2)).drop i = [58, 58] then _ else _) = _
   by_cases he : (s.take (i + 2)).drop i = [58, 58]
   ·have JW : Lib.occAt s [58, 58] i = true := by rw [← ho]; simpa using he
    have hx := Lib.index_first avh JW hj
    rw [if_pos he, hx, if_pos avh, sto, if_pos ⟨by omega, by omega⟩, sb, E8, if_pos ⟨by omega, by omega⟩, sb]; rfl
   ·have JW : Lib.occAt s [58, 58] i = false := by rw [← ho, beq_eq_false_iff_ne]; exact he
    rw [if_neg he]
    refine Cd s hs g (i + 1) avh avh fun j q => ?_
    by_cases e : j = i
    ·subst e; exact JW
    ·exact hj j avh
  ·rw [if_neg avh, Lib.index_none (s := s) (sub := [58, 58]) fun j q => by
    by_cases e : j < i
    ·exact hj j e
    ·exact wD avj avm]
   rfl
def t21 (t : aq) : Bool := (Lib.cut t [58, 58]).2.2 && ((good (Lib.cut t [58, 58]).1 || (Lib.cut t [58, 58]).1 == ([115, 116, 97, 116, 105, 99] : aq)) && good (Lib.cut t [58, 58]).2.1)
theorem Lw : good [] = false := by
 have h := qD []
 unfold aX kW gP at h
 rw [if_pos avn, cE, if_neg avn, sb, sb, if_pos avn, sb, if_neg avn] at h
 injection h with h; exact h.symm
theorem Lx (s : aq) (hs : s.length ≤ 4611686018427387904) : ∃ a b, kC s = some (a, b) ∧ t21 s = ((good a || a == ([115, 116, 97, 116, 105, 99] : aq)) && good b) := by
 have h := Cd s hs s.length 0 avh avh (fun j q => by omega)
 rw [show ((0 : Nat) : Int) = 0 from rfl] at h
 unfold kC
 rw [h, sb]
 unfold t21 Lib.cut
 by_cases hc : 0 ≤ Lib.index s [58, 58]
 ·rw [if_pos hc, if_pos hc]
  exact ⟨_, _, rfl, by rw [atM]; rfl⟩
 ·rw [if_neg hc, if_neg hc]
  exact ⟨_, _, rfl, by simp [Lw]⟩
theorem GD (s : aq) (hs : s.length < 4294967281) : ko s = some (t21 s) := by
 unfold ko nX t21
 rw [if_pos hs, sb]
 generalize Lib.cut s [58, 58] = c
 obtain ⟨a, b, x⟩ := c
 cases x
 ·rfl
 ·simp only [qD, sb, if_true, atM]
  by_cases h : a = ([115, 116, 97, 116, 105, 99] : aq)
  ·rw [if_pos h, h]; simp
  ·rw [if_neg h]
   cases good a <;> simp [h]
theorem contains_eq (s : aq) (hs : s.length < 4294967281) : kn s [60, 63] = some (decide (0 ≤ Lib.index s [60, 63])) := if_pos hs
set_option maxRecDepth 100000
def mC (k m : Int) : Bool :=
 if k = 1 then decide (0 ≤ m ∧ m ≤ 1000000000) else if k = 3 then decide (0 ≤ m ∧ m ≤ 2) else if k = 9 then decide (1 ≤ m ∧ m ≤ 2) else if k = 10 then decide (1 ≤ m ∧ m ≤ 15)
 else if k = 54 then decide (0 ≤ m ∧ m ≤ 1) else if k = 55 then decide (0 ≤ m ∧ m ≤ 3) else m == 0
def Vc : List Int := [4, 8, 17, 18, 20, 40, 44, 49, 50, 51, 52, 53, 54, 55]
def nT (k : Int) (t : aq) : Bool :=
 if k = 2 ∨ k = 47 then decide ((t.length : Int) ≤ 400) else if Vc.contains k then good t else if k = 22 then good t || t == ([115, 116, 97, 116, 105, 99] : aq) else if k = 21 then t21 t
 else if k = 31 then t31 t else t == ([] : aq)
def kds : List Int := [1, 2, 3, 4, 8, 9, 10, 17, 18, 20, 21, 22, 31, 40, 44, 47, 49, 50, 51, 52, 53, 54, 55]
theorem tQ (k m : Int) (t : aq) (ks : List ae) (hs : t.length ≤ 4611686018427387904) : cu (.mk k m t ks) = some (mC k m, nT k t) := by
 unfold cu
 simp only [ae.nE, ae.oa, ae.lZ, ae.kD]
 by_cases h : k ∈ kds
 ·simp only [kds, asI, aun, or_false] at h
  rcases h with h | h | h | h | h | h | h | h | h | h | h | h | h | h | h | h | h | h | h | h | h | h | h <;> subst h
  case inr.inr.inr.inr.inr.inr.inr.inr.inr.inr.inl =>
   obtain ⟨a, b, e1, e2⟩ := Lx t hs
   simp only [Int.reduceEq, if_false, if_true, e1, sb, Lp, mC, nT, Vc, Int.reduceBEq, asG, e2]
   simp only [atc, atd, Int.reduceBEq, atb, or_false, asG, if_false]
   cases good a
   ·by_cases q : a = ([115, 116, 97, 116, 105, 99] : aq)
    ·rw [if_neg avj, if_pos q, sb, q]; rfl
    ·rw [if_neg avj, if_neg q, sb]; simp [q]
   ·rw [if_pos rfl, sb]; rfl
  case inr.inr.inr.inr.inr.inr.inr.inr.inr.inr.inr.inr.inl =>
   have := aaV (.mk 31 m t ks) hs
   simp only [ae.oa, ae.lZ] at this
   simp only [Int.reduceEq, if_false, sb, Int.reduceBEq, asG, if_true, this]
   rfl
  all_goals
   simp only [Int.reduceEq, if_false, if_true, mB, sb, Lp, mC, nT, Vc, Int.reduceBEq, asG, or_false, false_or, or_true, true_or]
   try simp only [atc, atd, Int.reduceBEq, atb, atr, atx, or_false, asG, if_false, if_true]
   try (cases good t <;> rfl)
 ·simp only [kds, asI, aun, or_false, not_or] at h
  obtain ⟨_, _, _, _, _, _, _, _, _, _, _, _, _, _, _, _, _, _, _, _, _, _, _⟩ := h
  simp only [*, if_false, sb, mC, nT, Vc, atc, atd, beq_eq_false_iff_ne, atg, beq_iff_eq, asG, or_self, or_false, ne_eq, not_false_eq_true, not_true_eq_false]
set_option maxRecDepth 100000
def yO (b : Bool) : Unit ⊕ Bool := bif b then .inl () else .inr false
def Vd (b : Bool) : Unit ⊕ (Unit ⊕ Bool) := bif b then .inl () else .inr (.inr false)
mutual
def yP : ae → Bool | .mk k _ _ ks => if k = 7 ∧ ks.length = 2 then aqF ks else k == 4 || k == 8
def aqF : List ae → Bool | [] => false | x :: _ => yP x
end
section
variable (E S : ae → Bool)
def bl (x : ae) : Bool := x.ai == 48 && S x
def Ce (x : ae) : Bool := x.ai == 6 && (x.aC == 0 && (x.aj == ([] : aq) && (decide (1 ≤ (x.ah.length : Int) ∧ (x.ah.length : Int) ≤ 2) && x.ah.all E)))
def vh (a : Bool) : Bool → List ae → Bool
 | _, [] => true
 | b, x :: r => ((x.ai == 25 && a) || (x.ai == 24 && !b)) && (decide (0 ≤ x.aC ∧ x.aC ≤ 1) && (good x.aj && ((x.ah.length : Int) == 0 && vh a (b || x.ai == 25) r)))
def fU (a : Bool) (ks : List ae) : Bool := match ks.getLast? with
 | none => false
 | some x => vh a false ks.dropLast && bl S x
def gE (k : Int) (ks : List ae) : Bool :=
 if [1, 2, 3, 4].contains k then (ks.length : Int) == 0
 else if k = 5 then ks.all (Ce E)
 else if [8, 9].contains k then (match ks with | [a] => E a | _ => false)
 else if [7, 10, 11, 12, 13].contains k then (match ks with | [a, b] => E a && E b | _ => false)
 else if k = 14 then (match ks with | [a, b, c] => E a && (E b && E c) | _ => false)
 else if [15, 16].contains k then (match ks with | [a, b] => yP a && (E a && E b) | _ => false)
 else if k = 17 then (match ks with | [a] => a.ai == 4 && E a | _ => false)
 else if [18, 21, 22].contains k then ks.all E
 else if [19, 20].contains k then (match ks with | [] => false | a :: r => E a && r.all E)
 else if k = 23 then fU S true ks else false
def fE (n : ae) : Bool := mC n.ai n.aC && (nT n.ai n.aj && gE E S n.ai n.ah)
def cat (x : ae) : Bool := x.ai == 44 && (x.aC == 0 && (good x.aj && (match x.ah with | [a, b] => a.ai == 4 && (E a && bl S b) | _ => false)))
def fin (x : ae) : Bool := x.ai == 45 && (x.aC == 0 && (x.aj == ([] : aq) && (match x.ah with | [a] => bl S a | _ => false)))
def gS (k : Int) (ks : List ae) : Bool :=
 if [31, 37, 38, 40, 47].contains k then (ks.length : Int) == 0
 else if [32, 33, 42].contains k then (match ks with | [a] => E a | _ => false)
 else if k = 39 then (match ks with | [] => true | [a] => E a | _ => false)
 else if k = 41 then (match ks with | [a] => yP a && E a | _ => false)
 else if k = 34 then (match ks with | [a, b] => E a && bl S b | [a, b, c] => E a && (bl S b && bl S c) | _ => false)
 else if k = 35 then (match ks with | [a, b] => E a && bl S b | _ => false)
 else if k = 36 then (match ks with | [a, b, c] => E a && (E b && (b.ai == 4 && bl S c)) | [a, b, c, d] => E a && (E b && (E c && (b.ai == 4 && (c.ai == 4 && bl S d)))) | _ => false)
 else if k = 46 then (match ks with | [a] => E a | [a, b] => E a && (E b && a.ai == 4) | _ => false)
 else if k = 48 then ks.all S
 else if k = 43 then (match ks with | [a, b] => bl S a && (cat E S b || fin S b) | [a, b, c] => bl S a && (cat E S b && fin S c) | _ => false) else false
def fS (n : ae) : Bool := mC n.ai n.aC && (nT n.ai n.aj && gS E S n.ai n.ah)
end
theorem aT {a : ae} {r : List ae} : idx (a :: r) 0 = some a := by unfold idx; rw [if_pos ⟨by omega, by simp⟩]; rfl
theorem eY {a b : ae} {r : List ae} : idx (a :: b :: r) 1 = some b := by unfold idx; rw [if_pos ⟨by omega, by simp; omega⟩]; rfl
theorem lH {a b c : ae} {r : List ae} : idx (a :: b :: c :: r) 2 = some c := by unfold idx; rw [if_pos ⟨by omega, by simp; omega⟩]; rfl
theorem Ly {a b c d : ae} {r : List ae} : idx (a :: b :: c :: d :: r) 3 = some d := by unfold idx; rw [if_pos ⟨by omega, by simp; omega⟩]; rfl
section
variable {E S : ae → Bool}
theorem E9 (l : List ae) (h : ∀ x ∈ l, aQ x = some (E x)) (hl : l.length < 4611686018427387904) : ∀ f i : Nat, l.length ≤ i + f → jh l (i : Int) = some (yO ((l.drop i).all E))
 | f, i, hf => by
  rw [jh]
  by_cases hc : i < l.length
  ·obtain ⟨g, rfl⟩ : ∃ g, f = g + 1 := ⟨f - 1, by omega⟩
   rw [if_pos avh, bc hc, sb, h _ (asK hc), sb, bF avh, E9 l h hl g (i + 1) avh, asE hc, asL]
   cases E l[i] <;> rfl
  ·rw [if_neg avh, asD avh]; rfl
theorem sF (l : List ae) (h : ∀ x ∈ l, aQ x = some (E x)) (hl : l.length < 4611686018427387904) : du l 0 = some (l.all E) := by
 have := E9 l h hl l.length 0 avh
 rw [show ((0 : Nat) : Int) = 0 from rfl, asJ] at this
 rw [du, this, sb]
 cases l.all E <;> rfl
theorem Fa (n : ae) (h : ∀ x ∈ n.ah, cm x = some (S x)) (hl : n.ah.length < 4611686018427387904) : ∀ f i : Nat, n.ah.length ≤ i + f → ik n (i : Int) = some (yO ((n.ah.drop i).all S))
 | f, i, hf => by
  rw [ik]
  by_cases hc : i < n.ah.length
  ·obtain ⟨g, rfl⟩ : ∃ g, f = g + 1 := ⟨f - 1, by omega⟩
   rw [if_pos avh, bc hc, sb, h _ (asK hc), sb, bF avh, Fa n h hl g (i + 1) avh, asE hc, asL]
   cases S n.ah[i] <;> rfl
  ·rw [if_neg avh, asD avh]; rfl
theorem Fb (n : ae) (h : ∀ x ∈ n.ah, cm x = some (S x)) (hl : n.ah.length < 4611686018427387904) : a7 n = some (n.ai == 48 && (n.aC == 0 && (n.aj == ([] : aq) && n.ah.all S))) := by
 have := Fa n h hl n.ah.length 0 avh
 rw [show ((0 : Nat) : Int) = 0 from rfl, asJ] at this
 rw [a7, this, sb]
 by_cases h1 : n.ai = 48
 ·rw [if_pos h1, h1]
  by_cases h2 : n.aC = 0
  ·rw [if_pos h2, h2]
   by_cases h3 : n.aj = ([] : aq)
   ·rw [if_pos h3, h3]
    cases n.ah.all S <;> rfl
   ·rw [if_neg h3]; simp [h3]
  ·rw [if_neg h2]; simp [h2]
 ·rw [if_neg h1]; simp [h1]
theorem aqG (n : ae) (h : n.ai = 48) : fS E S n = (n.aC == 0 && (n.aj == ([] : aq) && n.ah.all S)) := by
 unfold fS gS mC nT Vc
 rw [h]; rfl
theorem sbl (n : ae) (h : ∀ x ∈ n.ah, cm x = some (S x)) (hl : n.ah.length < 4611686018427387904) (hS : S n = fS E S n) : a7 n = some (bl S n) := by
 rw [Fb n h hl, bl]
 by_cases h1 : n.ai = 48
 ·rw [hS, aqG n h1]
 ·rw [beq_eq_false_iff_ne.2 h1]; rfl
theorem Lz (n : ae) (h : ∀ x ∈ n.ah, ∀ y ∈ x.ah, aQ y = some (E y)) (mD : ∀ x ∈ n.ah, x.ah.length < 4611686018427387904) (hl : n.ah.length < 4611686018427387904) : ∀ f i : Nat, n.ah.length ≤ i + f → jg n (i : Int) = some (Vd ((n.ah.drop i).all (Ce E)))
 | f, i, hf => by
  rw [jg]
  by_cases hc : i < n.ah.length
  ·obtain ⟨g, rfl⟩ : ∃ g, f = g + 1 := ⟨f - 1, by omega⟩
   rw [if_pos avh, bc hc, sb, mB, sb, sF _ (h _ (asK hc)) (mD _ (asK hc)), sb, bF avh, Lz n h mD hl g (i + 1) avh, asE hc, asL]
   generalize n.ah[i] = x
   unfold Ce
   by_cases h1 : x.ai = 6
   ·by_cases h2 : x.aC = 0
    ·by_cases h3 : x.aj = ([] : aq)
     ·rw [if_pos h1, if_pos h2, if_pos h3, h1, h2, h3]
      cases decide (1 ≤ (x.ah.length : Int) ∧ (x.ah.length : Int) ≤ 2)
      ·rfl
      ·cases x.ah.all E <;> rfl
     ·rw [if_pos h1, if_pos h2, if_neg h3, beq_eq_false_iff_ne.2 h3, atC, atl, atl]; rfl
    ·rw [if_pos h1, if_neg h2, beq_eq_false_iff_ne.2 h2, atC, atl]; rfl
   ·rw [if_neg h1, beq_eq_false_iff_ne.2 h1]; rfl
  ·rw [if_neg avh, asD avh]; rfl
theorem lf {l : List ae} {x : ae} : idx (l ++ [x]) (l.length : Int) = some x := by
 rw [bc avj]; simp
theorem Fc (a : Bool) (l : List ae) (z : ae) (hl : l.length < 4611686018427387904) : ∀ (f i : Nat) (b : Bool), l.length ≤ i + f → dW (l ++ [z]) a b (i : Int) = some (yO (vh a b (l.drop i)))
 | f, i, b, hf => by
  rw [dW, kx (x := (((l ++ [z]).length : Int)) - 1) (n := l.length) avj avh]
  by_cases hc : i < l.length
  ·obtain ⟨g, rfl⟩ : ∃ g, f = g + 1 := ⟨f - 1, by omega⟩
   have hd : (l ++ [z])[i]'avm = l[i] := atZ hc
   have IH := fun b' => Fc a l z hl g (i + 1) b' avh
   rw [if_pos avh, bc avm, sb, hd, asE hc]
   simp only [mB, sb, Lp, bF (show i < 9223372036854775807 by omega), IH, vh]
   generalize l[i] = x
   have e0 : (if (x.ah.length : Int) > 0 then (some (.inr false) : Option (Unit ⊕ Bool)) else some (yO (vh a (b || x.ai == 25) (l.drop (i + 1))))) = some (yO ((x.ah.length : Int) == 0 && vh a (b || x.ai == 25) (l.drop (i + 1)))) := by
    by_cases h : (x.ah.length : Int) > 0
    ·rw [if_pos h, beq_eq_false_iff_ne.2 avh]; rfl
    ·rw [if_neg h, show (x.ah.length : Int) = 0 by omega]; rfl
   by_cases h1 : x.ai = 25
   ·rw [if_pos h1, sb, if_neg avh, if_pos h1]
    cases a
    ·rw [h1]; rfl
    ·rw [h1] at e0
     simp only [Int.reduceBEq, atr, atI] at e0
     rw [h1]
     cases decide (0 ≤ x.aC ∧ x.aC ≤ 1)
     ·rfl
     ·cases good x.aj
      ·rfl
      ·simpa using e0
   ·rw [if_neg h1, sb]
    have h1' : (x.ai == 25) = false := beq_eq_false_iff_ne.2 h1
    rw [h1', atb] at e0
    rw [h1', atb, atC, atf]
    by_cases h2 : x.ai = 24
    ·rw [if_pos h2, h2]
     cases b
     ·cases decide (0 ≤ x.aC ∧ x.aC ≤ 1)
      ·rfl
      ·cases good x.aj
       ·rfl
       ·simpa using e0
     ·rw [if_pos rfl, if_neg avn]; rfl
    ·rw [if_neg h2, if_neg h1, beq_eq_false_iff_ne.2 h2]; rfl
  ·rw [if_neg avh, asD avh]; rfl
theorem Ad (a : Bool) (ks : List ae) (hl : ks.length < 4611686018427387904) (hB : ∀ x ∈ ks, a7 x = some (bl S x)) : hU ks a = some (fU S a ks) := by
 rcases atP ks with rfl | ⟨l, z, rfl⟩
 ·rw [hU, dW]; rfl
 ·rw [atQ] at hl hB ⊢
  have hl' : l.length < 4611686018427387904 := by simp at hl; omega
  have := Fc a l z hl' l.length 0 false avh
  rw [show ((0 : Nat) : Int) = 0 from rfl, asJ] at this
  rw [hU, this, sb, kx (x := (((l ++ [z]).length : Int)) - 1) (n := l.length) avj avh, fU, auf, aug]
  show _ = some (vh a false l && bl S z)
  cases vh a false l
  ·rfl
  ·show (if (l.length : Int) ≥ 0 then _ else _) = _
   rw [if_pos avh, lf, sb, hB z avj, sb]; rfl
end
set_option maxRecDepth 100000
mutual
theorem stg : ∀ (k m : Int) (t : aq) (ks : List ae), ∃ a b c d, gQ k m t ks = some (a, b, c, d) ∧ yP (.mk k m t ks) = (a == 4 || a == 8)
 | k, m, t, ks => by
  rw [gQ, yP]
  by_cases h : k = 7
  ·by_cases h2 : ks.length = 2
   ·rw [if_pos h, if_pos avh, if_pos ⟨h, h2⟩]
    match ks, h2 with
    | [.mk k1 m1 t1 ks1, y], _ => rw [aT, sb]; exact stg k1 m1 t1 ks1
   ·rw [if_pos h, if_neg avh, if_neg (fun q => h2 q.2)]; exact ⟨_, _, _, _, rfl, rfl⟩
  ·rw [if_neg h, if_neg (fun q => h q.1)]; exact ⟨_, _, _, _, rfl, rfl⟩
end
theorem LA (x : ae) : iC x = some (yP x) := by
 cases x with
 | mk k m t ks =>
  obtain ⟨a, b, c, d, h1, h2⟩ := stg k m t ks
  unfold iC
  simp only [ae.nE, ae.oa, ae.lZ, ae.kD, h1, sb]
  rw [h2]
  by_cases h : a = 4
  ·rw [if_pos h, h]; rfl
  ·rw [if_neg h, beq_eq_false_iff_ne.2 h, atf]
section
variable {E S : ae → Bool}
theorem P0 (k m : Int) (t : aq) (ks : List ae) (ht : t.length ≤ 4611686018427387904) (hl : ks.length < 4611686018427387904) (mD : ∀ x ∈ ks, x.ah.length < 4611686018427387904)
  (HE : ∀ x ∈ ks, aQ x = some (E x)) (GF : ∀ x ∈ ks, ∀ y ∈ x.ah, aQ y = some (E y)) (HB : ∀ x ∈ ks, a7 x = some (bl S x)) : aQ (.mk k m t ks) = some (fE E S (.mk k m t ks)) := by
 rw [aQ, tQ _ _ _ _ ht, sb, fE]
 simp only [ae.nE, ae.oa, ae.lZ, ae.kD]
 cases mC k m
 ·rfl
 cases nT k t
 ·rfl
 rw [if_pos rfl, if_pos rfl]
 show _ = some (gE E S k ks)
 have he := sF ks HE hl
 by_cases hk : 1 ≤ k ∧ k ≤ 23
 ·rcases (by omega : k = 1 ∨ k = 2 ∨ k = 3 ∨ k = 4 ∨ k = 5 ∨ k = 6 ∨ k = 7 ∨ k = 8 ∨ k = 9 ∨ k = 10 ∨ k = 11 ∨ k = 12 ∨ k = 13 ∨ k = 14 ∨ k = 15 ∨ k = 16 ∨ k = 17 ∨ k = 18 ∨ k = 19 ∨ k = 20 ∨ k = 21 ∨ k = 22 ∨ k = 23) with h | h | h | h | h | h | h | h | h | h | h | h | h | h | h | h | h | h | h | h | h | h | h <;> subst h <;>
  simp only [gE, atc, atd, Int.reduceEq, Int.reduceBEq, if_true, if_false, atb, atr, atx, atf, asG, sb, he, LA] <;> try rfl
  case inr.inr.inr.inr.inl =>
   have h0 := Lz (.mk 5 m t ks) GF mD hl ks.length 0 (by show ks.length ≤ _; omega)
   rw [show ((0 : Nat) : Int) = 0 from rfl, asJ, ae.kD] at h0
   rw [h0, sb]
   cases ks.all (Ce E) <;> rfl
  all_goals
   first
    | (rw [Ad _ _ hl HB]; rfl)
    | (match ks, HE with
     | [], _ => first | rfl | (rw [if_neg avn]) | (rw [if_neg avn]; rfl)
     | [a], HE => simp only [aT, eY, lH, sb, HE a avj, asL, atk, ati, an, mg]; first | done | rfl | (rw [if_pos avn]; done) | (rw [if_neg avn]; done) | (by_cases q : a.ai = 4 <;> simp [q]; done)
     | [a, b], HE => simp only [aT, eY, lH, sb, HE a avj, HE b avj, asL, atk, ati, an, mg]; first | done | rfl | (rw [if_pos avn]; done) | (rw [if_neg avn]; done) | (rw [if_pos avn]; cases yP a <;> rfl)
     | [a, b, c], HE => simp only [an, mg, asL, atk, ati]; first | done | rfl | (rw [if_pos avn]; done) | (rw [if_neg avn]; done)
     | a :: b :: c :: d :: r, HE => simp only [an, asL]; first | done | rfl | (rw [if_pos avh]; rfl) | (rw [if_neg avh]; done) | (rw [if_neg avh]; rfl))
 ·have h1 : ¬ k = 1 := by omega
  have h2 : ¬ k = 2 := by omega
  have h3 : ¬ k = 3 := by omega
  have h4 : ¬ k = 4 := by omega
  have h5 : ¬ k = 5 := by omega
  have h7 : ¬ k = 7 := by omega
  have h8 : ¬ k = 8 := by omega
  have h9 : ¬ k = 9 := by omega
  have Ae : ¬ k = 10 := by omega
  have GG : ¬ k = 11 := by omega
  have GH : ¬ k = 12 := by omega
  have GI : ¬ k = 13 := by omega
  have LB : ¬ k = 14 := by omega
  have LC : ¬ k = 15 := by omega
  have LD : ¬ k = 16 := by omega
  have P1 : ¬ k = 17 := by omega
  have h18 : ¬ k = 18 := by omega
  have h19 : ¬ k = 19 := by omega
  have h20 : ¬ k = 20 := by omega
  have h21 : ¬ k = 21 := by omega
  have h22 : ¬ k = 22 := by omega
  have h23 : ¬ k = 23 := by omega
  simp only [gE, atc, atd, if_true, if_false, atb, atr, atx, atf, asG, sb, *, beq_eq_false_iff_ne.2 h1, beq_eq_false_iff_ne.2 h2, beq_eq_false_iff_ne.2 h3, beq_eq_false_iff_ne.2 h4, beq_eq_false_iff_ne.2 h7, beq_eq_false_iff_ne.2 h8, beq_eq_false_iff_ne.2 h9, beq_eq_false_iff_ne.2 Ae, beq_eq_false_iff_ne.2 GG, beq_eq_false_iff_ne.2 GH, beq_eq_false_iff_ne.2 GI, beq_eq_false_iff_ne.2 LC, beq_eq_false_iff_ne.2 LD, beq_eq_false_iff_ne.2 h18, beq_eq_false_iff_ne.2 h19, beq_eq_false_iff_ne.2 h20, beq_eq_false_iff_ne.2 h21, beq_eq_false_iff_ne.2 h22]
end
set_option maxRecDepth 100000
theorem tR (x : ae) (hs : x.aj.length ≤ 4611686018427387904) : cu x = some (mC x.ai x.aC, nT x.ai x.aj) := by
 cases x with
 | mk k m t ks => exact tQ k m t ks hs
section
variable {E S : ae → Bool}
theorem aaW (x : ae) (h : x.ai = 44) : cat E S x = (mC 44 x.aC && (nT 44 x.aj && (match x.ah with | [a, b] => a.ai == 4 && (E a && bl S b) | _ => false))) := by
 unfold cat; rw [h]; rfl
theorem aaX (x : ae) (h : x.ai = 45) : fin S x = (mC 45 x.aC && (nT 45 x.aj && (match x.ah with | [a] => bl S a | _ => false))) := by
 unfold fin; rw [h]; rfl
theorem wE (n : ae) (i : Nat) (hi : i < n.ah.length) (hb : n.ah.length < 4611686018427387904) (ht : n.ah[i].aj.length ≤ 4611686018427387904)
  (HE : ∀ y ∈ n.ah[i].ah, aQ y = some (E y)) (HB : ∀ y ∈ n.ah[i].ah, a7 y = some (bl S y)) :
  di n (i : Int) = bif ((decide (i = 1) && cat E S n.ah[i]) || (decide (i + 1 = n.ah.length) && fin S n.ah[i])) then di n ((i + 1 : Nat) : Int) else some (.inr (.inr false)) := by
 rw [di, if_pos avh, bc hi, sb, tR _ ht, sb, bF avh, kx (x := (n.ah.length : Int) - 1) (n := n.ah.length - 1) avh avh]
 generalize n.ah[i] = x at HE HB ⊢
 show (Option.bind _ _) = _
 by_cases h4 : x.ai = 44
 ·rw [if_pos h4, h4, aaW x h4, show fin S x = false by unfold fin; rw [h4]; rfl, atl, atb]
  by_cases h1 : i = 1
  ·rw [if_pos avh, decide_eq_true h1, atM]
   match h : x.ah, HE, HB with
   | [], _, _ => cases mC 44 x.aC <;> cases nT 44 x.aj <;> rfl
   | [a], _, _ => cases mC 44 x.aC <;> cases nT 44 x.aj <;> rfl
   | a :: b :: c :: r, _, _ =>
    rw [if_neg avo]
    cases mC 44 x.aC <;> cases nT 44 x.aj <;> rfl
   | [a, b], HE, HB =>
    rw [if_pos (by rfl), aT, eY, sb, sb, sb, HE a avj, HB b avj, sb, sb]
    show _ = (bif (mC 44 x.aC && (nT 44 x.aj && (a.ai == 4 && (E a && bl S b)))) then _ else _)
    by_cases h5 : a.ai = 4
    ·rw [if_pos h5, h5]
     cases mC 44 x.aC <;> cases nT 44 x.aj <;> cases E a <;> cases bl S b <;> rfl
    ·rw [if_neg h5, beq_eq_false_iff_ne.2 h5]
     cases mC 44 x.aC <;> cases nT 44 x.aj <;> rfl
  ·rw [if_neg avh, decide_eq_false h1, atC]
   cases mC 44 x.aC <;> cases nT 44 x.aj <;> rfl
 ·by_cases h5 : x.ai = 45
  ·rw [if_neg h4, h5, aaX x h5, show cat E S x = false by unfold cat; rw [h5]; rfl, atl, atf]
   by_cases h1 : i + 1 = n.ah.length
   ·rw [if_pos rfl, if_pos avh, decide_eq_true h1, atM]
    match h : x.ah, HE, HB with
    | [], _, _ => cases mC 45 x.aC <;> cases nT 45 x.aj <;> rfl
    | a :: b :: r, _, _ =>
     rw [if_neg avo]
     cases mC 45 x.aC <;> cases nT 45 x.aj <;> rfl
    | [a], HE, HB =>
     rw [if_pos (by rfl), aT, sb, HB a avj, sb]
     show _ = (bif (mC 45 x.aC && (nT 45 x.aj && bl S a)) then _ else _)
     cases mC 45 x.aC <;> cases nT 45 x.aj <;> cases bl S a <;> rfl
   ·rw [if_pos rfl, if_neg avh, decide_eq_false h1, atC]
    cases mC 45 x.aC <;> cases nT 45 x.aj <;> rfl
  ·rw [if_neg h4, if_neg h5, show cat E S x = false by unfold cat; rw [beq_eq_false_iff_ne.2 h4]; rfl, show fin S x = false by unfold fin; rw [beq_eq_false_iff_ne.2 h5]; rfl, atl, atl]
   cases mC x.ai x.aC <;> cases nT x.ai x.aj <;> rfl
theorem Fe (n : ae) (i : Nat) (hi : i = n.ah.length) : di n (i : Int) = some (.inl ()) := by
 rw [di, if_neg avh]
theorem P2 (k m : Int) (t : aq) (ks : List ae) (ht : t.length ≤ 4611686018427387904) (hl : ks.length < 4611686018427387904) (P3 : ∀ x ∈ ks, x.aj.length ≤ 4611686018427387904)
  (HE : ∀ x ∈ ks, aQ x = some (E x)) (GF : ∀ x ∈ ks, ∀ y ∈ x.ah, aQ y = some (E y)) (HB : ∀ x ∈ ks, a7 x = some (bl S x)) (Ve : ∀ x ∈ ks, ∀ y ∈ x.ah, a7 y = some (bl S y))
  (HS : ∀ x ∈ ks, cm x = some (S x)) : cm (.mk k m t ks) = some (fS E S (.mk k m t ks)) := by
 rw [cm, tQ _ _ _ _ ht, sb, fS]
 simp only [ae.nE, ae.oa, ae.lZ, ae.kD]
 cases hN : mC k m
 ·rfl
 cases hT : nT k t
 ·rfl
 rw [if_pos rfl, if_pos rfl]
 show _ = some (gS E S k ks)
 have he := sF ks HE hl
 by_cases hk : 31 ≤ k ∧ k ≤ 48
 ·rcases (by omega : k = 31 ∨ k = 32 ∨ k = 33 ∨ k = 34 ∨ k = 35 ∨ k = 36 ∨ k = 37 ∨ k = 38 ∨ k = 39 ∨ k = 40 ∨ k = 41 ∨ k = 42 ∨ k = 43 ∨ k = 44 ∨ k = 45 ∨ k = 46 ∨ k = 47 ∨ k = 48) with h | h | h | h | h | h | h | h | h | h | h | h | h | h | h | h | h | h <;> subst h <;>
  simp only [gS, atc, atd, Int.reduceEq, Int.reduceBEq, if_true, if_false, atb, atr, atx, atf, asG, sb, he, LA, mB] <;> try rfl
  case inr.inr.inr.inr.inr.inr.inr.inr.inr.inr.inr.inr.inl =>
   match ks, HB, Ve, GF, P3, hl with
   | [], _, _, _, _, _ => rfl
   | [a], _, _, _, _, _ => rfl
   | [a, b], HB, Ve, GF, P3, hl =>
    have h1 := wE (E := E) (S := S) (.mk 43 m t [a, b]) 1 avj hl (P3 b avj) (GF b avj) (Ve b avj)
    rw [Fe _ 2 rfl] at h1
    simp only [aT, sb, HB a avj]
    rw [show (((1 : Nat) : Int)) = 1 from rfl] at h1
    rw [h1]
    simp only [ae.kD, an, mg, List.getElem_cons_succ, auc, decide_true, atM]
    cases bl S a <;> cases cat E S b <;> cases fin S b <;> rfl
   | [a, b, c], HB, Ve, GF, P3, hl =>
    have h1 := wE (E := E) (S := S) (.mk 43 m t [a, b, c]) 1 avj hl (P3 b avj) (GF b avj) (Ve b avj)
    have h2 := wE (E := E) (S := S) (.mk 43 m t [a, b, c]) 2 avj hl (P3 c avj) (GF c avj) (Ve c avj)
    rw [Fe _ 3 rfl] at h2
    rw [h2] at h1
    simp only [aT, sb, HB a avj]
    rw [show (((1 : Nat) : Int)) = 1 from rfl] at h1
    rw [h1]
    simp only [ae.kD, an, mg, List.getElem_cons_succ, auc, decide_true, atM]
    cases bl S a <;> cases cat E S b <;> cases fin S b <;> cases fin S c <;> rfl
   | a :: b :: c :: d :: r, _, _, _, _, _ =>
    rw [decide_eq_false avo]; rfl
  case inr.inr.inr.inr.inr.inr.inr.inr.inr.inr.inr.inr.inr.inr.inr.inr.inr =>
   have h0 := Fb (.mk 48 m t ks) HS hl
   simp only [ae.nE, ae.oa, ae.lZ, ae.kD] at h0
   have e1 : (m == 0) = true := hN
   have e2 : (t == ([] : aq)) = true := hT
   rw [e1, e2] at h0
   rw [h0]; rfl
  all_goals
   match ks, HE, HB, HS with
   | [], _, _, _ => first | rfl | (rw [if_neg avn]; done) | (rw [if_neg avn]; rfl) | (rw [if_pos avn]; rfl)
   | [a], HE, HB, HS =>
    simp only [aT, sb, HE a avj, asL, atk, ati, an, mg]
    first | done | rfl | (cases E a <;> rfl) | (cases yP a <;> rfl) | (cases yP a <;> cases E a <;> rfl)
   | [a, b], HE, HB, HS =>
    simp only [aT, eY, sb, HE a avj, HE b avj, HB b avj, asL, atk, ati, an, mg]
    first
     | done
     | rfl
     | (rw [show aS (((0 + 1 + 1 : Nat) : Int) - 1) = 1 from rfl, eY, sb, HB b avj, sb]; cases E a <;> cases bl S b <;> rfl)
     | (cases E a <;> cases bl S b <;> rfl)
     | (cases E a <;> cases E b <;> rfl)
   | [a, b, c], HE, HB, HS =>
    try dsimp only
    first
     | rfl
     | (rw [show aS ((([a, b, c] : List ae).length : Int) - 1) = 2 from rfl, lH, aT, eY, sb, sb, sb, HE a avj, HB b avj, HB c avj, sb, sb, sb]; cases E a <;> cases bl S b <;> cases bl S c <;> rfl)
     | (
      rw [show aS ((([a, b, c] : List ae).length : Int) - 1) = 2 from rfl, show aS ((([a, b, c] : List ae).length : Int) - 2) = 1 from rfl, lH, eY, sb, sb, sb, HB c avj, sb, show Ir [a, b, c] 2 = some [a, b] from rfl, sb, sF [a, b] (fun x h => HE x (by simp at h ⊢; rcases h with h | h <;> simp [h])) avj]
      by_cases q : b.ai = 4
      ·rw [if_pos q, q]; simp only [asL, atk, ati]; cases E a <;> cases E b <;> cases bl S c <;> rfl
      ·rw [if_neg q, beq_eq_false_iff_ne.2 q]; simp only [asL, atk, ati]; cases E a <;> cases E b <;> cases bl S c <;> rfl)
   | [a, b, c, d], HE, HB, HS =>
    try dsimp only
    first
     | rfl
     | (
      rw [show aS ((([a, b, c, d] : List ae).length : Int) - 1) = 3 from rfl, show aS ((([a, b, c, d] : List ae).length : Int) - 2) = 2 from rfl, Ly, lH, eY, sb, sb, sb, HB d avj, sb, show Ir [a, b, c, d] 3 = some [a, b, c] from rfl, sb, sF [a, b, c] (fun x h => HE x (by simp at h ⊢; rcases h with h | h | h <;> simp [h])) avj]
      simp only [asL, atk, ati]
      by_cases q : b.ai = 4
      ·by_cases q2 : c.ai = 4
       ·rw [if_pos q, if_pos q2, q, q2]; cases E a <;> cases E b <;> cases E c <;> cases bl S d <;> rfl
       ·rw [if_pos q, if_neg q2, q, beq_eq_false_iff_ne.2 q2]; cases E a <;> cases E b <;> cases E c <;> cases bl S d <;> rfl
      ·rw [if_neg q, beq_eq_false_iff_ne.2 q]; cases E a <;> cases E b <;> cases E c <;> cases bl S d <;> rfl)
   | a :: b :: c :: d :: e :: r, _, _, _ =>
    first
     | rfl
     | (rw [if_neg avo]; done)
     | (rw [if_neg avo]; rfl)
     | (rw [decide_eq_false avo]; rfl)
 ·have Vf : ¬ k = 31 := by omega
  have Vg : ¬ k = 32 := by omega
  have Vh : ¬ k = 33 := by omega
  have h34 : ¬ k = 34 := by omega
  have h35 : ¬ k = 35 := by omega
  have h36 : ¬ k = 36 := by omega
  have Vi : ¬ k = 37 := by omega
  have Vj : ¬ k = 38 := by omega
  have h39 : ¬ k = 39 := by omega
  have Vk : ¬ k = 40 := by omega
  have h41 : ¬ k = 41 := by omega
  have Vl : ¬ k = 42 := by omega
  have h43 : ¬ k = 43 := by omega
  have h46 : ¬ k = 46 := by omega
  have Vm : ¬ k = 47 := by omega
  have LF : ¬ k = 48 := by omega
  simp only [gS, atc, atd, if_true, if_false, atb, atr, atx, atf, asG, sb, *, beq_eq_false_iff_ne.2 Vf, beq_eq_false_iff_ne.2 Vg, beq_eq_false_iff_ne.2 Vh, beq_eq_false_iff_ne.2 Vi, beq_eq_false_iff_ne.2 Vj, beq_eq_false_iff_ne.2 Vk, beq_eq_false_iff_ne.2 Vl, beq_eq_false_iff_ne.2 Vm]
end
set_option maxRecDepth 100000
mutual
def wt : ae → Nat | .mk _ _ t k => t.length + k.length + Is k
def Is : List ae → Nat | [] => 0 | x :: r => wt x + Is r
end
theorem yQ (n : ae) : wt n = n.aj.length + n.ah.length + Is n.ah := by cases n; rfl
theorem Ff : ∀ (l : List ae) (x : ae), x ∈ l → wt x ≤ Is l
 | y :: r, x, h => by
  rw [Is]
  rcases asI.1 h with h | h
  ·subst h; omega
  ·have := Ff r x h; omega
theorem Fg : ∀ (l : List ae) (x : ae), x ∈ l → sz x ≤ gZ l
 | y :: r, x, h => by
  rw [gZ]
  rcases asI.1 h with h | h
  ·subst h; omega
  ·have := Fg r x h; omega
mutual
theorem Vn : ∀ n : ae, sz n ≤ 1 + wt n
 | .mk _ _ t k => by have := Fh k; rw [sz, wt]; omega
theorem Fh : ∀ l : List ae, gZ l ≤ l.length + Is l
 | [] => asA _
 | x :: r => by have := Vn x; have := Fh r; rw [gZ, Is, an]; omega
end
def vE (n : ae) : Bool := (aQ n).getD false
def vS (n : ae) : Bool := (cm n).getD false
theorem cJ {n x : ae} (h : x ∈ n.ah) : sz x < sz n := by have := Fg _ _ h; have := iK n; omega
theorem eQ {n x : ae} (h : x ∈ n.ah) : wt x ≤ wt n := by have := Ff _ _ h; have := yQ n; omega
theorem wF : ∀ (N : Nat) (n : ae), sz n < N → wt n ≤ 1048576 → (aQ n = some (vE n) ∧ vE n = fE vE vS n) ∧ (cm n = some (vS n) ∧ vS n = fS vE vS n)
 | 0, n, h, _ => by omega
 | N + 1, n, h, hw => by
  have hk : ∀ x ∈ n.ah, _ := fun x hx => wF N x avv avG
  have nU : ∀ x ∈ n.ah, ∀ y ∈ x.ah, _ := fun x hx y hy => wF N y avt avw
  have gH : ∀ x ∈ n.ah, ∀ y ∈ x.ah, ∀ z ∈ y.ah, _ := fun x hx y hy z hz => wF N z (by have := cJ hx; have := cJ hy; have := cJ hz; omega) (by have := eQ hx; have := eQ hy; have := eQ hz; omega)
  have bd : ∀ x : ae, wt x ≤ 1048576 → x.aj.length ≤ 4611686018427387904 ∧ x.ah.length < 4611686018427387904 := fun x hx => by have := yQ x; omega
  have w1 : ∀ x ∈ n.ah, wt x ≤ 1048576 := fun x hx => by have := eQ hx; omega
  have w2 : ∀ x ∈ n.ah, ∀ y ∈ x.ah, wt y ≤ 1048576 := fun x hx y hy => by have := eQ hx; have := eQ hy; omega
  have HE : ∀ x ∈ n.ah, aQ x = some (vE x) := fun x hx => (hk x hx).1.1
  have GF : ∀ x ∈ n.ah, ∀ y ∈ x.ah, aQ y = some (vE y) := fun x hx y hy => (nU x hx y hy).1.1
  have HS : ∀ x ∈ n.ah, cm x = some (vS x) := fun x hx => (hk x hx).2.1
  have HB : ∀ x ∈ n.ah, a7 x = some (bl vS x) := fun x hx => sbl x (fun y hy => (nU x hx y hy).2.1) (bd x (w1 x hx)).2 (hk x hx).2.2
  have Ve : ∀ x ∈ n.ah, ∀ y ∈ x.ah, a7 y = some (bl vS y) := fun x hx y hy => sbl y (fun z hz => (gH x hx y hy z hz).2.1) (bd y (w2 x hx y hy)).2 (nU x hx y hy).2.2
  have e1 : aQ n = some (fE vE vS n) := by
   cases n with
   | mk k m t ks => exact P0 k m t ks (bd _ hw).1 (bd _ hw).2 (fun x hx => (bd x (w1 x hx)).2) HE GF HB
  have e2 : cm n = some (fS vE vS n) := by
   cases n with
   | mk k m t ks => exact P2 k m t ks (bd _ hw).1 (bd _ hw).2 (fun x hx => (bd x (w1 x hx)).1) HE GF HB Ve HS
  have g1 : vE n = fE vE vS n := by rw [vE, e1]; rfl
  have g2 : vS n = fS vE vS n := by rw [vS, e2]; rfl
  exact ⟨⟨by rw [e1, g1], g1⟩, ⟨by rw [e2, g2], g2⟩⟩
theorem spE {n : ae} (h : wt n ≤ 1048576) : aQ n = some (vE n) := (wF _ n (ate _) h).1.1
theorem spS {n : ae} (h : wt n ≤ 1048576) : cm n = some (vS n) := (wF _ n (ate _) h).2.1
theorem yR {n : ae} (h : wt n ≤ 1048576) : vE n = fE vE vS n := (wF _ n (ate _) h).1.2
theorem Fi {n : ae} (h : wt n ≤ 1048576) : vS n = fS vE vS n := (wF _ n (ate _) h).2.2
theorem sB {n : ae} (h : wt n ≤ 1048576) : a7 n = some (bl vS n) := sbl n (fun y hy => spS (by have := eQ hy; omega)) (by have := yQ n; omega) (Fi h)
set_option maxRecDepth 100000
theorem nest {c : Prop} [Decidable c] {b : Bool} : (if c then (some (.inr b) : Option (Unit ⊕ Bool)) else some (.inr false)) = some (.inr (decide c && b)) := by
 by_cases h : c <;> simp [h]
theorem akr {c : Prop} [Decidable c] {b : Bool} : (if c then some b else some false) = some (decide c && b) := by
 by_cases h : c <;> simp [h]
theorem Af {α : Type} [BEq α] [LawfulBEq α] {a b : α} [Decidable (a = b)] : decide (a = b) = (a == b) := by
 by_cases h : a = b
 ·rw [decide_eq_true h, h, atI]
 ·rw [decide_eq_false h, beq_eq_false_iff_ne.2 h]
section
variable {E S : ae → Bool}
theorem ln1 (ks : List ae) : (((ks.length : Int) == 1) && ks.all E) = (match ks with | [a] => E a | _ => false) := by
 match ks with
 | [] => rfl
 | [a] => simp
 | a :: b :: r => rw [beq_eq_false_iff_ne.2 avo]; rfl
theorem ln2 (ks : List ae) : (((ks.length : Int) == 2) && ks.all E) = (match ks with | [a, b] => E a && E b | _ => false) := by
 match ks with
 | [] => rfl
 | [a] => rfl
 | [a, b] => simp
 | a :: b :: c :: r => rw [beq_eq_false_iff_ne.2 avo]; rfl
theorem ln3 (ks : List ae) : (((ks.length : Int) == 3) && ks.all E) = (match ks with | [a, b, c] => E a && (E b && E c) | _ => false) := by
 match ks with
 | [] => rfl
 | [a] => rfl
 | [a, b] => rfl
 | [a, b, c] => simp
 | a :: b :: c :: d :: r => rw [beq_eq_false_iff_ne.2 avo]; rfl
theorem aks (ks : List ae) : (decide ((ks.length : Int) ≥ 1) && ks.all E) = (match ks with | [] => false | a :: r => E a && r.all E) := by
 match ks with
 | [] => rfl
 | a :: r => rw [decide_eq_true avo]; rfl
theorem akt (ks : List ae) : (decide ((ks.length : Int) ≤ 1) && ks.all E) = (match ks with | [] => true | [a] => E a | _ => false) := by
 match ks with
 | [] => rfl
 | [a] => simp
 | a :: b :: r => rw [decide_eq_false avo]; rfl
theorem Fj (l : List ae) (h : ∀ x ∈ l, bh x = some (E x)) (hl : l.length < 4611686018427387904) : ∀ f i : Nat, l.length ≤ i + f → iq l (i : Int) = some (yO ((l.drop i).all E))
 | f, i, hf => by
  rw [iq]
  by_cases hc : i < l.length
  ·obtain ⟨g, rfl⟩ : ∃ g, f = g + 1 := ⟨f - 1, by omega⟩
   rw [if_pos avh, bc hc, sb, h _ (asK hc), sb, bF avh, Fj l h hl g (i + 1) avh, asE hc, asL]
   cases E l[i] <;> rfl
  ·rw [if_neg avh, asD avh]; rfl
theorem Ag (l : List ae) (h : ∀ x ∈ l, bh x = some (E x)) (hl : l.length < 4611686018427387904) : bz l = some (l.all E) := by
 have := Fj l h hl l.length 0 avh
 rw [show ((0 : Nat) : Int) = 0 from rfl, asJ] at this
 rw [bz, this, sb]
 cases l.all E <;> rfl
theorem LG (l : List ae) (h : ∀ x ∈ l, bE x = some (S x)) (hl : l.length < 4611686018427387904) : ∀ f i : Nat, l.length ≤ i + f → jK l (i : Int) = some (yO ((l.drop i).all (bl S)))
 | f, i, hf => by
  rw [jK]
  by_cases hc : i < l.length
  ·obtain ⟨g, rfl⟩ : ∃ g, f = g + 1 := ⟨f - 1, by omega⟩
   rw [if_pos avh, bc hc, sb, h _ (asK hc), sb, bF avh, LG l h hl g (i + 1) avh, asE hc, asL, bl]
   by_cases h4 : l[i].ai = 48
   ·rw [if_pos h4, h4]
    cases S l[i] <;> rfl
   ·rw [if_neg h4, beq_eq_false_iff_ne.2 h4]; rfl
  ·rw [if_neg avh, asD avh]; rfl
theorem pr (l : List ae) (h : ∀ x ∈ l, bE x = some (S x)) (hl : l.length < 4611686018427387904) : dM l = some (l.all (bl S)) := by
 have := LG l h hl l.length 0 avh
 rw [show ((0 : Nat) : Int) = 0 from rfl, asJ] at this
 rw [dM, this, sb]
 cases l.all (bl S) <;> rfl
theorem LH (n : ae) (h : ∀ x ∈ n.ah, bE x = some (S x)) (hl : n.ah.length < 4611686018427387904) : ∀ f i : Nat, n.ah.length ≤ i + f → jJ n (i : Int) = some (Vd ((n.ah.drop i).all S))
 | f, i, hf => by
  rw [jJ]
  by_cases hc : i < n.ah.length
  ·obtain ⟨g, rfl⟩ : ∃ g, f = g + 1 := ⟨f - 1, by omega⟩
   rw [if_pos avh, bc hc, sb, h _ (asK hc), sb, bF avh, LH n h hl g (i + 1) avh, asE hc, asL]
   cases S n.ah[i] <;> rfl
  ·rw [if_neg avh, asD avh]; rfl
theorem LI (n : ae) (h : ∀ x ∈ n.ah, ∀ y ∈ x.ah, bh y = some (E y)) (mD : ∀ x ∈ n.ah, x.ah.length < 4611686018427387904) (hl : n.ah.length < 4611686018427387904) : ∀ f i : Nat, n.ah.length ≤ i + f → jI n (i : Int) = some (Vd ((n.ah.drop i).all (Ce E)))
 | f, i, hf => by
  rw [jI]
  by_cases hc : i < n.ah.length
  ·obtain ⟨g, rfl⟩ : ∃ g, f = g + 1 := ⟨f - 1, by omega⟩
   rw [if_pos avh, bc hc, sb, nC, sb, Ag _ (h _ (asK hc)) (mD _ (asK hc)), sb, bF avh, LI n h mD hl g (i + 1) avh, asE hc, asL]
   generalize n.ah[i] = x
   unfold Ce
   by_cases h1 : x.ai = 6
   ·by_cases h2 : x.aC = 0
    ·by_cases h3 : x.aj = ([] : aq)
     ·rw [if_pos h1, if_pos h2, if_pos h3, h1, h2, h3]
      cases decide (1 ≤ (x.ah.length : Int) ∧ (x.ah.length : Int) ≤ 2)
      ·rfl
      ·cases x.ah.all E <;> rfl
     ·rw [if_pos h1, if_pos h2, if_neg h3, beq_eq_false_iff_ne.2 h3, atC, atl, atl]; rfl
    ·rw [if_pos h1, if_neg h2, beq_eq_false_iff_ne.2 h2, atC, atl]; rfl
   ·rw [if_neg h1, beq_eq_false_iff_ne.2 h1]; rfl
  ·rw [if_neg avh, asD avh]; rfl
theorem Fk (a : Bool) (l : List ae) (hl : l.length < 4611686018427387904) : ∀ (f i : Nat) (b : Bool), l.length ≤ i + f → gu a l b (i : Int) = some (yO (vh a b (l.drop i)))
 | f, i, b, hf => by
  rw [gu]
  by_cases hc : i < l.length
  ·obtain ⟨g, rfl⟩ : ∃ g, f = g + 1 := ⟨f - 1, by omega⟩
   have IH := fun b' => Fk a l hl g (i + 1) b' avh
   rw [if_pos avh, bc hc, sb, asE hc]
   simp only [nC, sb, qD, bF (show i < 9223372036854775807 by omega), IH, vh]
   generalize l[i] = x
   have e0 : (if (x.ah.length : Int) > 0 then (some (.inr false) : Option (Unit ⊕ Bool)) else some (yO (vh a (b || x.ai == 25) (l.drop (i + 1))))) = some (yO ((x.ah.length : Int) == 0 && vh a (b || x.ai == 25) (l.drop (i + 1)))) := by
    by_cases h : (x.ah.length : Int) > 0
    ·rw [if_pos h, beq_eq_false_iff_ne.2 avh]; rfl
    ·rw [if_neg h, show (x.ah.length : Int) = 0 by omega]; rfl
   by_cases h1 : x.ai = 25
   ·rw [if_pos h1]
    cases a
    ·rw [h1]; rfl
    ·rw [h1] at e0
     simp only [Int.reduceBEq, atr, atI] at e0
     rw [h1, if_pos rfl, sb]
     cases decide (0 ≤ x.aC ∧ x.aC ≤ 1)
     ·rfl
     ·cases good x.aj
      ·rfl
      ·simpa using e0
   ·rw [if_neg h1]
    have h1' : (x.ai == 25) = false := beq_eq_false_iff_ne.2 h1
    rw [h1', atb] at e0
    rw [h1', atb, atC, atf]
    by_cases h2 : x.ai = 24
    ·rw [if_pos h2, h2]
     cases b
     ·cases decide (0 ≤ x.aC ∧ x.aC ≤ 1)
      ·rfl
      ·cases good x.aj
       ·rfl
       ·simpa using e0
     ·rfl
    ·rw [if_neg h2, beq_eq_false_iff_ne.2 h2]; rfl
  ·rw [if_neg avh, asD avh]; rfl
theorem P4 {l : List ae} {z : ae} : Ir (l ++ [z]) (l.length : Int) = some l := by
 unfold Ir
 rw [if_pos ⟨by omega, by simp; omega⟩, Int.toNat_natCast, List.take_left]
theorem Ah (a : Bool) (ks : List ae) (hl : ks.length < 4611686018427387904) (hS : ∀ x ∈ ks, bE x = some (S x)) : dY ks a = some (fU S a ks) := by
 rcases atP ks with rfl | ⟨l, z, rfl⟩
 ·rw [dY]; rfl
 ·rw [atQ] at hl hS ⊢
  have hl' : l.length < 4611686018427387904 := by simp at hl; omega
  have := Fk a l hl' l.length 0 false avh
  rw [show ((0 : Nat) : Int) = 0 from rfl, asJ] at this
  rw [dY, kx (x := (((l ++ [z]).length : Int)) - 1) (n := l.length) avj avh, if_neg avh, lf, sb, sb, hS z avj, sb, fU, auf, aug, P4, sb, this, sb]
  show _ = some (vh a false l && bl S z)
  rw [bl]
  by_cases h4 : z.ai = 48
  ·rw [if_pos h4, h4]
   cases S z <;> cases vh a false l <;> rfl
  ·rw [if_neg h4, beq_eq_false_iff_ne.2 h4]; simp
theorem var_eq (x : ae) (h : E x = fE E S x) : fq x = some (x.ai == 4 && E x) := by
 unfold fq
 simp only [qD, sb, akr, Af, beq_true]
 by_cases h4 : x.ai = 4
 ·rw [h, fE, h4]; rfl
 ·rw [beq_eq_false_iff_ne.2 h4]; rfl
mutual
def OW : ae → Bool | .mk k _ _ ks => if k = 7 ∧ ks ≠ [] then aqH ks else k == 4 || k == 8
def aqH : List ae → Bool | [] => false | x :: _ => OW x
end
theorem LJ : ∀ (k m : Int) (t : aq) (ks : List ae), ∃ a b c d, iw k m t ks = some (a, b, c, d) ∧ OW (.mk k m t ks) = (a == 4 || a == 8)
 | k, m, t, ks => by
  rw [iw, OW]
  by_cases h : k = 7
  ·match ks with
   | .mk k1 m1 t1 ks1 :: y => rw [if_pos h, if_pos avo, if_pos ⟨h, by simp⟩, aT, sb]; exact LJ k1 m1 t1 ks1
   | [] => rw [if_pos h, if_neg avj, if_neg (fun q => q.2 rfl)]; exact ⟨_, _, _, _, rfl, rfl⟩
  ·rw [if_neg h, if_neg (fun q => h q.1)]; exact ⟨_, _, _, _, rfl, rfl⟩
theorem LK (x : ae) : jx x = some (OW x) := by
 cases x with
 | mk k m t ks =>
  obtain ⟨a, b, c, d, h1, h2⟩ := LJ k m t ks
  unfold jx
  simp only [ae.nE, ae.oa, ae.lZ, ae.kD, h1, sb]
  rw [h2]
  by_cases h : a = 4
  ·rw [if_pos h, h]; rfl
  ·rw [if_neg h, beq_eq_false_iff_ne.2 h, atf]
theorem Fl : ∀ (N : Nat) (x : ae), sz x < N → (∀ y, sz y ≤ sz x → wt y ≤ wt x → E y = fE E S y) → E x = true → OW x = yP x
 | 0, x, h, _, _ => by omega
 | N + 1, .mk k m t ks, h, hE, he => by
  rw [OW, yP]
  by_cases h7 : k = 7
  ·subst h7
   have h1 := hE _ (asA _) (asA _)
   rw [he, fE] at h1
   have h2 : gE E S 7 ks = true := by
    have := h1.symm
    simp only [As] at this
    exact this.2.2
   match ks, h2 with
   | [a, b], h2 =>
    rw [if_pos ⟨rfl, by simp⟩, if_pos ⟨rfl, rfl⟩]
    have h3 : (E a && E b) = true := h2
    have ha : a ∈ (ae.mk 7 m t [a, b]).ah := by simp
    have hs := cJ ha
    have hw := eQ ha
    exact Fl N a avh (fun y q q2 => hE y avh avh) (Bool.and_eq_true_iff.1 h3).1
   | [], h2 => cases h2
   | [a], h2 => cases h2
   | a :: b :: c :: r, h2 => cases h2
  ·rw [if_neg (fun q => h7 q.1), if_neg (fun q => h7 q.1)]
end
set_option maxRecDepth 100000
section
variable {E S : ae → Bool}
theorem aaY (n : ae) (h : n.ai = 4) : fq n = some (n.aC == 0 && (good n.aj && (n.ah.length : Int) == 0)) := by
 unfold fq
 rw [if_pos h, qD, sb]
 by_cases h0 : n.aC = 0
 ·rw [if_pos h0, h0]; cases good n.aj <;> rfl
 ·rw [if_neg h0, beq_eq_false_iff_ne.2 h0]; rfl
theorem P5 (n : ae) (ht : n.aj.length < 4294967281) (hl : n.ah.length < 4611686018427387904) (mD : ∀ x ∈ n.ah, x.ah.length < 4611686018427387904)
  (HE : ∀ x ∈ n.ah, bh x = some (E x)) (GF : ∀ x ∈ n.ah, ∀ y ∈ x.ah, bh y = some (E y)) (HS : ∀ x ∈ n.ah, bE x = some (S x))
  (hv : ∀ x ∈ n.ah, E x = fE E S x) (Vo : ∀ x ∈ n.ah, E x = true → OW x = yP x) : bh n = some (fE E S n) := by
 have he := Ag n.ah HE hl
 have hp := LI n GF mD hl n.ah.length 0 avh
 rw [show ((0 : Nat) : Int) = 0 from rfl, asJ] at hp
 have hr := aaY n
 rw [bh, fE]
 generalize n.ah = ks at *
 generalize n.aj = t at *
 generalize n.aC = m at *
 generalize n.ai = k at *
 by_cases hk : 1 ≤ k ∧ k ≤ 23
 ·rcases (by omega : k = 1 ∨ k = 2 ∨ k = 3 ∨ k = 4 ∨ k = 5 ∨ k = 6 ∨ k = 7 ∨ k = 8 ∨ k = 9 ∨ k = 10 ∨ k = 11 ∨ k = 12 ∨ k = 13 ∨ k = 14 ∨ k = 15 ∨ k = 16 ∨ k = 17 ∨ k = 18 ∨ k = 19 ∨ k = 20 ∨ k = 21 ∨ k = 22 ∨ k = 23) with h | h | h | h | h | h | h | h | h | h | h | h | h | h | h | h | h | h | h | h | h | h | h <;> subst h
  all_goals
   simp only [gE, atc, atd, Int.reduceEq, Int.reduceBEq, if_true, if_false, atb, atr, atx, atf, asG, sb, he, LK, nC, qD, GD t ht, nest, Af, beq_true, ← ln1 (E := E), ← ln2 (E := E), ← ln3 (E := E), ← aks (E := E)]
  case inr.inr.inr.inl =>
   rw [hr rfl]; rfl
  case inr.inr.inr.inr.inl =>
   show _ = some (m == 0 && (t == ([] : aq) && ks.all (Ce E)))
   rw [hp, sb]
   cases ks.all (Ce E)
   ·show some false = _; simp
   ·by_cases h0 : m = 0
    ·rw [h0]; simp [Vd, sb]
    ·rw [beq_eq_false_iff_ne.2 h0]; simp [Vd, h0, sb]
  case inr.inr.inr.inr.inr.inl => simp
  case inr.inr.inr.inr.inr.inr.inr.inr.inl =>
   rw [ln1]
   by_cases h1 : m = 1
   ·rw [if_pos h1, h1]; rfl
   ·rw [if_neg h1, sb]
    by_cases h2 : m = 2
    ·rw [h2]; rfl
    ·rw [beq_eq_false_iff_ne.2 h2, show mC 9 m = false from decide_eq_false avh]; rfl
  case inr.inr.inr.inr.inr.inr.inr.inr.inr.inr.inr.inr.inr.inr.inl =>
   match ks, Vo with
   | [], _ => by_cases h0 : m = 0 <;> by_cases h1 : t = ([] : aq) <;> simp [h0, h1]
   | [a], _ => by_cases h0 : m = 0 <;> by_cases h1 : t = ([] : aq) <;> simp [h0, h1]
   | a :: b :: c :: r, _ => rw [if_neg (show ¬ (((a :: b :: c :: r : List ae).length : Int) = 2) by simp only [an]; omega)]; by_cases h0 : m = 0 <;> by_cases h1 : t = ([] : aq) <;> simp [h0, h1]
   | [a, b], Vo =>
    show _ = some (m == 0 && (t == ([] : aq) && (yP a && (E a && E b))))
    rw [aT, sb, if_pos (show (([a, b] : List ae).length : Int) = 2 from rfl), asL, asL, atk, ati]
    by_cases h0 : m = 0
    ·rw [if_pos h0, h0]
     by_cases h1 : t = ([] : aq)
     ·rw [if_pos h1, h1]
      cases hA : E a
      ·simp
      ·rw [Vo a avj hA]; cases E b <;> cases yP a <;> rfl
     ·rw [if_neg h1, beq_eq_false_iff_ne.2 h1]; rfl
    ·rw [if_neg h0, beq_eq_false_iff_ne.2 h0]; rfl
  case inr.inr.inr.inr.inr.inr.inr.inr.inr.inr.inr.inr.inr.inr.inr.inl =>
   match ks, Vo with
   | [], _ => by_cases h0 : m = 0 <;> by_cases h1 : t = ([] : aq) <;> simp [h0, h1]
   | [a], _ => by_cases h0 : m = 0 <;> by_cases h1 : t = ([] : aq) <;> simp [h0, h1]
   | a :: b :: c :: r, _ => rw [if_neg (show ¬ (((a :: b :: c :: r : List ae).length : Int) = 2) by simp only [an]; omega)]; by_cases h0 : m = 0 <;> by_cases h1 : t = ([] : aq) <;> simp [h0, h1]
   | [a, b], Vo =>
    show _ = some (m == 0 && (t == ([] : aq) && (yP a && (E a && E b))))
    rw [aT, sb, if_pos (show (([a, b] : List ae).length : Int) = 2 from rfl), asL, asL, atk, ati]
    by_cases h0 : m = 0
    ·rw [if_pos h0, h0]
     by_cases h1 : t = ([] : aq)
     ·rw [if_pos h1, h1]
      cases hA : E a
      ·simp
      ·rw [Vo a avj hA]; cases E b <;> cases yP a <;> rfl
     ·rw [if_neg h1, beq_eq_false_iff_ne.2 h1]; rfl
    ·rw [if_neg h0, beq_eq_false_iff_ne.2 h0]; rfl
  case inr.inr.inr.inr.inr.inr.inr.inr.inr.inr.inr.inr.inr.inr.inr.inr.inl =>
   match ks, hv with
   | [], _ => by_cases h0 : m = 0 <;> cases h1 : good t <;> simp [h0, h1, nT, Vc]
   | a :: b :: r, _ => rw [if_neg (show ¬ (((a :: b :: r : List ae).length : Int) = 1) by simp only [an]; omega)]; by_cases h0 : m = 0 <;> cases h1 : good t <;> simp [h0, h1]
   | [a], hv =>
    show _ = some (m == 0 && (good t && (a.ai == 4 && E a)))
    rw [aT, sb, var_eq a (hv a avj), sb, if_pos (show (([a] : List ae).length : Int) = 1 from rfl)]
    by_cases h0 : m = 0
    ·rw [if_pos h0, h0]; cases good t <;> rfl
    ·rw [if_neg h0, beq_eq_false_iff_ne.2 h0]; rfl
  case inr.inr.inr.inr.inr.inr.inr.inr.inr.inr.inr.inr.inr.inr.inr.inr.inr.inr.inr.inr.inr.inr =>
   rw [Ah true ks hl HS, sb]
   show _ = some (m == 0 && (t == ([] : aq) && fU S true ks))
   by_cases h0 : m = 0
   ·rw [if_pos h0, h0]
    by_cases h1 : t = ([] : aq)
    ·rw [if_pos h1, h1]; rfl
    ·rw [if_neg h1, beq_eq_false_iff_ne.2 h1]; rfl
   ·rw [if_neg h0, beq_eq_false_iff_ne.2 h0]; rfl
  case inr.inr.inr.inr.inr.inr.inr.inr.inr.inr.inr.inr.inr.inr.inr.inr.inr.inr.inr.inr.inr.inl =>
   show _ = some (m == 0 && ((good t || t == ([115, 116, 97, 116, 105, 99] : aq)) && ks.all E))
   by_cases h0 : m = 0
   ·rw [if_pos h0, h0]
    by_cases h1 : t = ([115, 116, 97, 116, 105, 99] : aq)
    ·rw [if_pos h1, h1]; simp [sb]
    ·rw [if_neg h1, beq_eq_false_iff_ne.2 h1, atb]; rfl
   ·rw [if_neg h0, beq_eq_false_iff_ne.2 h0]; rfl
  all_goals first | rfl | (rw [ln1]; rfl) | (rw [ln2]; rfl) | (rw [ln3]; rfl) | (rw [aks]; rfl)
 ·have h1 : ¬ k = 1 := by omega
  have h2 : ¬ k = 2 := by omega
  have h3 : ¬ k = 3 := by omega
  have h4 : ¬ k = 4 := by omega
  have h5 : ¬ k = 5 := by omega
  have h7 : ¬ k = 7 := by omega
  have h8 : ¬ k = 8 := by omega
  have h9 : ¬ k = 9 := by omega
  have Ae : ¬ k = 10 := by omega
  have GG : ¬ k = 11 := by omega
  have GH : ¬ k = 12 := by omega
  have GI : ¬ k = 13 := by omega
  have LB : ¬ k = 14 := by omega
  have LC : ¬ k = 15 := by omega
  have LD : ¬ k = 16 := by omega
  have P1 : ¬ k = 17 := by omega
  have h18 : ¬ k = 18 := by omega
  have h19 : ¬ k = 19 := by omega
  have h20 : ¬ k = 20 := by omega
  have h21 : ¬ k = 21 := by omega
  have h22 : ¬ k = 22 := by omega
  have h23 : ¬ k = 23 := by omega
  simp only [gE, atc, atd, if_true, if_false, atb, atr, atx, atf, atl, asG, sb, *, beq_eq_false_iff_ne.2 h1, beq_eq_false_iff_ne.2 h2, beq_eq_false_iff_ne.2 h3, beq_eq_false_iff_ne.2 h4, beq_eq_false_iff_ne.2 h7, beq_eq_false_iff_ne.2 h8, beq_eq_false_iff_ne.2 h9, beq_eq_false_iff_ne.2 Ae, beq_eq_false_iff_ne.2 GG, beq_eq_false_iff_ne.2 GH, beq_eq_false_iff_ne.2 GI, beq_eq_false_iff_ne.2 LC, beq_eq_false_iff_ne.2 LD, beq_eq_false_iff_ne.2 h18, beq_eq_false_iff_ne.2 h19, beq_eq_false_iff_ne.2 h20, beq_eq_false_iff_ne.2 h21, beq_eq_false_iff_ne.2 h22]
end
set_option maxRecDepth 100000
section
variable {E S : ae → Bool}
theorem lB {a : ae} {r : List ae} : j5 (a :: r) 1 = some r := by
 unfold j5
 rw [if_pos ⟨by omega, by simp only [an]; omega⟩]; rfl
theorem aqI {a : ae} {r : List ae} : Ir (a :: r) 1 = some [a] := by
 unfold Ir
 rw [if_pos ⟨by omega, by simp only [an]; omega⟩]; simp
theorem aqJ (x : ae) {β : Type} (Y N : Option β) (hv : ∀ y ∈ x.ah, E y = fE E S y) (HS : ∀ y ∈ x.ah, bE y = some (S y)) (h4 : x.ai = 44) :
  (if x.aC = 0 then aX x.aj >>= fun PA => (if PA = true then (if (x.ah.length : Int) = 2 then idx x.ah 0 >>= fun z6 => fq z6 >>= fun x5 => (if x5 = true then j5 x.ah 1 >>= fun Gs => dM Gs >>= fun PB => (if PB = true then Y else N) else N) else N) else N) else N) = bif cat E S x then Y else N := by
 rw [cat, h4, qD, sb]
 generalize x.aC = m
 by_cases h0 : m = 0
 ·rw [if_pos h0, h0]
  cases good x.aj
  ·rfl
  rw [if_pos rfl]
  match h : x.ah, hv, HS with
  | [], _, _ => rfl
  | [a], _, _ => rfl
  | a :: b :: c :: r, _, _ => rw [if_neg (show ¬ (((a :: b :: c :: r : List ae).length : Int) = 2) by simp only [an]; omega)]; rfl
  | [a, b], hv, HS =>
   rw [if_pos (by rfl), aT, sb, var_eq a (hv a avj), sb, lB, sb, pr [b] (fun y hy => HS y (by simp at hy ⊢; exact .inr hy)) avj, sb, asL, atk, ati]
   show _ = bif ((a.ai == 4) && (E a && bl S b)) then Y else N
   cases (a.ai == 4) <;> cases E a <;> cases bl S b <;> rfl
 ·rw [if_neg h0, beq_eq_false_iff_ne.2 h0]; rfl
theorem aqK (x : ae) (HS : ∀ y ∈ x.ah, bE y = some (S y)) (h4 : x.ai = 45) :
  (if x.aC = 0 then (if x.aj = ([] : aq) then (if (x.ah.length : Int) = 1 then dM x.ah >>= fun Gt => some Gt else some false) else some false) else some false) = some (fin S x) := by
 rw [fin, h4]
 generalize x.aC = m
 generalize x.aj = t
 by_cases h0 : m = 0
 ·rw [if_pos h0, h0]
  by_cases h1 : t = ([] : aq)
  ·rw [if_pos h1, h1]
   match h : x.ah, HS with
   | [], _ => rfl
   | a :: b :: r, _ => rw [if_neg (show ¬ (((a :: b :: r : List ae).length : Int) = 1) by simp only [an]; omega)]; rfl
   | [a], HS =>
    rw [if_pos (by rfl), pr [a] HS avj, sb, asL, atk, ati]; rfl
  ·rw [if_neg h1, beq_eq_false_iff_ne.2 h1]; rfl
 ·rw [if_neg h0, beq_eq_false_iff_ne.2 h0]; rfl
theorem aaZ (x : ae) (h : ¬ x.ai = 44) : cat E S x = false := by rw [cat, beq_eq_false_iff_ne.2 h]; rfl
theorem LL (x : ae) (h : ¬ x.ai = 45) : fin S x = false := by rw [fin, beq_eq_false_iff_ne.2 h]; rfl
def fR (S : ae → Bool) (l : List ae) : Bool := match l with | [] => true | [c] => fin S c | _ => false
def fT (E S : ae → Bool) (ks : List ae) : Bool := match ks with | [a, b] => bl S a && (cat E S b || fin S b) | [a, b, c] => bl S a && (cat E S b && fin S c) | _ => false
theorem aqL (ks : List ae) (HS : ∀ x ∈ ks, bE x = some (S x)) (mq : ∀ x ∈ ks, ∀ y ∈ x.ah, E y = fE E S y) (HS2 : ∀ x ∈ ks, ∀ y ∈ x.ah, bE y = some (S y)) :
  p9 ks = some (fT E S ks) := by
 rw [p9]
 rcases ks with _ | ⟨a, _ | ⟨b, r⟩⟩
 ·rfl
 ·rfl
 rw [if_neg (show ¬ (((a :: b :: r : List ae).length : Int) < 2) by simp only [an]; omega), aqI, sb, pr [a] (fun x hx => HS x (by simp at hx ⊢; exact .inl hx)) avj, sb, lB, sb, lB, asL, atk, ati, aT, sb, sb]
 have K : ∀ (l : List ae) (_ : l = r ∨ l = b :: r), (if (l.length : Int) = 0 then some true else idx l 0 >>= fun pf => (if (l.length : Int) = 1 then (if pf.ai = 45 then (if pf.aC = 0 then (if pf.aj = ([] : aq) then (if (pf.ah.length : Int) = 1 then dM pf.ah >>= fun Gt => some Gt else some false) else some false) else some false) else some false) else some false)) = some (fR S l) := by
  intro l hl
  rcases l with _ | ⟨c, _ | ⟨d, q⟩⟩
  ·rfl
  ·rw [if_neg (show ¬ ((([c] : List ae).length : Int) = 0) by simp), aT, sb, if_pos (show (([c] : List ae).length : Int) = 1 from rfl)]
   by_cases h5 : c.ai = 45
   ·rw [if_pos h5, aqK c (HS2 c (by rcases hl with h | h <;> simp [← h])) h5]; rfl
   ·rw [if_neg h5]; show _ = some (fin S c); rw [LL c h5]
  ·rw [if_neg (show ¬ (((c :: d :: q : List ae).length : Int) = 0) by simp only [an]; omega), aT, sb, if_neg (show ¬ (((c :: d :: q : List ae).length : Int) = 1) by simp only [an]; omega)]; rfl
 by_cases h4 : b.ai = 44
 ·rw [if_pos h4, aqJ (E := E) (S := S) b (some (Sum.inl r : List ae ⊕ Bool)) (some (Sum.inr false)) (mq b avj) (HS2 b avj) h4]
  have hf : fin S b = false := LL b avh
  cases hb : bl S a
  ·rcases r with _ | ⟨c, _ | ⟨d, q⟩⟩ <;> simp [fT, hb]
  ·rw [if_pos rfl]
   cases hc : cat E S b
   ·show some false = _
    rcases r with _ | ⟨c, _ | ⟨d, q⟩⟩ <;> simp [fT, hb, hc, hf]
   ·show (if (r.length : Int) = 0 then _ else _) = _
    rw [K r (.inl rfl)]
    rcases r with _ | ⟨c, _ | ⟨d, q⟩⟩ <;> simp [fT, fR, hb, hc, hf]
 ·rw [if_neg h4, sb]
  have hf : cat E S b = false := aaZ b h4
  cases hb : bl S a
  ·rcases r with _ | ⟨c, _ | ⟨d, q⟩⟩ <;> simp [fT, hb]
  ·rw [if_pos rfl]
   show (if ((b :: r).length : Int) = 0 then _ else _) = _
   rw [K (b :: r) (.inr rfl)]
   rcases r with _ | ⟨c, _ | ⟨d, q⟩⟩ <;> simp [fT, fR, hb, hf]
end
set_option maxRecDepth 100000
section
variable {E S : ae → Bool}
theorem P6 (n : ae) (ht : n.aj.length < 4294967281) (hl : n.ah.length < 4611686018427387904)
  (HE : ∀ x ∈ n.ah, bh x = some (E x)) (HS : ∀ x ∈ n.ah, bE x = some (S x)) (HS2 : ∀ x ∈ n.ah, ∀ y ∈ x.ah, bE y = some (S y))
  (hv : ∀ x ∈ n.ah, E x = fE E S x) (mq : ∀ x ∈ n.ah, ∀ y ∈ x.ah, E y = fE E S y) (Vo : ∀ x ∈ n.ah, E x = true → OW x = yP x) : bE n = some (fS E S n) := by
 have he := Ag n.ah HE hl
 have hp := LH n HS hl n.ah.length 0 avh
 rw [show ((0 : Nat) : Int) = 0 from rfl, asJ] at hp
 have hT := aqL n.ah HS mq HS2
 rw [bE, fS]
 generalize n.ah = ks at *
 generalize n.aj = t at *
 generalize n.aC = m at *
 generalize n.ai = k at *
 by_cases hk : 31 ≤ k ∧ k ≤ 48
 ·have e0 : mC k m = (m == 0) := by
   unfold mC
   rw [if_neg avh, if_neg avh, if_neg avh, if_neg avh, if_neg avh, if_neg avh]
  rw [e0]
  by_cases h0 : m = 0
  rotate_left
  ·rw [if_neg h0, beq_eq_false_iff_ne.2 h0]; rfl
  rw [if_pos h0, h0]
  show _ = some (nT k t && gS E S k ks)
  rcases (by omega : k = 31 ∨ k = 32 ∨ k = 33 ∨ k = 34 ∨ k = 35 ∨ k = 36 ∨ k = 37 ∨ k = 38 ∨ k = 39 ∨ k = 40 ∨ k = 41 ∨ k = 42 ∨ k = 43 ∨ k = 44 ∨ k = 45 ∨ k = 46 ∨ k = 47 ∨ k = 48) with h | h | h | h | h | h | h | h | h | h | h | h | h | h | h | h | h | h <;> subst h
  all_goals
   simp only [gS, atc, atd, Int.reduceEq, Int.reduceBEq, if_true, if_false, atb, atr, atx, atf, asG, sb, he, nC, qD, contains_eq t ht, nest, Af, beq_true]
  case inl =>
   show _ = some (t31 t && (ks.length : Int) == 0)
   unfold t31
   by_cases h1 : t = ([] : aq)
   ·rw [if_pos h1, h1]; rfl
   ·rw [if_neg h1, beq_eq_false_iff_ne.2 h1]
    cases decide (0 ≤ Lib.index t [60, 63]) <;> rfl
  case inr.inr.inr.inl =>
   show _ = some (t == ([] : aq) && _)
   by_cases h1 : t = ([] : aq)
   rotate_left
   ·rw [if_neg h1, beq_eq_false_iff_ne.2 h1]; rfl
   rw [if_pos h1, h1]
   rcases ks with _ | ⟨a, _ | ⟨b, _ | ⟨c, _ | ⟨d, r⟩⟩⟩⟩
   ·rfl
   ·rfl
   ·rw [aT, sb, HE a avj, sb, lB, sb, pr [b] (fun x hx => HS x avJ) avj, sb, asL, atk, ati]
    dsimp only
    cases E a <;> cases bl S b <;> rfl
   ·rw [aT, sb, HE a avj, sb, lB, sb, pr [b, c] (fun x hx => HS x avJ) avj, sb, asL, asL, atk, ati]
    dsimp only
    cases E a <;> cases bl S b <;> cases bl S c <;> rfl
   ·rw [decide_eq_false avo]; rfl
  case inr.inr.inr.inr.inl =>
   show _ = some (t == ([] : aq) && _)
   by_cases h1 : t = ([] : aq)
   rotate_left
   ·rw [if_neg h1, beq_eq_false_iff_ne.2 h1]; rfl
   rw [if_pos h1, h1]
   rcases ks with _ | ⟨a, _ | ⟨b, _ | ⟨c, r⟩⟩⟩
   ·rfl
   ·rfl
   ·rw [aT, sb, HE a avj, sb, lB, sb, pr [b] (fun x hx => HS x avJ) avj, sb, asL, atk, ati]
    dsimp only
    cases E a <;> cases bl S b <;> rfl
   ·rw [if_neg (show ¬ (((a :: b :: c :: r : List ae).length : Int) = 2) by simp only [an]; omega)]; rfl
  case inr.inr.inr.inr.inr.inl =>
   show _ = some (t == ([] : aq) && _)
   by_cases h1 : t = ([] : aq)
   rotate_left
   ·rw [if_neg h1, beq_eq_false_iff_ne.2 h1]; rfl
   rw [if_pos h1, h1]
   rcases ks with _ | ⟨a, _ | ⟨b, _ | ⟨c, _ | ⟨d, _ | ⟨e, r⟩⟩⟩⟩⟩
   ·rfl
   ·rfl
   ·rfl
   ·rw [aT, eY, sb, sb, HE a avj, sb, var_eq b (hv b avj), sb, if_pos (show (([a, b, c] : List ae).length : Int) = 3 from rfl), show aS ((([a, b, c] : List ae).length : Int) - 1) = 2 from rfl, show j5 [a, b, c] 2 = some [c] from rfl, sb, pr [c] (fun x hx => HS x (by simp at hx ⊢; exact .inr (.inr hx))) avj, sb, asL, atk, ati]
    dsimp only
    cases (b.ai == 4) <;> cases E a <;> cases E b <;> cases bl S c <;> rfl
   ·rw [aT, eY, lH, sb, sb, sb, HE a avj, sb, var_eq b (hv b avj), sb, if_neg (show ¬ (([a, b, c, d] : List ae).length : Int) = 3 by simp), var_eq c (hv c avj), sb, show aS ((([a, b, c, d] : List ae).length : Int) - 1) = 3 from rfl, show j5 [a, b, c, d] 3 = some [d] from rfl, sb, pr [d] (fun x hx => HS x (by simp at hx ⊢; exact .inr (.inr (.inr hx)))) avj, sb, asL, atk, ati]
    dsimp only
    cases (b.ai == 4) <;> cases (c.ai == 4) <;> cases E a <;> cases E b <;> cases E c <;> cases bl S d <;> rfl
   ·rw [decide_eq_false avo]; rfl
  case inr.inr.inr.inr.inr.inr.inr.inr.inl => rw [akt]; rfl
  case inr.inr.inr.inr.inr.inr.inr.inr.inr.inr.inl =>
   show _ = some (t == ([] : aq) && _)
   by_cases h1 : t = ([] : aq)
   rotate_left
   ·rw [if_neg h1, beq_eq_false_iff_ne.2 h1]; rfl
   rw [if_pos h1, h1]
   rcases ks with _ | ⟨a, _ | ⟨b, r⟩⟩
   ·rfl
   ·rw [if_pos (show (([a] : List ae).length : Int) = 1 from rfl), aT, sb, nY, LK, sb, HE a avj, sb]
    show _ = some (yP a && E a)
    cases hA : E a
    ·cases OW a <;> simp [sb]
    ·rw [Vo a avj hA]; cases yP a <;> rfl
   ·rw [if_neg (show ¬ (((a :: b :: r : List ae).length : Int) = 1) by simp only [an]; omega)]; rfl
  case inr.inr.inr.inr.inr.inr.inr.inr.inr.inr.inr.inr.inl =>
   rw [hT, sb]
   by_cases h1 : t = ([] : aq)
   ·rw [if_pos h1, h1]; rfl
   ·rw [if_neg h1, show nT 43 t = false from beq_eq_false_iff_ne.2 h1]; rfl
  case inr.inr.inr.inr.inr.inr.inr.inr.inr.inr.inr.inr.inr.inr.inr.inl =>
   show _ = some (t == ([] : aq) && _)
   by_cases h1 : t = ([] : aq)
   rotate_left
   ·rw [if_neg h1, beq_eq_false_iff_ne.2 h1]; rfl
   rw [if_pos h1, h1]
   rcases ks with _ | ⟨a, _ | ⟨b, _ | ⟨c, r⟩⟩⟩
   ·rfl
   ·rw [show aS ((([a] : List ae).length : Int) - 1) = 0 from rfl, aT, sb, sb, HE a avj]; rfl
   ·rw [show aS ((([a, b] : List ae).length : Int) - 1) = 1 from rfl, aT, eY, sb, sb, HE b avj, var_eq a (hv a avj), sb, sb]
    dsimp only
    cases (a.ai == 4) <;> cases E a <;> cases E b <;> rfl
   ·rw [if_neg (show ¬ (((a :: b :: c :: r : List ae).length : Int) = 1) by simp only [an]; omega), if_neg (show ¬ (((a :: b :: c :: r : List ae).length : Int) = 2) by simp only [an]; omega)]; rfl
  case inr.inr.inr.inr.inr.inr.inr.inr.inr.inr.inr.inr.inr.inr.inr.inr.inr =>
   rw [hp, sb]
   show _ = some (t == ([] : aq) && _)
   cases ks.all S
   ·cases (t == ([] : aq)) <;> rfl
   ·cases (t == ([] : aq)) <;> rfl
  all_goals first
   | rfl
   | (
    show _ = some (t == ([] : aq) && _)
    by_cases h1 : t = ([] : aq)
    ·rw [if_pos h1, h1]
     rcases ks with _ | ⟨a, _ | ⟨b, r⟩⟩
     ·rfl
     ·rw [if_pos (show (([a] : List ae).length : Int) = 1 from rfl), aT, sb, HE a avj]; rfl
     ·rw [if_neg (show ¬ (((a :: b :: r : List ae).length : Int) = 1) by simp only [an]; omega)]; rfl
    ·rw [if_neg h1, beq_eq_false_iff_ne.2 h1]; rfl)
   | (simp; done)
 ·have Vf : ¬ k = 31 := by omega
  have Vg : ¬ k = 32 := by omega
  have Vh : ¬ k = 33 := by omega
  have h34 : ¬ k = 34 := by omega
  have h35 : ¬ k = 35 := by omega
  have h36 : ¬ k = 36 := by omega
  have Vi : ¬ k = 37 := by omega
  have Vj : ¬ k = 38 := by omega
  have h39 : ¬ k = 39 := by omega
  have Vk : ¬ k = 40 := by omega
  have h41 : ¬ k = 41 := by omega
  have Vl : ¬ k = 42 := by omega
  have h43 : ¬ k = 43 := by omega
  have h46 : ¬ k = 46 := by omega
  have Vm : ¬ k = 47 := by omega
  have LF : ¬ k = 48 := by omega
  simp only [gS, atc, atd, if_true, if_false, atb, atr, atx, atf, atl, asG, sb, beq_eq_false_iff_ne.2 Vf, beq_eq_false_iff_ne.2 Vg, beq_eq_false_iff_ne.2 Vh, beq_eq_false_iff_ne.2 Vi, beq_eq_false_iff_ne.2 Vj, beq_eq_false_iff_ne.2 Vk, beq_eq_false_iff_ne.2 Vl, beq_eq_false_iff_ne.2 Vm, Vf, Vg, Vh, h34, h35, h36, Vi, Vj, h39, Vk, h41, Vl, h43, h46, Vm, LF, ite_self]
end
set_option maxRecDepth 100000
theorem vtg {x : ae} (h : wt x ≤ 1048576) (he : vE x = true) : OW x = yP x := Fl (S := vS) _ x (ate _) (fun y _ hw => yR avh) he
theorem Fm : ∀ (N : Nat) (n : ae), sz n < N → wt n ≤ 1048576 → bh n = some (vE n) ∧ bE n = some (vS n)
 | 0, n, h, _ => by omega
 | N + 1, n, h, hw => by
  have hk : ∀ x ∈ n.ah, _ := fun x hx => Fm N x avv avG
  have nU : ∀ x ∈ n.ah, ∀ y ∈ x.ah, _ := fun x hx y hy => Fm N y avt avw
  have bd : ∀ x : ae, wt x ≤ 1048576 → x.aj.length < 4294967281 ∧ x.ah.length < 4611686018427387904 := fun x hx => by have := yQ x; omega
  have w1 : ∀ x ∈ n.ah, wt x ≤ 1048576 := fun x hx => by have := eQ hx; omega
  have w2 : ∀ x ∈ n.ah, ∀ y ∈ x.ah, wt y ≤ 1048576 := fun x hx y hy => by have := eQ hx; have := eQ hy; omega
  rw [yR hw, Fi hw]
  exact ⟨P5 n (bd n hw).1 (bd n hw).2 (fun x hx => (bd x (w1 x hx)).2) (fun x hx => (hk x hx).1) (fun x hx y hy => (nU x hx y hy).1) (fun x hx => (hk x hx).2) (fun x hx => yR (w1 x hx)) (fun x hx => vtg (w1 x hx)),
   P6 n (bd n hw).1 (bd n hw).2 (fun x hx => (hk x hx).1) (fun x hx => (hk x hx).2) (fun x hx y hy => (nU x hx y hy).2) (fun x hx => yR (w1 x hx)) (fun x hx y hy => yR (w2 x hx y hy)) (fun x hx => vtg (w1 x hx))⟩
theorem iE {n : ae} (h : wt n ≤ 1048576) : bh n = some (vE n) := (Fm _ n (ate _) h).1
theorem iS {n : ae} (h : wt n ≤ 1048576) : bE n = some (vS n) := (Fm _ n (ate _) h).2
theorem rl {n : ae} (h : wt n ≤ 1048576) : n.aj.length ≤ 1048576 ∧ n.ah.length ≤ 1048576 := by have := yQ n; omega
theorem wk {n : ae} (h : wt n ≤ 1048576) : ∀ x ∈ n.ah, wt x ≤ 1048576 := fun x hx => by have := eQ hx; omega
theorem LM {n : ae} (h : wt n ≤ 1048576) : sz n < 4611686018427387904 := by have := Vn n; omega
def OZ (ks : List ae) : Bool := match ks with | [y] => decide (1 ≤ y.ai ∧ y.ai ≤ 3) && vE y | _ => false
def sG (c : Bool) : Bool → Bool → List ae → Bool
 | _, _, [] => true
 | f, p, x :: r => bif x.ai == 52 then (f && (c && (x.aC == 0 && (good x.aj && (x.ah.length : Int) == 0)))) && sG c false false r
  else bif x.ai == 53 then (!p && (x.aC == 0 && (good x.aj && (x.ah.length : Int) == 0))) && sG c false false r
  else bif x.ai == 54 then (decide (0 ≤ x.aC ∧ x.aC ≤ 1) && (good x.aj && OZ x.ah)) && sG c false true r
  else (x.ai == 55 && (decide (0 ≤ x.aC ∧ x.aC ≤ 3) && (good x.aj && fU vS false x.ah))) && sG c false true r
theorem s54 (ks : List ae) (hw : ∀ x ∈ ks, wt x ≤ 1048576) (v11 v12 : Bool) (y5 : Nat) (Z : Option (Unit ⊕ Bool)) (K : Int × Bool → Option (Unit ⊕ Bool)) :
  ((if (ks.length : Int) = 1 then idx ks 0 >>= fun qq => tA qq.ai 1 3 >>= fun Ph => (if Ph = true then idx ks 0 >>= fun qO => aQ qO >>= fun v32 => some (2, v32) else some (2, false)) else some (2, false)) >>= K) = K (2, OZ ks) := by
 rcases ks with _ | ⟨a, _ | ⟨b, r⟩⟩
 ·rfl
 ·rw [if_pos (show (([a] : List ae).length : Int) = 1 from rfl), aT, sb, mB, sb, sb, spE (hw a avj), OZ]
  cases decide (1 ≤ a.ai ∧ a.ai ≤ 3) <;> rfl
 ·rw [if_neg (show ¬ (((a :: b :: r : List ae).length : Int) = 1) by simp only [an]; omega)]; rfl
theorem i54 (ks : List ae) (hw : ∀ x ∈ ks, wt x ≤ 1048576) {β : Type} (Y N : Option β) :
  (if (ks.length : Int) = 1 then idx ks 0 >>= fun x54 => BU x54.ai 1 3 >>= fun v56 => (if v56 = true then idx ks 0 >>= fun Gn => bh Gn >>= fun v61 => (if v61 = true then Y else N) else N) else N) = bif OZ ks then Y else N := by
 rcases ks with _ | ⟨a, _ | ⟨b, r⟩⟩
 ·rfl
 ·rw [if_pos (show (([a] : List ae).length : Int) = 1 from rfl), aT, sb, nC, sb, sb, iE (hw a avj), OZ]
  cases decide (1 ≤ a.ai ∧ a.ai ≤ 3) <;> cases vE a <;> rfl
 ·rw [if_neg (show ¬ (((a :: b :: r : List ae).length : Int) = 1) by simp only [an]; omega)]; rfl
theorem aa0 (n : ae) (hw : wt n ≤ 1048576) : ∀ (f i : Nat) (y : Int), n.ah.length ≤ i + f → (y = 0 ↔ i = 0) → 0 ≤ y → eM n y (i : Int) = some (Vd (sG (!(n.ai == 51)) (decide (i = 0)) (decide (1 < y)) (n.ah.drop i)))
 | f, i, y, hf, hy, hy0 => by
  have hl := (rl hw).2
  rw [eM]
  by_cases hc : i < n.ah.length
  ·obtain ⟨g, rfl⟩ : ∃ g, f = g + 1 := ⟨f - 1, by omega⟩
   have hx := wk hw _ (asK hc)
   have I1 := aa0 n hw g (i + 1) 1 avh avh avh
   have I2 := aa0 n hw g (i + 1) 2 avh avh avh
   rw [if_pos avh, bc hc, sb, qD, sb, bF avh, I1, I2, asE hc, sG]
   generalize n.ah[i] = x at hx
   rw [i54 _ (wk hx), nC, sb, Ah (S := vS) false x.ah (by have := (rl hx).2; omega) (fun z hz => iS (wk hx z hz)), sb]
   rw [show decide (i + 1 = 0) = false from decide_eq_false avh, show decide ((1 : Int) < 1) = false from rfl, show decide ((1 : Int) < 2) = true from rfl]
   have e0 : ∀ (b : Bool), (if (x.ah.length : Int) > 0 then (some (.inr (.inr false)) : Option (Unit ⊕ (Unit ⊕ Bool))) else some (Vd b)) = some (Vd ((x.ah.length : Int) == 0 && b)) := by
    intro b
    by_cases h : (x.ah.length : Int) > 0
    ·rw [if_pos h, beq_eq_false_iff_ne.2 avh]; rfl
    ·rw [if_neg h, show (x.ah.length : Int) = 0 by omega]; rfl
   rw [e0]
   generalize sG (!(n.ai == 51)) false false (n.ah.drop (i + 1)) = R1
   generalize sG (!(n.ai == 51)) false true (n.ah.drop (i + 1)) = R2
   generalize fU vS false x.ah = U
   generalize OZ x.ah = M
   generalize ((x.ah.length : Int) == 0) = L
   generalize x.aC = m
   generalize x.ai = k
   cases good x.aj
   ·simp; rfl
   rw [if_pos rfl]
   by_cases h1 : k = 52
   ·rw [if_pos h1, h1]
    by_cases h2 : n.ai = 51
    ·rw [if_pos h2, h2]; simp; rfl
    ·rw [if_neg h2, beq_eq_false_iff_ne.2 h2]
     by_cases h3 : y > 0
     ·rw [if_pos h3, decide_eq_false (show ¬ i = 0 by omega)]; rfl
     ·rw [if_neg h3, decide_eq_true (show i = 0 by omega)]
      by_cases h4 : m = 0
      ·rw [if_pos h4, h4]; rfl
      ·rw [if_neg h4, beq_eq_false_iff_ne.2 h4]; rfl
   ·rw [if_neg h1, beq_eq_false_iff_ne.2 h1]
    by_cases h5 : k = 53
    ·rw [if_pos h5, h5]
     by_cases h3 : y > 1
     ·rw [if_pos h3, decide_eq_true (show 1 < y by omega)]; rfl
     ·rw [if_neg h3, decide_eq_false (show ¬ 1 < y by omega)]
      by_cases h4 : m = 0
      ·rw [if_pos h4, h4]; rfl
      ·rw [if_neg h4, beq_eq_false_iff_ne.2 h4]; rfl
    ·rw [if_neg h5, beq_eq_false_iff_ne.2 h5]
     by_cases h6 : k = 54
     ·rw [if_pos h6, h6]
      by_cases h4 : m = 0
      ·rw [if_pos h4, h4]; cases M <;> rfl
      ·rw [if_neg h4]
       by_cases h7 : m = 1
       ·rw [if_pos h7, h7]; cases M <;> rfl
       ·rw [if_neg h7, decide_eq_false (show ¬ (0 ≤ m ∧ m ≤ 1) by omega)]; rfl
     ·rw [if_neg h6, beq_eq_false_iff_ne.2 h6]
      by_cases h7 : k = 55
      ·rw [if_pos h7, h7]
       cases decide (0 ≤ m ∧ m ≤ 3) <;> cases U <;> rfl
      ·rw [if_neg h7, beq_eq_false_iff_ne.2 h7]; rfl
  ·rw [if_neg avh, asD avh]
   cases decide (i = 0) <;> cases decide (1 < y) <;> rfl
set_option maxRecDepth 100000
theorem P7 (n : ae) (hw : wt n ≤ 1048576) : ∀ (f i : Nat) (y : Int), n.ah.length ≤ i + f → (i = 0 → y = 0) → 0 ≤ y → y ≤ 2 → il n y (i : Int) = some (yO (sG (n.ai == 50) (decide (i = 0)) (decide (1 < y)) (n.ah.drop i)))
 | f, i, y, hf, hy, hy0, hy2 => by
  have hl := (rl hw).2
  rw [il]
  by_cases hc : i < n.ah.length
  ·obtain ⟨g, rfl⟩ : ∃ g, f = g + 1 := ⟨f - 1, by omega⟩
   have hx := wk hw _ (asK hc)
   have I0 := P7 n hw g (i + 1) 0 avh avh avh avh
   have I1 := P7 n hw g (i + 1) 1 avh avh avh avh
   have I2 := P7 n hw g (i + 1) 2 avh avh avh avh
   rw [show decide (i + 1 = 0) = false from decide_eq_false avh] at I0 I1 I2
   rw [show decide ((1 : Int) < 0) = false from rfl] at I0
   rw [show decide ((1 : Int) < 1) = false from rfl] at I1
   rw [show decide ((1 : Int) < 2) = true from rfl] at I2
   rw [if_pos avh, bc hc, sb, tR _ (by have := (rl hx).1; omega), sb, bF avh, asE hc, sG]
   generalize n.ah[i] = x at hx
   have h54 : ∀ K : Int × Bool → Option (Unit ⊕ Bool), ((if (x.ah.length : Int) = 1 then idx x.ah 0 >>= fun qq => tA qq.ai 1 3 >>= fun Ph => (if Ph = true then idx x.ah 0 >>= fun qO => aQ qO >>= fun v32 => some (2, v32) else some (2, false)) else some (2, false)) >>= K) = K (2, OZ x.ah) := s54 x.ah (wk hx) true true 0 none
   rw [Ad (S := vS) false x.ah (by have := (rl hx).2; omega) (fun z hz => sB (wk hx z hz)), sb]
   generalize sG (n.ai == 50) false false (n.ah.drop (i + 1)) = R1 at *
   generalize sG (n.ai == 50) false true (n.ah.drop (i + 1)) = R2 at *
   by_cases h1 : x.ai = 52
   ·rw [if_pos h1, h1]
    show _ = some (yO ((decide (i = 0) && (n.ai == 50 && (x.aC == 0 && (good x.aj && (x.ah.length : Int) == 0)))) && R1))
    rw [show mC 52 x.aC = (x.aC == 0) from rfl, show nT 52 x.aj = good x.aj from rfl]
    by_cases h2 : i = 0
    ·rw [if_pos avh, decide_eq_true h2]
     have hy' := hy h2
     subst hy'
     by_cases h3 : n.ai = 50
     ·rw [if_pos h3, h3]
      show (if (x.aC == 0) = true then _ else _) = _
      cases (x.aC == 0) <;> cases good x.aj <;> cases ((x.ah.length : Int) == 0) <;> first | rfl | (rw [if_pos rfl, if_pos rfl, if_pos rfl, if_neg avn, I0]; rfl)
     ·rw [if_neg h3, beq_eq_false_iff_ne.2 h3]
      show (if (x.aC == 0) = true then _ else _) = _
      cases (x.aC == 0) <;> cases good x.aj <;> rfl
    ·rw [if_neg avh, decide_eq_false h2]
     show (if (x.aC == 0) = true then _ else _) = _
     cases (x.aC == 0) <;> cases good x.aj <;> rfl
   rw [if_neg h1, beq_eq_false_iff_ne.2 h1]
   by_cases h5 : x.ai = 53
   ·rw [if_pos h5, h5]
    show (if (x.aC == 0) = true then _ else _) = some (yO ((!decide (1 < y) && (x.aC == 0 && (good x.aj && (x.ah.length : Int) == 0))) && R1))
    rw [show nT 53 x.aj = good x.aj from rfl]
    try dsimp only
    rw [I1]
    by_cases h3 : 1 < y
    ·rw [if_pos h3, decide_eq_true h3]
     cases (x.aC == 0) <;> cases good x.aj <;> cases ((x.ah.length : Int) == 0) <;> rfl
    ·rw [if_neg h3, decide_eq_false h3]
     cases (x.aC == 0) <;> cases good x.aj <;> cases ((x.ah.length : Int) == 0) <;> rfl
   rw [if_neg h5, beq_eq_false_iff_ne.2 h5]
   by_cases h6 : x.ai = 54
   ·rw [if_pos h6, h6]
    show ((if (x.ah.length : Int) = 1 then _ else _) >>= _) = _
    rw [h54]
    show (if mC 54 x.aC = true then _ else _) = some (yO ((mC 54 x.aC && (good x.aj && OZ x.ah)) && R2))
    rw [show nT 54 x.aj = good x.aj from rfl]
    try dsimp only
    rw [I2, if_neg (show ¬ (2 : Int) < y by omega)]
    cases mC 54 x.aC <;> cases good x.aj <;> cases OZ x.ah <;> rfl
   rw [if_neg h6, beq_eq_false_iff_ne.2 h6]
   by_cases h7 : x.ai = 55
   ·rw [if_pos h7, h7]
    show (if mC 55 x.aC = true then _ else _) = some (yO ((mC 55 x.aC && (good x.aj && fU vS false x.ah)) && R2))
    rw [show nT 55 x.aj = good x.aj from rfl]
    try dsimp only
    rw [I2, if_neg (show ¬ (2 : Int) < y by omega)]
    cases mC 55 x.aC <;> cases good x.aj <;> cases fU vS false x.ah <;> rfl
   ·rw [if_neg h7, beq_eq_false_iff_ne.2 h7]
    show (if mC x.ai x.aC = true then _ else _) = _
    cases mC x.ai x.aC <;> cases nT x.ai x.aj <;> rfl
  ·rw [if_neg avh, asD avh]
   cases decide (i = 0) <;> cases decide (1 < y) <;> rfl
def vT (n : ae) : Bool := n.aC == 0 && (good n.aj && (bif n.ai == 49 then fU vS false n.ah else (n.ai == 50 || n.ai == 51) && sG (n.ai == 50) true false n.ah))
theorem aqM (n : ae) (hw : wt n ≤ 1048576) : nu n = some (vT n) := by
 unfold nu vT
 have h0 := aa0 n hw n.ah.length 0 0 avh avh avh
 rw [show ((0 : Nat) : Int) = 0 from rfl, asJ, show decide ((0 : Nat) = 0) = true from rfl, show decide ((1 : Int) < 0) = false from rfl] at h0
 rw [qD, sb, h0, Ah (S := vS) false n.ah (by have := (rl hw).2; omega) (fun z hz => iS (wk hw z hz)), sb, sb]
 by_cases h1 : n.aC = 0
 ·rw [if_pos h1, h1]
  cases good n.aj
  ·rfl
  rw [if_pos rfl]
  by_cases h9 : n.ai = 49
  ·rw [if_pos h9, h9, sb]; rfl
  ·rw [if_neg h9, beq_eq_false_iff_ne.2 h9]
   by_cases h5 : n.ai = 50
   ·rw [if_pos h5, h5, show (!((50 : Int) == 51)) = true from rfl, show ((50 : Int) == 50) = true from rfl]
    cases sG true true false n.ah <;> rfl
   ·rw [if_neg h5, beq_eq_false_iff_ne.2 h5]
    by_cases h6 : n.ai = 51
    ·rw [h6, show (!((51 : Int) == 51)) = false from rfl]
     cases sG false true false n.ah <;> rfl
    ·rw [beq_eq_false_iff_ne.2 h6]; rfl
 ·rw [if_neg h1, beq_eq_false_iff_ne.2 h1]; rfl
set_option maxRecDepth 100000
def vP (x : ae) : Bool := vT x || vS x
theorem LN {x : ae} (hw : wt x ≤ 1048576) (h : 49 ≤ x.ai) : vS x = false := by
 rw [Fi hw, fS]
 have Vf : ¬ x.ai = 31 := by omega
 have Vg : ¬ x.ai = 32 := by omega
 have Vh : ¬ x.ai = 33 := by omega
 have h34 : ¬ x.ai = 34 := by omega
 have h35 : ¬ x.ai = 35 := by omega
 have h36 : ¬ x.ai = 36 := by omega
 have Vi : ¬ x.ai = 37 := by omega
 have Vj : ¬ x.ai = 38 := by omega
 have h39 : ¬ x.ai = 39 := by omega
 have Vk : ¬ x.ai = 40 := by omega
 have h41 : ¬ x.ai = 41 := by omega
 have Vl : ¬ x.ai = 42 := by omega
 have h43 : ¬ x.ai = 43 := by omega
 have h46 : ¬ x.ai = 46 := by omega
 have Vm : ¬ x.ai = 47 := by omega
 have LF : ¬ x.ai = 48 := by omega
 simp only [gS, atc, atd, if_false, atb, atl, asG, beq_eq_false_iff_ne.2 Vf, beq_eq_false_iff_ne.2 Vg, beq_eq_false_iff_ne.2 Vh, beq_eq_false_iff_ne.2 Vi, beq_eq_false_iff_ne.2 Vj, beq_eq_false_iff_ne.2 Vk, beq_eq_false_iff_ne.2 Vl, beq_eq_false_iff_ne.2 Vm, h34, h35, h36, h39, h41, h43, h46, LF]
theorem aku (n : ae) (hw : wt n ≤ 1048576) : ∀ (f i : Nat), n.ah.length ≤ i + f → gm n (i : Int) = some (yO ((n.ah.drop i).all vP))
 | f, i, hf => by
  rw [gm]
  by_cases hc : i < n.ah.length
  ·obtain ⟨g, rfl⟩ : ∃ g, f = g + 1 := ⟨f - 1, by omega⟩
   have hl := (rl hw).2
   have hx := wk hw _ (asK hc)
   rw [if_pos avh, bc hc, sb, aqM _ hx, sb, iS hx, sb, bF avh, aku n hw g (i + 1) avh, asE hc, asL, vP]
   cases vT n.ah[i] <;> cases vS n.ah[i] <;> rfl
  ·rw [if_neg avh, asD avh]; rfl
theorem scl (n : ae) (hw : wt n ≤ 1048576) : jv n = some (sG (n.ai == 50) true false n.ah) := by
 have h0 := P7 n hw n.ah.length 0 0 avh avh avh avh
 rw [show ((0 : Nat) : Int) = 0 from rfl, asJ, show decide ((0 : Nat) = 0) = true from rfl, show decide ((1 : Int) < 0) = false from rfl] at h0
 unfold jv
 rw [h0, sb]
 cases sG (n.ai == 50) true false n.ah <;> rfl
theorem akv (n : ae) (hw : wt n ≤ 1048576) : ∀ (f i : Nat), n.ah.length ≤ i + f → dw n (i : Int) = some (yO ((n.ah.drop i).all vP))
 | f, i, hf => by
  rw [dw]
  by_cases hc : i < n.ah.length
  ·obtain ⟨g, rfl⟩ : ∃ g, f = g + 1 := ⟨f - 1, by omega⟩
   have hl := (rl hw).2
   have hx := wk hw _ (asK hc)
   rw [if_pos avh, bc hc, sb, tR _ (by have := (rl hx).1; omega), sb, bF avh, asE hc, asL, vP]
   generalize n.ah[i] = x at hx
   rw [spS hx]
   show (if x.ai = 49 then _ else _) = _
   rw [scl x hx, Ad (S := vS) false x.ah (by have := (rl hx).2; omega) (fun z hz => sB (wk hx z hz)), sb, sb, akv n hw g (i + 1) avh]
   generalize (n.ah.drop (i + 1)).all vP = R
   by_cases h1 : x.ai = 49
   ·rw [if_pos h1, h1, LN hx avh, vT, h1, show mC 49 x.aC = (x.aC == 0) from rfl, show nT 49 x.aj = good x.aj from rfl, show ((49 : Int) == 49) = true from rfl]
    show _ = some (yO (((x.aC == 0 && (good x.aj && fU vS false x.ah)) || false) && R))
    cases (x.aC == 0) <;> cases good x.aj <;> cases fU vS false x.ah <;> rfl
   ·rw [if_neg h1]
    by_cases h2 : x.ai = 50
    ·rw [if_pos h2, h2, LN hx avh, vT, h2, show mC 50 x.aC = (x.aC == 0) from rfl, show nT 50 x.aj = good x.aj from rfl]
     show _ = some (yO (((x.aC == 0 && (good x.aj && sG true true false x.ah)) || false) && R))
     rw [show ((50 : Int) == 50) = true from rfl]
     cases (x.aC == 0) <;> cases good x.aj <;> cases sG true true false x.ah <;> rfl
    ·rw [if_neg h2]
     by_cases h3 : x.ai = 51
     ·rw [if_pos h3, h3, LN hx avh, vT, h3, show mC 51 x.aC = (x.aC == 0) from rfl, show nT 51 x.aj = good x.aj from rfl]
      show _ = some (yO (((x.aC == 0 && (good x.aj && sG false true false x.ah)) || false) && R))
      rw [show ((51 : Int) == 50) = false from rfl]
      cases (x.aC == 0) <;> cases good x.aj <;> cases sG false true false x.ah <;> rfl
     ·rw [if_neg h3, vT, beq_eq_false_iff_ne.2 h1, beq_eq_false_iff_ne.2 h2, beq_eq_false_iff_ne.2 h3]
      cases (x.aC == 0) <;> cases good x.aj <;> cases vS x <;> rfl
  ·rw [if_neg avh, asD avh]; rfl
def vZ (n : ae) : Bool := n.ai == 56 && (n.aC == 0 && (n.aj == ([] : aq) && (decide (sz n ≤ 600 ∧ dp n ≤ 30) && n.ah.all vP)))
theorem Cf (n : ae) (hw : wt n ≤ 1048576) : kq n = some (vZ n) ∧ kl n = some (vZ n) := by
 obtain ⟨h1, h2⟩ := Lv n (LM hw)
 have e1 := aku n hw n.ah.length 0 avh
 have e2 := akv n hw n.ah.length 0 avh
 rw [show ((0 : Nat) : Int) = 0 from rfl, asJ] at e1 e2
 unfold kq kl vZ
 rw [h1, h2, sb, sb, e1, e2, sb]
 generalize n.ah.all vP = R
 generalize decide (sz n ≤ 600 ∧ dp n ≤ 30) = D
 generalize n.ai = k
 generalize n.aC = m
 generalize n.aj = t
 by_cases h3 : k = 56
 ·by_cases h4 : m = 0
  ·by_cases h5 : t = ([] : aq)
   ·rw [if_pos h3, if_pos h3, if_pos h4, if_pos h4, if_pos h5, if_pos h5, h3, h4, h5]
    cases D <;> cases R <;> exact ⟨rfl, rfl⟩
   ·rw [if_pos h3, if_pos h3, if_pos h4, if_pos h4, if_neg h5, if_neg h5, h3, h4, beq_eq_false_iff_ne.2 h5]
    cases D <;> exact ⟨rfl, rfl⟩
  ·rw [if_pos h3, if_pos h3, if_neg h4, if_neg h4, h3, beq_eq_false_iff_ne.2 h4]
   cases D <;> exact ⟨rfl, rfl⟩
 ·rw [if_neg h3, if_neg h3, beq_eq_false_iff_ne.2 h3]
  cases D <;> exact ⟨rfl, rfl⟩
set_option maxRecDepth 100000
theorem Fo {n : ae} (hw : wt n ≤ 1048576) (h : vE n = true) : mC n.ai n.aC = true ∧ nT n.ai n.aj = true ∧ gE vE vS n.ai n.ah = true := by
 rw [yR hw, fE, As, As] at h
 exact h
theorem Fp {n : ae} (hw : wt n ≤ 1048576) (h : vS n = true) : mC n.ai n.aC = true ∧ nT n.ai n.aj = true ∧ gS vE vS n.ai n.ah = true := by
 rw [Fi hw, fS, As, As] at h
 exact h
inductive IE : Int → Int → aq → List ae → Prop
 | num (m : Int) (t : aq) (h0 : 0 ≤ m) (h1 : m ≤ 1000000000) : IE 1 m t []
 | txt (m : Int) (t : aq) (h0 : t.length ≤ 400) : IE 2 m t []
 | cst (m : Int) (t : aq) (h0 : 0 ≤ m) (h1 : m ≤ 2) : IE 3 m t []
 | var (m : Int) (t : aq) : IE 4 m t []
 | arr (m : Int) (t : aq) (ks : List ae) (h : ks.all (Ce vE) = true) : IE 5 m t ks
 | ix (m : Int) (t : aq) (a b : ae) (ha : vE a = true) (hb : vE b = true) : IE 7 m t [a, b]
 | fld (m : Int) (t : aq) (a : ae) (ha : vE a = true) : IE 8 m t [a]
 | un (m : Int) (t : aq) (a : ae) (h0 : 1 ≤ m) (h1 : m ≤ 2) (ha : vE a = true) : IE 9 m t [a]
 | bin (m : Int) (t : aq) (a b : ae) (h0 : 1 ≤ m) (h1 : m ≤ 15) (ha : vE a = true) (hb : vE b = true) : IE 10 m t [a, b]
 | and (m : Int) (t : aq) (a b : ae) (ha : vE a = true) (hb : vE b = true) : IE 11 m t [a, b]
 | or (m : Int) (t : aq) (a b : ae) (ha : vE a = true) (hb : vE b = true) : IE 12 m t [a, b]
 | akw (m : Int) (t : aq) (a b : ae) (ha : vE a = true) (hb : vE b = true) : IE 13 m t [a, b]
 | cond (m : Int) (t : aq) (a b c : ae) (ha : vE a = true) (hb : vE b = true) (hc : vE c = true) : IE 14 m t [a, b, c]
 | asg (m : Int) (t : aq) (a b : ae) (ha : vE a = true) (hb : vE b = true) : IE 15 m t [a, b]
 | app (m : Int) (t : aq) (a b : ae) (ha : vE a = true) (hb : vE b = true) : IE 16 m t [a, b]
 | ref (m : Int) (t : aq) (a : ae) : IE 17 m t [a]
 | call (m : Int) (t : aq) (ks : List ae) (h : ks.all vE = true) : IE 18 m t ks
 | stat (m : Int) (t : aq) (ks : List ae) (h : ks.all vE = true) : IE 21 m t ks
 | new (m : Int) (t : aq) (ks : List ae) (h : ks.all vE = true) : IE 22 m t ks
 | dyn (m : Int) (t : aq) (a : ae) (r : List ae) (ha : vE a = true) (h : r.all vE = true) : IE 19 m t (a :: r)
 | met (m : Int) (t : aq) (a : ae) (r : List ae) (ha : vE a = true) (h : r.all vE = true) : IE 20 m t (a :: r)
 | lv (m : Int) (t : aq) (l : List ae) (z : ae) (hu : vh true false l = true) (hk : z.ai = 48) (hz : vS z = true) : IE 23 m t (l ++ [z])
theorem aa1 {x : ae} (h : bl vS x = true) : x.ai = 48 ∧ vS x = true := by
 rw [bl, As, beq_iff_eq] at h; exact h
theorem DM {a : Bool} {ks : List ae} (h : fU vS a ks = true) : ∃ l z, ks = l ++ [z] ∧ vh a false l = true ∧ z.ai = 48 ∧ vS z = true := by
 rcases atP ks with rfl | ⟨l, z, rfl⟩
 ·cases h
 ·rw [atQ] at h ⊢
  rw [fU, auf, aug] at h
  have h' : (vh a false l && bl vS z) = true := h
  rw [As] at h'
  exact ⟨l, z, rfl, h'.1, aa1 h'.2⟩
theorem LO {n : ae} (hw : wt n ≤ 1048576) (h : vE n = true) : IE n.ai n.aC n.aj n.ah := by
 obtain ⟨h1, h2, h3⟩ := Fo hw h
 generalize n.ai = k at *
 generalize n.aC = m at *
 generalize n.aj = t at *
 generalize n.ah = ks at *
 by_cases hk : 1 ≤ k ∧ k ≤ 23
 ·rcases (by omega : k = 1 ∨ k = 2 ∨ k = 3 ∨ k = 4 ∨ k = 5 ∨ k = 6 ∨ k = 7 ∨ k = 8 ∨ k = 9 ∨ k = 10 ∨ k = 11 ∨ k = 12 ∨ k = 13 ∨ k = 14 ∨ k = 15 ∨ k = 16 ∨ k = 17 ∨ k = 18 ∨ k = 19 ∨ k = 20 ∨ k = 21 ∨ k = 22 ∨ k = 23) with h | h | h | h | h | h | h | h | h | h | h | h | h | h | h | h | h | h | h | h | h | h | h <;> subst h <;>
   simp only [gE, mC, nT, Vc, atc, atd, Int.reduceEq, Int.reduceBEq, if_true, if_false, atb, atr, atx, atf, asG, or_false, or_true, true_or, false_or] at h1 h2 h3
  all_goals first
   | exact .arr _ _ _ h3
   | exact .call _ _ _ h3
   | exact .stat _ _ _ h3
   | exact .new _ _ _ h3
   | (obtain ⟨l, z, rfl, e1, e2, e3⟩ := DM h3; exact .lv _ _ l z e1 e2 e3)
   | cases h3; done
   | (
    rcases ks with _ | ⟨a, _ | ⟨b, _ | ⟨c, _ | ⟨d, r⟩⟩⟩⟩ <;> first
     | (cases h3; done)
     | (
      simp at h1 h2 h3
      first
       | exact .num _ _ h1.1 h1.2
       | exact .txt _ _ avh
       | exact .cst _ _ h1.1 h1.2
       | exact .var _ _
       | exact .ix _ _ _ _ h3.1 h3.2
       | exact .fld _ _ _ h3
       | exact .un _ _ _ h1.1 h1.2 h3
       | exact .bin _ _ _ _ h1.1 h1.2 h3.1 h3.2
       | exact .and _ _ _ _ h3.1 h3.2
       | exact .or _ _ _ _ h3.1 h3.2
       | exact .akw _ _ _ _ h3.1 h3.2
       | exact .cond _ _ _ _ _ h3.1 h3.2.1 h3.2.2
       | exact .asg _ _ _ _ h3.2.1 h3.2.2
       | exact .app _ _ _ _ h3.2.1 h3.2.2
       | exact .ref _ _ _
       | exact .dyn _ _ _ _ h3 rfl
       | exact .met _ _ _ _ h3 rfl
       | exact .dyn _ _ _ _ h3.1 (by simpa using h3.2)
       | exact .met _ _ _ _ h3.1 (by simpa using h3.2)))
 ·exfalso
  have h1 : ¬ k = 1 := by omega
  have h2 : ¬ k = 2 := by omega
  have h3 : ¬ k = 3 := by omega
  have h4 : ¬ k = 4 := by omega
  have h5 : ¬ k = 5 := by omega
  have h7 : ¬ k = 7 := by omega
  have h8 : ¬ k = 8 := by omega
  have h9 : ¬ k = 9 := by omega
  have Ae : ¬ k = 10 := by omega
  have GG : ¬ k = 11 := by omega
  have GH : ¬ k = 12 := by omega
  have GI : ¬ k = 13 := by omega
  have LB : ¬ k = 14 := by omega
  have LC : ¬ k = 15 := by omega
  have LD : ¬ k = 16 := by omega
  have P1 : ¬ k = 17 := by omega
  have h18 : ¬ k = 18 := by omega
  have h19 : ¬ k = 19 := by omega
  have h20 : ¬ k = 20 := by omega
  have h21 : ¬ k = 21 := by omega
  have h22 : ¬ k = 22 := by omega
  have h23 : ¬ k = 23 := by omega
  rename gE vE vS k ks = true => hg
  simp only [gE, atc, atd, if_false, atb, asG, beq_eq_false_iff_ne.2 h1, beq_eq_false_iff_ne.2 h2, beq_eq_false_iff_ne.2 h3, beq_eq_false_iff_ne.2 h4, beq_eq_false_iff_ne.2 h7, beq_eq_false_iff_ne.2 h8, beq_eq_false_iff_ne.2 h9, beq_eq_false_iff_ne.2 Ae, beq_eq_false_iff_ne.2 GG, beq_eq_false_iff_ne.2 GH, beq_eq_false_iff_ne.2 GI, beq_eq_false_iff_ne.2 LC, beq_eq_false_iff_ne.2 LD, beq_eq_false_iff_ne.2 h18, beq_eq_false_iff_ne.2 h19, beq_eq_false_iff_ne.2 h20, beq_eq_false_iff_ne.2 h21, beq_eq_false_iff_ne.2 h22, h5, LB, P1, h23] at hg
set_option maxRecDepth 100000
inductive IS : Int → Int → aq → List ae → Prop
 | htm (m : Int) (t : aq) : IS 31 m t []
 | P8 (m : Int) (t : aq) (a : ae) (ha : vE a = true) : IS 32 m t [a]
 | expr (m : Int) (t : aq) (a : ae) (ha : vE a = true) : IS 33 m t [a]
 | thr (m : Int) (t : aq) (a : ae) (ha : vE a = true) : IS 42 m t [a]
 | brk (m : Int) (t : aq) : IS 37 m t []
 | cont (m : Int) (t : aq) : IS 38 m t []
 | LP (m : Int) (t : aq) : IS 39 m t []
 | P9 (m : Int) (t : aq) (a : ae) (ha : vE a = true) : IS 39 m t [a]
 | glb (m : Int) (t : aq) : IS 40 m t []
 | uns (m : Int) (t : aq) (a : ae) (ha : vE a = true) : IS 41 m t [a]
 | if2 (m : Int) (t : aq) (a b : ae) (ha : vE a = true) (hb : vS b = true) (kb : b.ai = 48) : IS 34 m t [a, b]
 | if3 (m : Int) (t : aq) (a b c : ae) (ha : vE a = true) (hb : vS b = true) (kb : b.ai = 48) (hc : vS c = true) (kc : c.ai = 48) : IS 34 m t [a, b, c]
 | whl (m : Int) (t : aq) (a b : ae) (ha : vE a = true) (hb : vS b = true) (kb : b.ai = 48) : IS 35 m t [a, b]
 | fe3 (m : Int) (t : aq) (a b c : ae) (ha : vE a = true) (hc : vS c = true) (kc : c.ai = 48) : IS 36 m t [a, b, c]
 | fe4 (m : Int) (t : aq) (a b c d : ae) (ha : vE a = true) (hd : vS d = true) (kd : d.ai = 48) : IS 36 m t [a, b, c, d]
 | yl1 (m : Int) (t : aq) (a : ae) (ha : vE a = true) : IS 46 m t [a]
 | yl2 (m : Int) (t : aq) (a b : ae) (ha : vE a = true) (hb : vE b = true) : IS 46 m t [a, b]
 | inc (m : Int) (t : aq) (h0 : t.length ≤ 400) : IS 47 m t []
 | wG (m : Int) (t : aq) (ks : List ae) (h : ks.all vS = true) : IS 48 m t ks
 | DN (m : Int) (t : aq) (a b : ae) (ha : vS a = true) (ka : a.ai = 48) (hb : cat vE vS b = true) : IS 43 m t [a, b]
 | DO (m : Int) (t : aq) (a b : ae) (ha : vS a = true) (ka : a.ai = 48) (hb : fin vS b = true) : IS 43 m t [a, b]
 | Cg (m : Int) (t : aq) (a b c : ae) (ha : vS a = true) (ka : a.ai = 48) (hb : cat vE vS b = true) (hc : fin vS c = true) : IS 43 m t [a, b, c]
 | cat (m : Int) (t : aq) (a b : ae) (ha : vE a = true) (ka : a.ai = 4) (hb : vS b = true) (kb : b.ai = 48) : IS 44 m t [a, b]
 | fin (m : Int) (t : aq) (a : ae) (ha : vS a = true) (ka : a.ai = 48) : IS 45 m t [a]
theorem LQ {n : ae} (hw : wt n ≤ 1048576) (h : vS n = true) : IS n.ai n.aC n.aj n.ah := by
 obtain ⟨h1, h2, h3⟩ := Fp hw h
 have hk : 31 ≤ n.ai ∧ n.ai ≤ 48 := by
  refine Classical.byContradiction fun hk => ?_
  generalize n.ai = k at *
  have Vf : ¬ k = 31 := by omega
  have Vg : ¬ k = 32 := by omega
  have Vh : ¬ k = 33 := by omega
  have h34 : ¬ k = 34 := by omega
  have h35 : ¬ k = 35 := by omega
  have h36 : ¬ k = 36 := by omega
  have Vi : ¬ k = 37 := by omega
  have Vj : ¬ k = 38 := by omega
  have h39 : ¬ k = 39 := by omega
  have Vk : ¬ k = 40 := by omega
  have h41 : ¬ k = 41 := by omega
  have Vl : ¬ k = 42 := by omega
  have h43 : ¬ k = 43 := by omega
  have h46 : ¬ k = 46 := by omega
  have Vm : ¬ k = 47 := by omega
  have LF : ¬ k = 48 := by omega
  simp only [gS, atc, atd, if_false, atb, asG, beq_eq_false_iff_ne.2 Vf, beq_eq_false_iff_ne.2 Vg, beq_eq_false_iff_ne.2 Vh, beq_eq_false_iff_ne.2 Vi, beq_eq_false_iff_ne.2 Vj, beq_eq_false_iff_ne.2 Vk, beq_eq_false_iff_ne.2 Vl, beq_eq_false_iff_ne.2 Vm, h34, h35, h36, h39, h41, h43, h46, LF] at h3
 generalize n.ai = k at *
 generalize n.aC = m at *
 generalize n.aj = t at *
 generalize n.ah = ks at *
 rcases (by omega : k = 31 ∨ k = 32 ∨ k = 33 ∨ k = 34 ∨ k = 35 ∨ k = 36 ∨ k = 37 ∨ k = 38 ∨ k = 39 ∨ k = 40 ∨ k = 41 ∨ k = 42 ∨ k = 43 ∨ k = 44 ∨ k = 45 ∨ k = 46 ∨ k = 47 ∨ k = 48) with h | h | h | h | h | h | h | h | h | h | h | h | h | h | h | h | h | h <;> subst h <;>
  simp only [gS, mC, nT, Vc, atc, atd, Int.reduceEq, Int.reduceBEq, if_true, if_false, atb, atr, atx, atf, asG, or_false, or_true, true_or, false_or] at h1 h2 h3
 all_goals first
  | exact .wG _ _ _ h3
  | cases h3; done
  | (
   rcases ks with _ | ⟨a, _ | ⟨b, _ | ⟨c, _ | ⟨d, _ | ⟨e, r⟩⟩⟩⟩⟩ <;> first
    | (cases h3; done)
    | (
     simp [bl] at h1 h2 h3
     first
      | exact .htm _ _
      | exact .brk _ _
      | exact .cont _ _
      | exact .LP _ _
      | exact .glb _ _
      | exact .inc _ _ avh
      | exact .P8 _ _ _ h3
      | exact .expr _ _ _ h3
      | exact .thr _ _ _ h3
      | exact .P9 _ _ _ h3
      | exact .uns _ _ _ h3.2
      | exact .yl1 _ _ _ h3
      | exact .if2 _ _ _ _ h3.1 h3.2.2 h3.2.1
      | exact .whl _ _ _ _ h3.1 h3.2.2 h3.2.1
      | exact .if3 _ _ _ _ _ h3.1 h3.2.1.2 h3.2.1.1 h3.2.2.2 h3.2.2.1
      | exact .fe3 _ _ _ _ _ h3.1 h3.2.2.2.2 h3.2.2.2.1
      | exact .fe4 _ _ _ _ _ _ h3.1 h3.2.2.2.2.2.2 h3.2.2.2.2.2.1
      | exact .yl2 _ _ _ _ h3.1 h3.2.1
      | (
       rcases h3.2 with h4 | h4
       ·exact .DN _ _ _ _ h3.1.2 h3.1.1 h4
       ·exact .DO _ _ _ _ h3.1.2 h3.1.1 h4)
      | exact .Cg _ _ _ _ _ h3.1.2 h3.1.1 h3.2.1 h3.2.2))
theorem Qa {n : ae} (h : cat vE vS n = true) : IS n.ai n.aC n.aj n.ah := by
 unfold cat at h
 generalize n.ai = k at *
 generalize n.aC = m at *
 generalize n.aj = t at *
 generalize n.ah = ks at *
 rcases ks with _ | ⟨a, _ | ⟨b, _ | ⟨c, r⟩⟩⟩ <;> simp [bl] at h
 obtain ⟨h1, _, _, h2, h3, h4, h5⟩ := h
 subst h1
 exact .cat _ _ _ _ h3 h2 h5 h4
theorem Qb {n : ae} (h : fin vS n = true) : IS n.ai n.aC n.aj n.ah := by
 unfold fin at h
 generalize n.ai = k at *
 generalize n.aC = m at *
 generalize n.aj = t at *
 generalize n.ah = ks at *
 rcases ks with _ | ⟨a, _ | ⟨b, r⟩⟩ <;> simp [bl] at h
 obtain ⟨h1, _, _, h4, h5⟩ := h
 subst h1
 exact .fin _ _ _ h5 h4
def vQ (x : ae) : Bool := vS x || (cat vE vS x || fin vS x)
theorem aa2 {n : ae} (hw : wt n ≤ 1048576) (h : vQ n = true) : IS n.ai n.aC n.aj n.ah := by
 rw [vQ, atg, atg] at h
 rcases h with h | h | h
 ·exact LQ hw h
 ·exact Qa h
 ·exact Qb h
theorem jD {x : ae} (h : vS x = true) : vQ x = true := by rw [vQ, h]; rfl
theorem LR {x : ae} (h : cat vE vS x = true) : vQ x = true := by rw [vQ, h]; simp
theorem LS {x : ae} (h : fin vS x = true) : vQ x = true := by rw [vQ, h]; simp
end Go.Am
