/- Texts of the proof, joined and shortened. -/
import Derived.Test.YtiigfbapjeefbaaGreatDoorPk7
import Derived.DataReads
import Derived.ChangeArms
import Derived.Lib.AtoiTie
import Derived.Lib.IndexMore
set_option linter.unusedVariables false
set_option linter.unusedSimpArgs false
set_option maxRecDepth 100000
namespace Go.Am
open Go Go.RowKit Go.Proofs
def fQ (a0 : ae) : Option (Bool) :=
 jF a0 1048576 >>= fun v1 =>
 (if v1 < 0 then
 some true
 else
 gM a0 >>= fun v4 =>
 jo v4 >>= fun v6 =>
 gM a0 >>= fun v8 =>
 jv v8 >>= fun v10 =>
 (if v10 = v6 then
 gM a0 >>= fun oD =>
 jG v8 oD >>= fun wG =>
 (if wG = true then
 some true
 else
 some false)
 else
 some false))
theorem oc {a0 : ae} {r : Bool} (h : fQ a0 = some r) : ACall Tryz.prog 4 [.agg a0.lit] [] (fun res h => res = .bool r ∧ h = []) := by
 refine gd Tryz.func4 ?_
 unfold fQ at h
 refine .d (.d (.d ⟨rfl, _, rfl, (bk h fun v1 lx h => (aS (AW lx) (.d (.d (sD h (fun ow h => ?_) (fun ow h => ?_))))))⟩))
 exact atd
 refine .d ⟨rfl, _, rfl, (bk h fun v4 tV h => (aS (oL tV) (bk h fun v6 hv7 h => (aS (uY hv7) (.d ⟨rfl, _, rfl, (bk h fun v8 hv9 h => (aS (oL hv9) ⟨rfl, _, fun _ => [.int .i64 v8.ai, .int .i64 v8.aD, .str v8.aj, sl 4 ae.cells v8.ah], rfl, bX rfl, (.d ⟨rfl, _, rfl, (bk h fun v10 IP h => (aS (u7 IP) ?_))⟩)⟩))⟩)))))⟩
 refine .d (.d (VN h (fun oa h => ?_) (fun oa h => ?_)))
 exact atd
 refine .d (.d (.float [(0, true), (1, true), (2, false), (3, false), (4, true)] atD ?_))
 refine ⟨rfl, _, rfl, ⟨rfl, _, rfl, (bk h fun oD qf h => (aS (oL qf) ⟨rfl, (bk h fun wG B6 h => (aS (AX B6) (l8 h (fun ri h => ?_) (fun ri h => ?_))))⟩))⟩⟩
 exact atd
 exact atd
set_option maxRecDepth 20000
def kK (S : Nat → Prop) (w : World) (pvs : List PV) (cs : List Value) : Prop := cs.length = pvs.length ∧ ∀ (j : Nat) (pv : PV), pvs[j]? = some pv → ∃ u, cs[j]? = some u ∧ aE S w pv u
theorem aiE {α : Type} {l : List α} (h : l.length = 4) : ∃ a0 a1 a2 a3, l = [a0, a1, a2, a3] := by
 rcases l with _ | ⟨a0, _ | ⟨a1, _ | ⟨a2, _ | ⟨a3, _ | ⟨b, l⟩⟩⟩⟩⟩ <;> simp at h
 exact ⟨a0, a1, a2, a3, rfl⟩
section
variable {P : Program} {H : Type} {enc : TypeId × Value → H} {w : World} {spare : Nat → Bool} {held : Bool} {S : Nat → Prop}
theorem Oh {α : Type} (cells : α → List PV) (good : α → Prop) (J0 : α) {ts te : TypeId} {sz : Nat} (hu : P.underlying ts = some (.slice te)) (hc : P.cellsOf te = sz) (w3 : 0 < sz) (hlen : ∀ a, (cells a).length = sz)
  (hS : ∀ b, b < w.heap.size → S b) {fuel : Nat} (Y5 : ∀ n, n < fuel → ∀ (cs : List Value) (x : DataW H × List MemPlace), DataW.trod enc P w 0 spare held n te cs = some x → ∃ a, good a ∧ kK S w (cells a) cs)
  {e : Value} {x : DataW H × List MemPlace} (h : DataW.trod enc P w 0 spare held fuel ts [e] = some x) :
  ∃ (n : Nat) (f : Nat → α), n ≤ 9223372036854775807 ∧ (∀ i, i < n → good (f i)) ∧ aE S w (.eu sz n (fun i => cells (f i))) e := by
 rcases DataW.trod_slice hu h with ⟨e4, _⟩ | ⟨ad, len, cap, elems, rest, n', hn', e4, _, hb, Oi, dT, hel, bP, _⟩
 ·simp at e4
  subst e4
  exact ⟨0, fun _ => J0, by omega, fun i hi => absurd hi (arK _), .lV _ _ _ _⟩
 ·simp at e4
  subst e4
  rw [hc] at bP
  have each : ∀ i, ∃ a : α, i < len → good a ∧ ∃ sJ, w.cells? 0 (ad.add (i * sz)) sz = some sJ ∧ kK S w (cells a) sJ := fun i => by
   by_cases hi : i < len
   ·have hg := bP i hi
    rw [Of att] at hg
    obtain ⟨sJ, q1, q2⟩ := Option.bind_eq_some_iff.1 hg
    obtain ⟨a, g1, g2⟩ := Y5 n' att _ _ q2
    exact ⟨a, fun _ => ⟨g1, sJ, q1, g2⟩⟩
   ·exact ⟨J0, fun h => absurd h hi⟩
  obtain ⟨kv, Nq⟩ := Classical.axiomOfChoice each
  rcases arP len with h00 | hposl
  ·subst h00
   exact ⟨0, fun _ => J0, by omega, fun i hi => absurd hi (arK _), .lV _ _ _ _⟩
  ·refine ⟨len, kv, by simp [maxLen] at dT; omega, fun i hi => (Nq i hi).1, ?_⟩
   obtain ⟨bl, off, spot⟩ := ad
   have aI : ∀ i, i < len → ∀ j pv, (cells (kv i))[j]? = some pv → ∃ u, w.cell? ((Addr.add ⟨bl, off, spot⟩ (i * sz)).add j) = some u ∧ aE S w pv u := fun i hi j pv hj => by
    obtain ⟨_, sJ, q1, q2, q3⟩ := Nq i hi
    obtain ⟨u, hu, hr⟩ := q3 j pv hj
    obtain ⟨_, _, r3⟩ := World.cells?_some q1
    have hj8 : j < sz := by have := (At.1 hj).1; rw [hlen] at this; exact this
    exact ⟨u, by rw [r3 j hj8, hu], hr⟩
   have h0 : ∃ pv, (cells (kv 0))[0]? = some pv := ⟨_, Of (by rw [hlen]; exact w3)⟩
   obtain ⟨pv0, aoM⟩ := h0
   obtain ⟨u0, hu0, _⟩ := aI 0 hposl 0 _ aoM
   have aiF : spot = none := by
    have := World.cell?_spot hu0
    simpa [Addr.add] using this
   subst aiF
   have kr : bl < w.heap.size := by
    have := World.block_lt_of_cell? _ _ hu0
    simpa [Addr.add_lit] using this
   refine .eu sz len _ bl off cap (fun i j => (w.cell? ⟨bl, off + i * sz + j, none⟩).getD undef) (hS _ kr) (fun i hi => hlen _) Oi (fun i j pv hi hj => ?_) (fun i j pv hi hj => ?_)
   ·obtain ⟨u, hu, _⟩ := aI i hi j pv hj
    rw [Addr.add_lit, Addr.add_lit] at hu
    rw [hu]; rfl
   ·obtain ⟨u, hu, hr⟩ := aI i hi j pv hj
    rw [Addr.add_lit, Addr.add_lit] at hu
    rw [hu]; exact hr
end
theorem aoN {H : Type} {enc : TypeId × Value → H} {w : World} {spare : Nat → Bool} {held : Bool} {α : Type} (cells : α → List PV) (good : α → Prop) {P : Program} {t : TypeId}
  (aoO : ∀ (fuel : Nat) (cs : List Value) (x : DataW H × List MemPlace), DataW.trod enc P w 0 spare held fuel t cs = some x → ∃ a, good a ∧ kK (fun b => b < w.heap.size) w (cells a) cs)
  {cs : Array Value} {d : DataW H} {p : List MemPlace} (h : DataW.Trod enc P w 0 spare held t (.agg cs) d p) : ∃ a, good a ∧ gn (fun _ => none) [] (fun b => b < w.heap.size) w (.agg (cells a)) (.agg cs) := by
 obtain ⟨fuel, hf⟩ := h
 obtain ⟨a, ha, hl, hc⟩ := aoO fuel _ _ hf
 refine ⟨a, ha, cs, rfl, by have h' : cs.toList.length = _ := hl; simpa using h', fun j pv hj => ?_⟩
 obtain ⟨u, hu, hr⟩ := hc j pv hj
 exact ⟨u, by have h' : cs.toList[j]? = some u := hu; simpa using h', bm.jd hr⟩
theorem Cx {S : Nat → Prop} {w : World} {sz n : Nat} {f g : Nat → List PV} {v : Value} (h : aE S w (.eu sz n f) v) (e : ∀ i, i < n → f i = g i) : aE S w (.eu sz n g) v := by
 cases h with
 | lV => exact .lV _ _ _ _
 | eu _ _ _ b off c vf hS hlen hc aI ku =>
  exact .eu sz n g b off c vf hS (fun i hi => by rw [← e i hi]; exact hlen i hi) hc (fun i j pv hi hj => aI i j pv hi (by rw [e i hi]; exact hj)) (fun i j pv hi hj => ku i j pv hi (by rw [e i hi]; exact hj))
theorem aiG {P : Program} {H : Type} {enc : TypeId × Value → H} {w : World} {spare : Nat → Bool} {held : Bool} {S : Nat → Prop} {α : Type} (cells : α → List PV) (good : α → Prop) (J0 : α) {ts te : TypeId} {sz : Nat} (hu : P.underlying ts = some (.slice te)) (hc : P.cellsOf te = sz) (w3 : 0 < sz) (hlen : ∀ a, (cells a).length = sz)
  (hS : ∀ b, b < w.heap.size → S b) {fuel : Nat} (Y5 : ∀ n, n < fuel → ∀ (cs : List Value) (x : DataW H × List MemPlace), DataW.trod enc P w 0 spare held n te cs = some x → ∃ a, good a ∧ kK S w (cells a) cs)
  {e : Value} {x : DataW H × List MemPlace} (h : DataW.trod enc P w 0 spare held fuel ts [e] = some x) :
  ∃ l : List α, l.length ≤ 9223372036854775807 ∧ (∀ a ∈ l, good a) ∧ aE S w (sl sz cells l) e := by
 obtain ⟨n, f, h1, h2, h3⟩ := Oh cells good J0 hu hc w3 hlen hS Y5 h
 have hl : ((List.range n).map f).length = n := by simp
 have hi : ∀ i, i < n → ((List.range n).map f)[i]? = some (f i) := fun i hi => by simp [hi]
 refine ⟨(List.range n).map f, by rw [hl]; exact h1, fun a ha => ?_, ?_⟩
 ·obtain ⟨i, hi, rfl⟩ := arj.1 ha
  exact h2 i (ash.1 hi)
 ·show aE S w (.eu sz ((List.range n).map f).length (row cells _)) e
  rw [hl]
  exact Cx h3 (fun i cD => (oM (hi i cD)).symm)
theorem J1 {P : Program} {f : FuncId} {args : List PV} {vs : Array Value} {w : World} (aoP : Nn (fun b => b < w.heap.size) w) (hA : ACall P f args [] (fun res _ => res = .bool true)) (fv : vs.size = args.length)
  (ha : ∀ (j : Nat) (pv : PV), args[j]? = some pv → ∃ v, vs[j]? = some v ∧ gn (fun _ => none) [] (fun b => b < w.heap.size) w pv v) :
  Calls P f vs w fun e w' => e = .returned (.bool true) ∧ Below w.heap.size w w' := by
 refine (hA.2 w vs (fun _ => none) (fun b => b < w.heap.size) (fun id g sz n e f hid => by simp at hid) ⟨fun b hb => absurd hb je, fun b hb => absurd hb je, fun b hb => hb, fun i j g sz n e f g' bs n' e' f' b o o' hi => by simp at hi, aoP, fun b _ x y z hx => rB hx, fun b _ _ _ _ _ _ hx => absurd hx rB⟩ fv ha).mono ?_
 rintro e w' ⟨v, res, h', μ', S', rfl, rfl, hv, hH, hM, hF⟩
 exact ⟨by rw [hv.j3], hF.os, hF.tape, hF.output, hF.size, fun b hb => hF.blocks b hb je⟩
section
variable {H : Type} {enc : TypeId × Value → H} {w : World} {spare : Nat → Bool} {held : Bool} {S : Nat → Prop}
theorem ct3 : Tryz.prog.cellsOf 3 = 1 := by kernel_rfl
theorem ct9 : Tryz.prog.cellsOf 9 = 1 := by kernel_rfl
theorem aoQ : Tryz.prog.cellsOf 22 = 1 := by kernel_rfl
theorem aiH : Tryz.prog.cellsOf 24 = 4 := by kernel_rfl
inductive ae.Ok : ae → Prop where
 | mk (a0 : Int) (a1 : Int) (a2 : ar) (a3 : List ae) (h0 : a2.length ≤ 9223372036854775807) (h1 : a3.length ≤ 9223372036854775807) (h2 : ∀ x ∈ a3, ae.Ok x) : ae.Ok (.mk a0 a1 a2 a3)
theorem ae.Ok.inv {a : ae} (h : a.Ok) : (a.aj.length ≤ 9223372036854775807) ∧ (a.ah.length ≤ 9223372036854775807) ∧ (∀ x ∈ a.ah, ae.Ok x) := by
 cases h
 exact ⟨by assumption, by assumption, by assumption⟩
theorem ae.aiI {w : World} {S : Nat → Prop} {cs : List Value} (h : ∃ a : ae, a.Ok ∧ kK S w a.lit cs) : ∃ a : ae, a.Ok ∧ kK S w a.cells cs := by
 obtain ⟨a, h1, h2⟩ := h
 exact ⟨a, h1, by rw [ae.au]; exact h2⟩
theorem Cy (hS : ∀ b, b < w.heap.size → S b) : ∀ fuel : Nat, (∀ (cs : List Value) (x : DataW H × List MemPlace), DataW.trod enc Tryz.prog w 0 spare held fuel 24 cs = some x → ∃ a : ae, a.Ok ∧ kK S w a.lit cs) := by
 intro fuel
 induction fuel using Nat.strongRecOn with
 | _ fuel ih =>
  ·intro cs x h
   obtain ⟨xs, n, hn, _, hl, hlen, hf⟩ := DataW.trod_struct Tryz.underlying24 h
   have h0 := hf 0 _ rfl
   have h1 := hf 1 _ rfl
   have h2 := hf 2 _ rfl
   have h3 := hf 3 _ rfl
   rw [aiH] at hl
   obtain ⟨z0, z1, z2, z3, rfl⟩ := aiE hl
   obtain ⟨x0, x1, x2, x3, rfl⟩ := aiE (show xs.length = 4 from hlen)
   simp [ct3, ct9, aoQ] at h0 h1 h2 h3
   obtain ⟨v0, e0, _⟩ := DataW.trod_int Tryz.underlying3 h0
   obtain rfl : z0 = _ := by simpa using e0
   obtain ⟨v1, e1, _⟩ := DataW.trod_int Tryz.underlying3 h1
   obtain rfl : z1 = _ := by simpa using e1
   obtain ⟨s2, e2, _, q2⟩ := DataW.trod_string Tryz.underlying9 h2
   obtain rfl : z2 = _ := by simpa using e2
   obtain ⟨⟨v2⟩⟩ := s2
   replace q2 : v2.length ≤ 9223372036854775807 := by have h' : v2.length ≤ maxLen := q2; simpa [maxLen] using h'
   obtain ⟨v3, q3, g3, p3⟩ := aiG ae.cells ae.Ok default Tryz.underlying22 aiH atB (fun a => by rw [ae.au]; rfl) hS (fun m hm cs x h => ae.aiI ((ih m att) cs x h)) h3
   refine ⟨.mk v0 v1 v2 v3, .mk _ _ _ _ q2 q3 g3, rfl, fun j pv hj => ?_⟩
   match j with
   | 0 => cases hj; exact ⟨_, rfl, .int _ _⟩
   | 1 => cases hj; exact ⟨_, rfl, .int _ _⟩
   | 2 => cases hj; exact ⟨_, rfl, .str _⟩
   | 3 => cases hj; exact ⟨_, rfl, p3⟩
   | j + 4 => simp [ae.lit, sl] at hj
theorem E6 (hS : ∀ b, b < w.heap.size → S b) (fuel : Nat) (cs : List Value) (x : DataW H × List MemPlace) (h : DataW.trod enc Tryz.prog w 0 spare held fuel 24 cs = some x) : ∃ a : ae, a.Ok ∧ kK S w a.lit cs := (Cy hS fuel) cs x h
end
set_option maxRecDepth 100000
theorem sb {α β : Type} (a : α) (f : α → Option β) : (some a >>= f) = f a := rfl
theorem rC {s : ar} {i : Nat} (h : i < s.length) : nE s (i : Int) = some (s.getD i 0) := by
 unfold nE; rw [if_pos ⟨by omega, by omega⟩]; rfl
theorem bC {α : Type} [Inhabited α] {l : List α} {i : Nat} (h : i < l.length) : idx l (i : Int) = some l[i] := by
 unfold idx; rw [if_pos ⟨by omega, by omega⟩]
 simp [arc, h]
theorem kL {x : Int} {n : Nat} (h : x = (n : Int)) (hn : n ≤ 9223372036854775807) : aT x = (n : Int) := by
 subst h; exact Oj att att
theorem bU {i : Nat} (h : i < 9223372036854775807) : aT ((i : Int) + 1) = ((i + 1 : Nat) : Int) := kL att att
theorem jy {α : Type} {b : Nat} {l m : List α} (h : (l.length + m.length) * b ≤ 140737488355328) : nD b l m = some (l ++ m) := if_pos h
theorem rD (a b c : Int) : EU a b c = some (decide (b ≤ a ∧ a ≤ c)) := by
 unfold EU
 by_cases h : b ≤ a
 ·rw [if_pos h]; congr 1; simp; omega
 ·rw [if_neg h]; congr 1; symm; rw [decide_eq_false_iff_not]; omega
theorem nF (a b c : Int) : tW a b c = some (decide (b ≤ a ∧ a ≤ c)) := by
 unfold tW
 by_cases h : a ≥ b
 ·rw [if_pos h]; congr 1; simp; omega
 ·rw [if_neg h]; congr 1; symm; rw [decide_eq_false_iff_not]; omega
def isLet (b : UInt8) : Bool := decide (65 ≤ b.toNat ∧ b.toNat ≤ 90) || decide (97 ≤ b.toNat ∧ b.toNat ≤ 122)
def u9 (b : UInt8) : Bool := decide (48 ≤ b.toNat ∧ b.toNat ≤ 57)
theorem Y6 (b : UInt8) : j4 (b.toNat : Int) = some (isLet b) := by
 unfold j4 isLet
 by_cases h : (b.toNat : Int) ≥ 65
 ·rw [if_pos h]
  by_cases h2 : (b.toNat : Int) ≤ 90
  ·rw [if_pos h2]; congr 1; symm; simp; omega
  ·rw [if_neg h2]
   by_cases h3 : (b.toNat : Int) ≥ 97
   ·rw [if_pos h3]; congr 1; rw [asf]; simp; omega
   ·rw [if_neg h3]; congr 1; symm; simp; omega
 ·rw [if_neg h, if_neg att]; congr 1; symm; simp; omega
theorem Y7 (b : UInt8) : kM (b.toNat : Int) = some (u9 b) := by
 unfold kM u9
 by_cases h : (b.toNat : Int) ≥ 48
 ·rw [if_pos h]; congr 1; rw [asf]; simp; omega
 ·rw [if_neg h]; congr 1; symm; simp; omega
theorem wb (b : UInt8) : aT (b.toNat : Int) = (b.toNat : Int) := by
 have := b.toNat_lt
 exact Oj att att
theorem Ol (b : UInt8) : jw (b.toNat : Int) = some (isLet b || decide (b.toNat = 95)) := by
 unfold jw isLet
 rw [wb, nF, sb]
 by_cases h : (97 : Int) ≤ (b.toNat : Int) ∧ (b.toNat : Int) ≤ 122
 ·rw [if_pos atx]; congr 1; symm; simp; omega
 ·rw [if_neg atx, nF, sb]
  by_cases h2 : (65 : Int) ≤ (b.toNat : Int) ∧ (b.toNat : Int) ≤ 90
  ·rw [if_pos atx]; congr 1; symm; simp; omega
  ·rw [if_neg atx]; congr 1; rw [asf]; simp; omega
theorem Om (b : UInt8) : j5 (b.toNat : Int) = some (u9 b) := by
 unfold j5 u9
 rw [wb, nF, sb]
 congr 1; rw [asf]; simp; omega
def oN (s : ar) : Nat → Nat → Nat
 | 0, i => i
 | f + 1, i => if i < s.length then (if isLet (s.getD i 0) || decide ((s.getD i 0).toNat = 95) || (decide (0 < i) && u9 (s.getD i 0)) then oN s f (i + 1) else i) else i
theorem AY (s : ar) (hs : s.length < 9223372036854775807) : ∀ (f i : Nat), s.length ≤ i + f → i ≤ s.length → cu s (i : Int) = some ((oN s (f + 1) i : Nat) : Int)
 | f, i, h, hi => by
  rw [cu, oN]
  by_cases hc : i < s.length
  ·rw [if_pos att, if_pos hc, rC hc, sb, Y6, sb, bU att]
   obtain ⟨g, rfl⟩ : ∃ g, f = g + 1 := ⟨f - 1, by omega⟩
   have ih := AY s hs g (i + 1) att att
   cases hl : isLet (s.getD i 0)
   ·rw [if_neg atv, sb]
    by_cases h5 : (s.getD i 0).toNat = 95
    ·rw [if_pos att, ih, if_pos (by simp only [h5, eq_self, decide_true, arL, arQ])]
    ·rw [if_neg att]
     by_cases h0 : 0 < i
     ·rw [if_pos att, sb, Y7, sb]
      cases hd : u9 (s.getD i 0)
      ·rw [if_neg atv, if_neg (by simp only [h5, decide_false, aru, arJ, ary]; simp)]
      ·rw [if_pos rfl, ih, if_pos (by simp only [h0, decide_true, ase, arL])]
     ·rw [if_neg att, if_neg (by simp only [h5, h0, decide_false, arV, aru]; simp)]
   ·rw [if_pos rfl, ih, if_pos atv]
  ·rw [if_neg att, if_neg hc]
theorem AZ (s : ar) (hs : s.length < 9223372036854775807) : ∀ (f i : Nat), s.length ≤ i + f → i ≤ s.length → gw s 0 (i : Int) = some ((oN s (f + 1) i : Nat) : Int)
 | f, i, h, hi => by
  rw [gw, oN]
  by_cases hc : i < s.length
  ·rw [if_pos att, if_pos hc, rC hc, sb, Ol, sb, bU att]
   obtain ⟨g, rfl⟩ : ∃ g, f = g + 1 := ⟨f - 1, by omega⟩
   have ih := AZ s hs g (i + 1) att att
   cases hl : (isLet (s.getD i 0) || decide ((s.getD i 0).toNat = 95))
   ·rw [if_neg atv]
    by_cases h0 : 0 < i
    ·rw [if_pos att, sb, Om, sb]
     cases hd : u9 (s.getD i 0)
     ·rw [if_neg atv, if_neg atv]
     ·rw [if_pos rfl, ih, if_pos (by simp [h0])]
    ·rw [if_neg att, if_neg (by simp [h0])]
   ·rw [if_pos rfl, ih, if_pos atv]
  ·rw [if_neg att, if_neg hc]
theorem E7 (s : ar) : ∃ b, kx s = some b ∧ lF s = some b := by
 unfold kx lF
 by_cases h : s.length ≤ 20
 ·rw [if_pos att]
  have e1 : gx s = some ((oN s (s.length + 1) 0 : Nat) : Int) := by
   unfold gx
   have := AY s att s.length 0 att att
   rw [show ((0 : Nat) : Int) = 0 from rfl] at this
   rw [this, sb]
  have e2 : kN s 0 = some ((oN s (s.length + 1) 0 : Nat) : Int) := by
   unfold kN
   have := AZ s att s.length 0 att att
   rw [show ((0 : Nat) : Int) = 0 from rfl] at this
   rw [this, sb]
  rw [e1, sb, e2]
  cases s with
  | nil => exact ⟨_, rfl, rfl⟩
  | cons c r =>
   rw [if_pos (show ((c :: r).length : Int) ≥ 1 by simp; omega), if_pos (show ((c :: r).length : Int) ≤ 20 by omega), sb]
   by_cases he : oN (c :: r) ((c :: r).length + 1) 0 = (c :: r).length
   ·rw [if_pos att]
    refine ⟨_, rfl, ?_⟩
    congr 1
    simp only [beq_iff_eq, he]
    simp
   ·rw [if_neg att]
    refine ⟨_, rfl, ?_⟩
    congr 1
    rw [beq_eq_false_iff_ne]
    omega
 ·rw [if_neg att]
  refine ⟨_, rfl, ?_⟩
  rw [if_pos att, if_neg att]
def ug : List ar := [[101, 99, 104, 111], [105, 102], [101, 108, 115, 101], [119, 104, 105, 108, 101], [102, 111, 114, 101, 97, 99, 104], [97, 115], [98, 114, 101, 97, 107], [99, 111, 110, 116, 105, 110, 117, 101], [114, 101, 116, 117, 114, 110], [103, 108, 111, 98, 97, 108], [117, 110, 115, 101, 116], [116, 104, 114, 111, 119], [116, 114, 121], [99, 97, 116, 99, 104], [102, 105, 110, 97, 108, 108, 121], [121, 105, 101, 108, 100], [105, 110, 99, 108, 117, 100, 101], [102, 117, 110, 99, 116, 105, 111, 110], [99, 108, 97, 115, 115], [116, 114, 97, 105, 116], [101, 120, 116, 101, 110, 100, 115], [117, 115, 101], [112, 114, 105, 118, 97, 116, 101], [115, 116, 97, 116, 105, 99], [110, 101, 119], [116, 114, 117, 101], [102, 97, 108, 115, 101], [110, 117, 108, 108]]
theorem DN (s : ar) : ∀ (f k : Nat), ug.length ≤ k + f → fV s (k : Int) = some (if (ug.drop k).any (fun x => decide (s = x)) then .inr true else .inl ())
 | f, k, h => by
  rw [fV]
  change (if (k : Int) < (ug.length : Int) then idx ug (k : Int) >>= _ else _) = _
  by_cases hc : k < ug.length
  ·have hl : ug.length = 28 := rfl
   rw [if_pos att, bC hc, sb, bU att, aqX hc, List.any_cons]
   by_cases he : ug[k] = s
   ·rw [if_pos he, if_pos (by rw [← he]; simp)]
   ·obtain ⟨g, rfl⟩ : ∃ g, f = g + 1 := ⟨f - 1, by omega⟩
    rw [if_neg he, DN s g (k + 1) att, decide_eq_false (fun h => he h.symm), ary]
  ·rw [if_neg att, aqU att]; rfl
theorem ca {s x : ar} {b : Bool} {z : Option Bool} (h : z = some b) : (if s = x then some true else z) = some (decide (s = x) || b) := by
 subst h
 by_cases h : s = x
 ·rw [if_pos h, decide_eq_true h, arQ]
 ·rw [if_neg h, decide_eq_false h, ary]
theorem On (s : ar) : iS s = some (ug.any fun x => decide (s = x)) := by
 unfold iS
 have := DN s ug.length 0 att
 rw [show ((0 : Nat) : Int) = 0 from rfl, ara] at this
 rw [this, sb]
 cases hc : ug.any (fun x => decide (s = x))
 ·rfl
 ·rfl
theorem Oo (s : ar) : iT s = some (ug.any fun x => decide (s = x)) := by
 have e : ug.any (fun x => decide (s = x)) = (decide (s = ([101, 99, 104, 111] : ar)) || (decide (s = ([105, 102] : ar)) || (decide (s = ([101, 108, 115, 101] : ar)) || (decide (s = ([119, 104, 105, 108, 101] : ar)) || (decide (s = ([102, 111, 114, 101, 97, 99, 104] : ar)) || (decide (s = ([97, 115] : ar)) || (decide (s = ([98, 114, 101, 97, 107] : ar)) || (decide (s = ([99, 111, 110, 116, 105, 110, 117, 101] : ar)) || (decide (s = ([114, 101, 116, 117, 114, 110] : ar)) || (decide (s = ([103, 108, 111, 98, 97, 108] : ar)) || (decide (s = ([117, 110, 115, 101, 116] : ar)) || (decide (s = ([116, 104, 114, 111, 119] : ar)) || (decide (s = ([116, 114, 121] : ar)) || (decide (s = ([99, 97, 116, 99, 104] : ar)) || (decide (s = ([102, 105, 110, 97, 108, 108, 121] : ar)) || (decide (s = ([121, 105, 101, 108, 100] : ar)) || (decide (s = ([105, 110, 99, 108, 117, 100, 101] : ar)) || (decide (s = ([102, 117, 110, 99, 116, 105, 111, 110] : ar)) || (decide (s = ([99, 108, 97, 115, 115] : ar)) || (decide (s = ([116, 114, 97, 105, 116] : ar)) || (decide (s = ([101, 120, 116, 101, 110, 100, 115] : ar)) || (decide (s = ([117, 115, 101] : ar)) || (decide (s = ([112, 114, 105, 118, 97, 116, 101] : ar)) || (decide (s = ([115, 116, 97, 116, 105, 99] : ar)) || (decide (s = ([110, 101, 119] : ar)) || (decide (s = ([116, 114, 117, 101] : ar)) || (decide (s = ([102, 97, 108, 115, 101] : ar)) || (decide (s = ([110, 117, 108, 108] : ar)) || false)))))))))))))))))))))))))))) := rfl
 rw [e]
 unfold iT
 exact (ca (ca (ca (ca (ca (ca (ca (ca (ca (ca (ca (ca (ca (ca (ca (ca (ca (ca (ca (ca (ca (ca (ca (ca (ca (ca (ca (ca rfl))))))))))))))))))))))))))))
theorem DO (s : ar) : ∃ b, a8 s = some b ∧ cc s = some b := by
 obtain ⟨b, h1, h2⟩ := E7 s
 unfold a8 cc
 rw [h1, h2, sb, sb, Oo, On]
 cases b
 ·exact ⟨_, rfl, rfl⟩
 ·exact ⟨_, rfl, rfl⟩
def good (s : ar) : Bool := (a8 s).getD false
theorem tH (s : ar) : a8 s = some (good s) := by obtain ⟨v, h, _⟩ := DO s; rw [good, h]; rfl
theorem J2 (s : ar) : cc s = some (good s) := by obtain ⟨v, h, h2⟩ := DO s; rw [good, h, h2]; rfl
def q1 (b : UInt8) : List UInt8 := if b.toNat = 39 ∨ b.toNat = 92 then [92, b] else [b]
def qt (s : ar) : ar := [39] ++ s.flatMap q1 ++ [39]
theorem DP (s : ar) (hs : s.length ≤ 1099511627776) : ∀ (f i : Nat) (l : List UInt8), s.length ≤ i + f → l.length ≤ 2 * i + 1 → dH s l (i : Int) = some (l ++ (s.drop i).flatMap q1)
 | f, i, l, h, hl => by
  rw [dH]
  by_cases hc : i < s.length
  ·obtain ⟨g, rfl⟩ : ∃ g, f = g + 1 := ⟨f - 1, by omega⟩
   have hd : s.getD i 0 = s[i] := by simp [arc, hc]
   rw [if_pos att, rC hc, sb, bU att, aqX hc, arD, hd]
   by_cases h1 : s[i].toNat = 39
   ·rw [if_pos att, jy atx, sb, sb, jy atx, sb, DP s hs g (i + 1) _ att atx]
    simp [q1, h1]
   ·rw [if_neg att, sb]
    by_cases h2 : s[i].toNat = 92
    ·rw [if_pos att, jy atx, sb, sb, jy atx, sb, DP s hs g (i + 1) _ att atx]
     simp [q1, h2]
    ·rw [if_neg att, sb, jy atx, sb, DP s hs g (i + 1) _ att atx]
     simp [q1, h1, h2]
  ·rw [if_neg att, aqU att]; simp
theorem rE : ∀ s : ar, (s.flatMap q1).length ≤ 2 * s.length
 | [] => by simp
 | b :: s => by
  have := rE s
  have h1 : (q1 b).length ≤ 2 := by unfold q1; split <;> simp
  simp only [arD, An, an]
  omega
theorem DQ (s : ar) (hs : s.length ≤ 1099511627776) : ∀ (f i : Nat) (l : List UInt8), s.length ≤ i + f → l.length ≤ 2 * i + 1 → dI s l (i : Int) = some (l ++ (s.drop i).flatMap q1)
 | f, i, l, h, hl => by
  rw [dI]
  by_cases hc : i < s.length
  ·obtain ⟨g, rfl⟩ : ∃ g, f = g + 1 := ⟨f - 1, by omega⟩
   have hd : s.getD i 0 = s[i] := by simp [arc, hc]
   rw [if_pos att, rC hc, sb, bU att, aqX hc, arD, hd]
   by_cases h1 : s[i].toNat = 39
   ·rw [if_pos att, jy atx, sb, sb, jy atx, sb, DQ s hs g (i + 1) _ att atx]
    simp [q1, h1]
   ·rw [if_neg att, sb]
    by_cases h2 : s[i].toNat = 92
    ·rw [if_pos att, jy atx, sb, sb, jy atx, sb, DQ s hs g (i + 1) _ att atx]
     simp [q1, h2]
    ·rw [if_neg att, sb, jy atx, sb, DQ s hs g (i + 1) _ att atx]
     simp [q1, h1, h2]
  ·rw [if_neg att, aqU att]; simp
theorem sQ (s : ar) (hs : s.length ≤ 1099511627776) : ib s = some (qt s) := by
 unfold ib
 have := DP s hs s.length 0 [39] att atv
 rw [show ((0 : Nat) : Int) = 0 from rfl, ara] at this
 have hf := rE s
 rw [this, sb, jy aty, sb]; rfl
theorem iQ (s : ar) (hs : s.length ≤ 1099511627776) : ic s = some (qt s) := by
 unfold ic
 have := DQ s hs s.length 0 [39] att atv
 rw [show ((0 : Nat) : Int) = 0 from rfl, ara] at this
 have hf := rE s
 rw [this, sb, jy aty, sb]; rfl
theorem yO : ∀ (k u : Nat), u < 10 ^ (k + 1) → Lib.nDigits u ≤ k + 1
 | 0, u, h => by rw [Lib.nDigits_small atJ]; exact aqP _
 | k + 1, u, h => by
  by_cases h1 : u < 10
  ·rw [Lib.nDigits_small h1]; omega
  ·rw [Lib.nDigits_big h1]
   have := yO k (u / 10) (by rw [Nat.pow_succ] at h; omega)
   omega
theorem va (u : Nat) : Lib.decDigits u = (if u / 10 = 0 then [] else Lib.decDigits (u / 10)) ++ [UInt8.ofNat (48 + u % 10)] := by
 by_cases h : u < 10
 ·rw [if_pos att, Lib.decDigits, dif_pos h, show u % 10 = u by omega]; rfl
 ·rw [if_neg att]
  conv => lhs; rw [Lib.decDigits, dif_neg h]
theorem J3 : ∀ (k : Nat) (out : ar) (m : Int), m.natAbs < 10 ^ k → -9223372036854775808 ≤ m → m ≤ 9223372036854775807 → k + out.length ≤ 1000 →
  oO out m = some ((if m = 0 then [] else Lib.decDigits m.natAbs) ++ out)
 | 0, out, m, h, _, _, _ => by
  have : m = 0 := by simp at h; exact h
  subst this
  rw [oO, if_pos rfl, if_pos rfl]; rfl
 | k + 1, out, m, h, h0, h1, ho => by
  rw [oO]
  by_cases hm : m = 0
  ·rw [if_pos hm, if_pos hm]; rfl
  rw [if_neg hm, if_neg hm]
  have ab : (m.tmod 10).natAbs = m.natAbs % 10 := Int.natAbs_tmod m 10
  have ad : (m.tdiv 10).natAbs = m.natAbs / 10 := Int.natAbs_tdiv m 10
  have dv : aT (m.tdiv 10) = m.tdiv 10 := by rw [aT, Oj] <;> omega
  have fin : ∀ d : Int, d = ((m.natAbs % 10 : Nat) : Int) → UInt8.ofNat (IntKind.u8.wrap (aT (48 + d))).toNat = UInt8.ofNat (48 + m.natAbs % 10) := fun d hd => by
   subst hd
   rw [aT, Oj att att, IntKind.wrap_u8]
   congr 1
   omega
  have next : oO ([UInt8.ofNat (48 + m.natAbs % 10)] ++ out) (aT (m.tdiv 10)) = some (Lib.decDigits m.natAbs ++ out) := by
   rw [dv, J3 k _ _ (by rw [Nat.pow_succ] at h; omega) att att atx, va m.natAbs, ad, amb]
   by_cases h : m.tdiv 10 = 0
   ·rw [if_pos h, if_pos att]
   ·rw [if_neg h, if_neg att]
  have hs : ∀ b : UInt8, aH [b] out = some ([b] ++ out) := fun b => if_pos atx
  by_cases hn : m.tmod 10 < 0
  ·rw [if_pos hn, hs, sb, fin _ (by rw [aT, Oj] <;> omega), next]
  ·rw [if_neg hn, hs, sb, fin _ att, next]
theorem Y8 (n : Int) (h0 : -9223372036854775808 ≤ n) (h1 : n ≤ 9223372036854775807) : m94 n = some (Lib.itoa n) := by
 unfold m94
 by_cases h : n = 0
 ·subst h; rw [if_pos rfl, show Lib.itoa 0 = [48] by decide +kernel]
 rw [if_neg h, J3 20 [] n (by simp only [Nat.reducePow]; omega) h0 h1 atv, sb, if_neg h, asc]
 unfold Lib.itoa
 have hL : (Lib.decDigits n.natAbs).length ≤ 20 := by rw [Lib.decDigits_length]; exact yO 19 _ (by simp only [Nat.reduceAdd, Nat.reducePow]; omega)
 by_cases hn : n < 0
 ·rw [if_pos hn, if_pos hn, aH, if_pos atx]; rfl
 ·rw [if_neg hn, if_neg hn, show n.natAbs = n.toNat by omega]
theorem J4 (n : Int) (h0 : 0 ≤ n) (h1 : n ≤ 1000000000) : 1 ≤ (Lib.itoa n).length ∧ (Lib.itoa n).length ≤ 20 := by
 unfold Lib.itoa
 rw [if_neg att, Lib.decDigits_length]
 have h3 := yO 19 n.toNat (by simp only [Nat.reduceAdd, Nat.reducePow]; omega)
 have h4 := Lib.nDigits_pos n.toNat
 omega
theorem sOp (n : Int) (h1 : 1 ≤ n) (h2 : n ≤ 15) : ∃ s, jb n = some s ∧ j6 n = some s ∧ ∃ k, db n = some k ∧ jM n = some k ∧ 6 ≤ k ∧ k ≤ 10 := by
 obtain ⟨k, rfl⟩ : ∃ k : Nat, n = (k : Int) := ⟨n.toNat, by omega⟩
 have h3 : k ≤ 15 := by omega
 have h4 : 1 ≤ k := by omega
 match k, h3, h4 with
 | 1, _, _ => exact ⟨_, rfl, rfl, _, rfl, rfl, by decide, by decide⟩
 | 2, _, _ => exact ⟨_, rfl, rfl, _, rfl, rfl, by decide, by decide⟩
 | 3, _, _ => exact ⟨_, rfl, rfl, _, rfl, rfl, by decide, by decide⟩
 | 4, _, _ => exact ⟨_, rfl, rfl, _, rfl, rfl, by decide, by decide⟩
 | 5, _, _ => exact ⟨_, rfl, rfl, _, rfl, rfl, by decide, by decide⟩
 | 6, _, _ => exact ⟨_, rfl, rfl, _, rfl, rfl, by decide, by decide⟩
 | 7, _, _ => exact ⟨_, rfl, rfl, _, rfl, rfl, by decide, by decide⟩
 | 8, _, _ => exact ⟨_, rfl, rfl, _, rfl, rfl, by decide, by decide⟩
 | 9, _, _ => exact ⟨_, rfl, rfl, _, rfl, rfl, by decide, by decide⟩
 | 10, _, _ => exact ⟨_, rfl, rfl, _, rfl, rfl, by decide, by decide⟩
 | 11, _, _ => exact ⟨_, rfl, rfl, _, rfl, rfl, by decide, by decide⟩
 | 12, _, _ => exact ⟨_, rfl, rfl, _, rfl, rfl, by decide, by decide⟩
 | 13, _, _ => exact ⟨_, rfl, rfl, _, rfl, rfl, by decide, by decide⟩
 | 14, _, _ => exact ⟨_, rfl, rfl, _, rfl, rfl, by decide, by decide⟩
 | 15, _, _ => exact ⟨_, rfl, rfl, _, rfl, rfl, by decide, by decide⟩
 | 0, _, h => omega
 | k + 16, h, _ => omega
mutual
def sz : ae → Nat | .mk _ _ _ k => 1 + ij k
def ij : List ae → Nat | [] => 0 | x :: r => sz x + ij r
end
mutual
def dp : ae → Nat | .mk _ _ _ k => 1 + B3 k
def B3 : List ae → Nat | [] => 0 | x :: r => max (dp x) (B3 r)
end
theorem me (n : ae) : sz n = 1 + ij n.ah := by cases n; rfl
theorem DS (n : ae) : dp n = 1 + B3 n.ah := by cases n; rfl
theorem rF : ∀ (l : List ae) (i : Nat) (h : i < l.length), ij (l.drop i) = sz l[i] + ij (l.drop (i + 1))
 | x :: r, 0, h => rfl
 | x :: r, i + 1, h => rF r i atJ
theorem vb : ∀ (l : List ae) (i : Nat) (h : i < l.length), B3 (l.drop i) = max (dp l[i]) (B3 (l.drop (i + 1)))
 | x :: r, 0, h => rfl
 | x :: r, i + 1, h => vb r i atJ
theorem mz (n : ae) : 0 < sz n := by rw [me]; omega
theorem J5 : ∀ (l : List ae) (i : Nat), ij (l.drop i) ≤ ij l
 | [], i => by simp [ij]
 | x :: r, 0 => aqP _
 | x :: r, i + 1 => arN (J5 r i) (by show ij r ≤ sz x + ij r; omega)
theorem yP (l : List ae) (i : Nat) (h : i < l.length) : sz l[i] ≤ ij l := by
 have := rF l i h; have := J5 l i; omega
theorem rG : ∀ l : List ae, l.length ≤ ij l
 | [] => aqP _
 | x :: r => by have := rG r; have := mz x; simp only [an]; show r.length + 1 ≤ sz x + ij r; omega
theorem A1 : ∀ (k : Nat), (∀ n : ae, sz n ≤ k → sz n < 4611686018427387904 → gK n = some (sz n : Int))
 | 0, n, h, _ => by have := mz n; omega
 | k + 1, n, h, hb => by
  have hk := me n
  have go : ∀ (f i s : Nat), n.ah.length ≤ i + f → s + ij (n.ah.drop i) < 4611686018427387904 → fD n (s : Int) (i : Int) = some ((s + ij (n.ah.drop i) : Nat) : Int) := by
   intro f
   induction f with
   | zero =>
    intro i s h1 h2
    rw [fD, if_neg att, aqU att]; rfl
   | succ f ih =>
    intro i s h1 h2
    rw [fD]
    by_cases hc : i < n.ah.length
    ·have hd := rF n.ah i hc
     have hl := yP n.ah i hc
     have hn := rG n.ah
     rw [if_pos att, bC hc, sb, A1 k _ att att, sb, bU att, kL (n := s + sz n.ah[i]) att att, ih (i + 1) _ att att, hd, asC]
    ·rw [if_neg att, aqU att]; rfl
  have h0 := go n.ah.length 0 1 att (by rw [ara]; omega)
  rw [gK]
  rw [show ((1 : Nat) : Int) = 1 from rfl, show ((0 : Nat) : Int) = 0 from rfl, ara] at h0
  rw [h0, sb, hk]
theorem aiJ (a b : Nat) : Vi (a : Int) (b : Int) = some ((max a b : Nat) : Int) := by
 unfold Vi
 by_cases h : a < b
 ·rw [if_pos att, asI att]
 ·rw [if_neg att, Nat.max_eq_left att]
theorem aiK (a b : Nat) : Vp (a : Int) (b : Int) = some ((max a b : Nat) : Int) := by
 unfold Vp
 by_cases h : a < b
 ·first | rw [if_pos att, asI att] | rw [if_neg att, asI att]
 ·by_cases h2 : b < a
  ·first | rw [if_neg att, Nat.max_eq_left att] | rw [if_pos att, Nat.max_eq_left att]
  ·obtain rfl : a = b := by omega
   split <;> simp
mutual
theorem aiL : ∀ n : ae, dp n ≤ sz n
 | .mk _ _ _ k => by have := uA k; show 1 + B3 k ≤ 1 + ij k; omega
theorem uA : ∀ l : List ae, B3 l ≤ ij l
 | [] => aqP _
 | x :: r => by have := aiL x; have := uA r; show max (dp x) (B3 r) ≤ sz x + ij r; omega
end
theorem J6 : ∀ (k : Nat), (∀ n : ae, sz n ≤ k → sz n < 4611686018427387904 → fZ n = some (dp n : Int))
 | 0, n, h, _ => by have := mz n; omega
 | k + 1, n, h, hb => by
  have hk := me n
  have hd0 := DS n
  have hn := rG n.ah
  have go : ∀ (f i s : Nat), n.ah.length ≤ i + f → eN n (s : Int) (i : Int) = some ((max s (B3 (n.ah.drop i)) : Nat) : Int) := by
   intro f
   induction f with
   | zero =>
    intro i s h1
    rw [eN, if_neg att, aqU att]; simp [B3]
   | succ f ih =>
    intro i s h1
    rw [eN]
    by_cases hc : i < n.ah.length
    ·have hl := yP n.ah i hc
     rw [if_pos att, bC hc, sb, J6 k _ att att, sb, aiJ, sb, bU att, ih (i + 1) _ att, vb n.ah i hc, Nat.max_assoc]
    ·rw [if_neg att, aqU att]; simp [B3]
  have h0 := go n.ah.length 0 0 att
  have hz := uA n.ah
  rw [fZ]
  rw [show ((0 : Nat) : Int) = 0 from rfl, ara, Nat.zero_max] at h0
  rw [h0, sb, kL (n := B3 n.ah + 1) att att, hd0, Nat.add_comm]
theorem J7 : ∀ (k : Nat), (∀ n : ae, sz n ≤ k → sz n < 4611686018427387904 → gf n = some (dp n : Int))
 | 0, n, h, _ => by have := mz n; omega
 | k + 1, n, h, hb => by
  have hk := me n
  have hd0 := DS n
  have hn := rG n.ah
  have go : ∀ (f i s : Nat), n.ah.length ≤ i + f → eO n (s : Int) (i : Int) = some ((max s (B3 (n.ah.drop i)) : Nat) : Int) := by
   intro f
   induction f with
   | zero =>
    intro i s h1
    rw [eO, if_neg att, aqU att]; simp [B3]
   | succ f ih =>
    intro i s h1
    rw [eO]
    by_cases hc : i < n.ah.length
    ·have hl := yP n.ah i hc
     rw [if_pos att, bC hc, sb, J7 k _ att att, sb, aiK, sb, bU att, ih (i + 1) _ att, vb n.ah i hc, Nat.max_assoc]
    ·rw [if_neg att, aqU att]; simp [B3]
  have h0 := go n.ah.length 0 0 att
  have hz := uA n.ah
  rw [gf]
  rw [show ((0 : Nat) : Int) = 0 from rfl, ara, Nat.zero_max] at h0
  rw [h0, sb, kL (n := B3 n.ah + 1) att att, hd0, Nat.add_comm]
theorem A2 : ∀ (k : Nat), (∀ n : ae, sz n ≤ k → sz n < 4611686018427387904 → ∀ left : Int, 0 ≤ left → left ≤ 600 → ∃ v, iJ n left = some v ∧ -4611686018427387904 < v ∧ v ≤ 600 ∧ ((sz n : Int) ≤ left → v = left - sz n) ∧ (left < sz n → v < 0))
 | 0, n, h, _, _, _, _ => by have := mz n; omega
 | k + 1, n, h, hb, left, zW, Y9 => by
  have hk := me n
  have hn := rG n.ah
  have go : ∀ (f i : Nat) (y : Int), n.ah.length ≤ i + f → -4611686018427387904 < y → y ≤ 600 → ∃ v, gu n y (i : Int) = some v ∧ -4611686018427387904 < v ∧ v ≤ 600 ∧ (0 ≤ y → (ij (n.ah.drop i) : Int) ≤ y → v = y - ij (n.ah.drop i)) ∧ (y < ij (n.ah.drop i) → v < 0) ∧ (y < 0 → v < 0) := by
   intro f
   induction f with
   | zero =>
    intro i y h1 h2 h3
    rw [gu, if_neg att, aqU att]
    exact ⟨y, rfl, h2, h3, fun _ _ => by simp [ij], fun q => by simp [ij] at q; exact q, fun q => q⟩
   | succ f ih =>
    intro i y h1 h2 h3
    rw [gu]
    by_cases hc : i < n.ah.length
    ·have hl := yP n.ah i hc
     have hd := rF n.ah i hc
     rw [if_pos att]
     by_cases hy : 0 ≤ y
     ·obtain ⟨v, e1, e2, e3, e4, e5⟩ := A2 k n.ah[i] att att y hy h3
      obtain ⟨u, g1, g2, g3, g4, g5, g6⟩ := ih (i + 1) v att e2 e3
      rw [if_pos hy, bC hc, sb, e1, sb, bU att, g1]
      refine ⟨u, rfl, g2, g3, fun _ q => ?_, fun q => ?_, fun q => by omega⟩
      ·have := e4 att; have := g4 att att; omega
      ·by_cases hq : (sz n.ah[i] : Int) ≤ y
       ·have := e4 hq; exact g5 att
       ·exact g6 (e5 att)
     ·rw [if_neg hy]
      exact ⟨y, rfl, h2, h3, fun q => absurd q hy, fun _ => by omega, fun q => q⟩
    ·rw [if_neg att, aqU att]
     exact ⟨y, rfl, h2, h3, fun _ _ => by simp [ij], fun q => by simp [ij] at q; exact q, fun q => q⟩
  obtain ⟨v, e1, e2, e3, e4, e5, e6⟩ := go n.ah.length 0 (left - 1) att att att
  rw [ara] at e4 e5
  have hw : aT (left - 1) = left - 1 := by
   by_cases h0 : left = 0
   ·subst h0; decide
   ·rw [kL (n := (left - 1).toNat) att att]; omega
  rw [iJ, hw, show (0 : Int) = ((0 : Nat) : Int) from rfl, e1, sb]
  refine ⟨v, rfl, e2, e3, fun q => ?_, fun q => ?_⟩
  ·have := e4 att att; omega
  ·exact e5 att
theorem J8 (n : ae) (hb : sz n < 4611686018427387904) : jm n = some (decide (sz n ≤ 600 ∧ dp n ≤ 30)) ∧ jV n = some (decide (sz n ≤ 600 ∧ dp n ≤ 30)) := by
 obtain ⟨v, e1, _, _, e4, e5⟩ := A2 (sz n) n (aqP _) hb 600 att att
 unfold jm jV
 rw [A1 (sz n) n (aqP _) hb, e1, sb, sb]
 by_cases h : sz n ≤ 600
 ·have := e4 att
  rw [if_pos att, if_pos att, J7 (sz n) n (aqP _) hb, J6 (sz n) n (aqP _) hb, sb]
  constructor <;> (congr 1; simp only [decide_eq_decide]; omega)
 ·have := e5 att
  rw [if_neg att, if_neg att]
  constructor <;> (rw [decide_eq_false att])
set_option maxRecDepth 100000
theorem vd {s p : ar} {i : Nat} (hp : p ≠ []) (h : ¬ i + p.length ≤ s.length) : Lib.occAt s p i = false := by
 cases hc : Lib.occAt s p i
 ·rfl
 ·rcases Lib.occAt_room hc with h2 | h2
  ·exact absurd h2 h
  ·exact absurd h2 hp
theorem DT {s p : ar} {i : Nat} (h : i + p.length ≤ s.length) : ((s.take (i + p.length)).drop i == p) = Lib.occAt s p i := by
 rw [Lib.occAt_iff_take s p i h, List.drop_take, asu]
theorem aoR {s p : ar} {i : Nat} (hp : p ≠ []) (Nr : p.length ≤ 10) (hi : i ≤ s.length) (hs : s.length ≤ 4611686018427387904) : mS s (i : Int) p = some (Lib.occAt s p i) := by
 unfold mS
 rw [kL (x := (s.length : Int) - (i : Int)) (n := s.length - i) att att, kL (x := (i : Int) + (p.length : Int)) (n := i + p.length) att att]
 by_cases h : i + p.length ≤ s.length
 ·rw [if_pos att, E8, if_pos ⟨by omega, by omega, by omega⟩, sb, ← DT h]; rfl
 ·rw [if_neg att, vd hp h]
theorem Cz (n : ae) (hs : n.aj.length ≤ 4611686018427387904) : ∀ (f i : Nat) (b : Bool), n.aj.length ≤ i + f → i ≤ n.aj.length →
  ∃ v, dJ n b (i : Int) = some ((n.aD == 0), v) ∧ (v = true ↔ b = true ∧ ∀ j, i ≤ j → j < n.aj.length → Lib.occAt n.aj [60, 63] j = false)
 | f, i, b, h, hi => by
  rw [dJ]
  by_cases hc : i < n.aj.length
  ·obtain ⟨g, rfl⟩ : ∃ g, f = g + 1 := ⟨f - 1, by omega⟩
   rw [if_pos att, bU att]
   cases b
   ·rw [if_neg atv]
    obtain ⟨v, h1, h2⟩ := Cz n hs g (i + 1) false att att
    exact ⟨v, h1, by rw [h2]; simp⟩
   ·rw [if_pos rfl, aoR atv atv hi hs, sb]
    obtain ⟨v, h1, h2⟩ := Cz n hs g (i + 1) (!Lib.occAt n.aj [60, 63] i) att att
    refine ⟨v, h1, ?_⟩
    rw [h2]
    constructor
    ·rintro ⟨q, r⟩
     refine ⟨rfl, fun j hj1 hj2 => ?_⟩
     by_cases e : j = i
     ·subst e; simpa using q
     ·exact r j att hj2
    ·rintro ⟨_, r⟩
     exact ⟨by simp [r i att hc], fun j hj1 hj2 => r j att hj2⟩
  ·rw [if_neg att]
   exact ⟨b, rfl, ⟨fun q => ⟨q, fun j hj1 hj2 => by omega⟩, fun q => q.1⟩⟩
def t31 (t : ar) : Bool := !(t == ([] : ar)) && !decide (0 ≤ Lib.index t [60, 63])
theorem Za (n : ae) (hs : n.aj.length ≤ 4611686018427387904) : dJ n (!(n.aj == ([] : ar))) 0 = some ((n.aD == 0), t31 n.aj) := by
 obtain ⟨v, h1, h2⟩ := Cz n hs n.aj.length 0 (!(n.aj == ([] : ar))) att att
 rw [show ((0 : Nat) : Int) = 0 from rfl] at h1
 rw [h1]
 congr 2
 rw [asf, h2, t31, As]
 refine and_congr_right fun _ => ?_
 rcases Lib.index_spec n.aj [60, 63] with ⟨e, q⟩ | ⟨i, e, q1, q2, _⟩
 ·rw [e]; exact ⟨fun _ => by decide, fun _ j _ hj => q j att⟩
 ·rw [e]
  constructor
  ·intro r
   by_cases hi : i < n.aj.length
   ·rw [r i att hi] at q2; cases q2
   ·rw [vd atv atx] at q2; cases q2
  ·intro r; simp at r
theorem A3 (s : ar) (hs : s.length ≤ 4611686018427387904) : ∀ (f i : Nat), s.length ≤ i + f → i ≤ s.length → (∀ j, j < i → Lib.occAt s [58, 58] j = false) →
  gV s (i : Int) = some (if 0 ≤ Lib.index s [58, 58] then .inr (s.take (Lib.index s [58, 58]).toNat, s.drop ((Lib.index s [58, 58]).toNat + 2)) else .inl ())
 | f, i, h, hi, hj => by
  rw [gV, bU att]
  by_cases hc : i + 1 < s.length
  ·obtain ⟨g, rfl⟩ : ∃ g, f = g + 1 := ⟨f - 1, by omega⟩
   have ho := DT (s := s) (p := [58, 58]) (i := i) atx
   simp only [an, mg] at ho
   rw [if_pos att, kL (x := (i : Int) + 2) (n := i + 2) att att, E8, if_pos ⟨by omega, by omega, by omega⟩, sb]
   show (if (s.take (i + 2)).drop i = [58, 58] then _ else _) = _
   by_cases he : (s.take (i + 2)).drop i = [58, 58]
   ·have N7 : Lib.occAt s [58, 58] i = true := by rw [← ho]; simpa using he
    have hx := Lib.index_first att N7 hj
    rw [if_pos he, hx, if_pos att, sto, if_pos ⟨by omega, by omega⟩, sb, DU, if_pos ⟨by omega, by omega⟩, sb]; rfl
   ·have N7 : Lib.occAt s [58, 58] i = false := by rw [← ho, beq_eq_false_iff_ne]; exact he
    rw [if_neg he]
    refine A3 s hs g (i + 1) att att fun j q => ?_
    by_cases e : j = i
    ·subst e; exact N7
    ·exact hj j att
  ·rw [if_neg att, Lib.index_none (s := s) (sub := [58, 58]) fun j q => by
    by_cases e : j < i
    ·exact hj j e
    ·exact vd atv atx]
   rfl
def t21 (t : ar) : Bool := (Lib.cut t [58, 58]).2.2 && ((good (Lib.cut t [58, 58]).1 || (Lib.cut t [58, 58]).1 == ([115, 116, 97, 116, 105, 99] : ar)) && good (Lib.cut t [58, 58]).2.1)
theorem J9 : good [] = false := by
 have h := tH []
 unfold a8 kx gx at h
 rw [if_pos atB, cu, if_neg atB, sb, sb, if_pos atB, sb, if_neg atB] at h
 injection h with h; exact h.symm
theorem Ka (s : ar) (hs : s.length ≤ 4611686018427387904) : ∃ a b, j7 s = some (a, b) ∧ t21 s = ((good a || a == ([115, 116, 97, 116, 105, 99] : ar)) && good b) := by
 have h := A3 s hs s.length 0 att att (fun j q => by omega)
 rw [show ((0 : Nat) : Int) = 0 from rfl] at h
 unfold j7
 rw [h, sb]
 unfold t21 Lib.cut
 by_cases hc : 0 ≤ Lib.index s [58, 58]
 ·rw [if_pos hc, if_pos hc]
  exact ⟨_, _, rfl, by rw [ase]; rfl⟩
 ·rw [if_neg hc, if_neg hc]
  exact ⟨_, _, rfl, by simp [J9]⟩
theorem E9 (s : ar) (hs : s.length < 4294967281) : jY s = some (t21 s) := by
 unfold jY nA t21
 rw [if_pos hs, sb]
 generalize Lib.cut s [58, 58] = c
 obtain ⟨a, b, x⟩ := c
 cases x
 ·rfl
 ·simp only [tH, sb, if_true, ase]
  by_cases h : a = ([115, 116, 97, 116, 105, 99] : ar)
  ·rw [if_pos h, h]; simp
  ·rw [if_neg h]
   cases good a <;> simp [h]
theorem contains_eq (s : ar) (hs : s.length < 4294967281) : jX s [60, 63] = some (decide (0 ≤ Lib.index s [60, 63])) := if_pos hs
set_option maxRecDepth 100000
def p6 (k m : Int) : Bool :=
 if k = 1 then decide (0 ≤ m ∧ m ≤ 1000000000) else if k = 3 then decide (0 ≤ m ∧ m ≤ 2) else if k = 9 then decide (1 ≤ m ∧ m ≤ 2) else if k = 10 then decide (1 ≤ m ∧ m ≤ 15)
 else if k = 54 then decide (0 ≤ m ∧ m ≤ 1) else if k = 55 then decide (0 ≤ m ∧ m ≤ 3) else m == 0
def TK : List Int := [4, 8, 17, 18, 20, 40, 44, 49, 50, 51, 52, 53, 54, 55]
def p7 (k : Int) (t : ar) : Bool :=
 if k = 2 ∨ k = 47 then decide ((t.length : Int) ≤ 400) else if TK.contains k then good t else if k = 22 then good t || t == ([115, 116, 97, 116, 105, 99] : ar) else if k = 21 then t21 t
 else if k = 31 then t31 t else t == ([] : ar)
def kds : List Int := [1, 2, 3, 4, 8, 9, 10, 17, 18, 20, 21, 22, 31, 40, 44, 47, 49, 50, 51, 52, 53, 54, 55]
theorem sK (k m : Int) (t : ar) (ks : List ae) (hs : t.length ≤ 4611686018427387904) : cW (.mk k m t ks) = some (p6 k m, p7 k t) := by
 unfold cW
 simp only [ae.mT, ae.nG, ae.lG, ae.j8]
 by_cases h : k ∈ kds
 ·simp only [kds, aqY, asH, or_false] at h
  rcases h with h | h | h | h | h | h | h | h | h | h | h | h | h | h | h | h | h | h | h | h | h | h | h <;> subst h
  case inr.inr.inr.inr.inr.inr.inr.inr.inr.inr.inl =>
   obtain ⟨a, b, e1, e2⟩ := Ka t hs
   simp only [Int.reduceEq, if_false, if_true, e1, sb, J2, p6, p7, TK, Int.reduceBEq, aqZ, e2]
   simp only [arv, arw, Int.reduceBEq, aru, or_false, aqZ, if_false]
   cases good a
   ·by_cases q : a = ([115, 116, 97, 116, 105, 99] : ar)
    ·rw [if_neg atv, if_pos q, sb, q]; rfl
    ·rw [if_neg atv, if_neg q, sb]; simp [q]
   ·rw [if_pos rfl, sb]; rfl
  case inr.inr.inr.inr.inr.inr.inr.inr.inr.inr.inr.inr.inl =>
   have := Za (.mk 31 m t ks) hs
   simp only [ae.nG, ae.lG] at this
   simp only [Int.reduceEq, if_false, sb, Int.reduceBEq, aqZ, if_true, this]
   rfl
  all_goals
   simp only [Int.reduceEq, if_false, if_true, nF, sb, J2, p6, p7, TK, Int.reduceBEq, aqZ, or_false, false_or, or_true, true_or]
   try simp only [arv, arw, Int.reduceBEq, aru, arL, arQ, or_false, aqZ, if_false, if_true]
   try (cases good t <;> rfl)
 ·simp only [kds, aqY, asH, or_false, not_or] at h
  obtain ⟨_, _, _, _, _, _, _, _, _, _, _, _, _, _, _, _, _, _, _, _, _, _, _⟩ := h
  simp only [*, if_false, sb, p6, p7, TK, arv, arw, beq_eq_false_iff_ne, arC, beq_iff_eq, aqZ, or_self, or_false, ne_eq, not_false_eq_true, not_true_eq_false]
set_option maxRecDepth 100000
def Ns (b : Bool) : Unit ⊕ Bool := bif b then .inl () else .inr false
def ob2 (b : Bool) : Unit ⊕ (Unit ⊕ Bool) := bif b then .inl () else .inr (.inr false)
mutual
def xD : ae → Bool | .mk k _ _ ks => if k = 7 ∧ ks.length = 2 then aoS ks else k == 4 || k == 8
def aoS : List ae → Bool | [] => false | x :: _ => xD x
end
section
variable (E S : ae → Bool)
def bl (x : ae) : Bool := x.ai == 48 && S x
def A4 (x : ae) : Bool := x.ai == 6 && (x.aD == 0 && (x.aj == ([] : ar) && (decide (1 ≤ (x.ah.length : Int) ∧ (x.ah.length : Int) ≤ 2) && x.ah.all E)))
def ve (a : Bool) : Bool → List ae → Bool
 | _, [] => true
 | b, x :: r => ((x.ai == 25 && a) || (x.ai == 24 && !b)) && (decide (0 ≤ x.aD ∧ x.aD ≤ 1) && (good x.aj && ((x.ah.length : Int) == 0 && ve a (b || x.ai == 25) r)))
def fU (a : Bool) (ks : List ae) : Bool := match ks.getLast? with
 | none => false
 | some x => ve a false ks.dropLast && bl S x
def gE (k : Int) (ks : List ae) : Bool :=
 if [1, 2, 3, 4].contains k then (ks.length : Int) == 0
 else if k = 5 then ks.all (A4 E)
 else if [8, 9].contains k then (match ks with | [a] => E a | _ => false)
 else if [7, 10, 11, 12, 13].contains k then (match ks with | [a, b] => E a && E b | _ => false)
 else if k = 14 then (match ks with | [a, b, c] => E a && (E b && E c) | _ => false)
 else if [15, 16].contains k then (match ks with | [a, b] => xD a && (E a && E b) | _ => false)
 else if k = 17 then (match ks with | [a] => a.ai == 4 && E a | _ => false)
 else if [18, 21, 22].contains k then ks.all E
 else if [19, 20].contains k then (match ks with | [] => false | a :: r => E a && r.all E)
 else if k = 23 then fU S true ks else false
def fE (n : ae) : Bool := p6 n.ai n.aD && (p7 n.ai n.aj && gE E S n.ai n.ah)
def cat (x : ae) : Bool := x.ai == 44 && (x.aD == 0 && (good x.aj && (match x.ah with | [a, b] => a.ai == 4 && (E a && bl S b) | _ => false)))
def fin (x : ae) : Bool := x.ai == 45 && (x.aD == 0 && (x.aj == ([] : ar) && (match x.ah with | [a] => bl S a | _ => false)))
def gS (k : Int) (ks : List ae) : Bool :=
 if [31, 37, 38, 40, 47].contains k then (ks.length : Int) == 0
 else if [32, 33, 42].contains k then (match ks with | [a] => E a | _ => false)
 else if k = 39 then (match ks with | [] => true | [a] => E a | _ => false)
 else if k = 41 then (match ks with | [a] => xD a && E a | _ => false)
 else if k = 34 then (match ks with | [a, b] => E a && bl S b | [a, b, c] => E a && (bl S b && bl S c) | _ => false)
 else if k = 35 then (match ks with | [a, b] => E a && bl S b | _ => false)
 else if k = 36 then (match ks with | [a, b, c] => E a && (E b && (b.ai == 4 && bl S c)) | [a, b, c, d] => E a && (E b && (E c && (b.ai == 4 && (c.ai == 4 && bl S d)))) | _ => false)
 else if k = 46 then (match ks with | [a] => E a | [a, b] => E a && (E b && a.ai == 4) | _ => false)
 else if k = 48 then ks.all S
 else if k = 43 then (match ks with | [a, b] => bl S a && (cat E S b || fin S b) | [a, b, c] => bl S a && (cat E S b && fin S c) | _ => false) else false
def fS (n : ae) : Bool := p6 n.ai n.aD && (p7 n.ai n.aj && gS E S n.ai n.ah)
end
theorem aW {a : ae} {r : List ae} : idx (a :: r) 0 = some a := by unfold idx; rw [if_pos ⟨by omega, by simp⟩]; rfl
theorem eK {a b : ae} {r : List ae} : idx (a :: b :: r) 1 = some b := by unfold idx; rw [if_pos ⟨by omega, by simp; omega⟩]; rfl
theorem lb {a b c : ae} {r : List ae} : idx (a :: b :: c :: r) 2 = some c := by unfold idx; rw [if_pos ⟨by omega, by simp; omega⟩]; rfl
theorem Kb {a b c d : ae} {r : List ae} : idx (a :: b :: c :: d :: r) 3 = some d := by unfold idx; rw [if_pos ⟨by omega, by simp; omega⟩]; rfl
section
variable {E S : ae → Bool}
theorem DV (l : List ae) (h : ∀ x ∈ l, aQ x = some (E x)) (hl : l.length < 4611686018427387904) : ∀ f i : Nat, l.length ≤ i + f → iL l (i : Int) = some (Ns ((l.drop i).all E))
 | f, i, hf => by
  rw [iL]
  by_cases hc : i < l.length
  ·obtain ⟨g, rfl⟩ : ∃ g, f = g + 1 := ⟨f - 1, by omega⟩
   rw [if_pos att, bC hc, sb, h _ (arb hc), sb, bU att, DV l h hl g (i + 1) att, aqX hc, are]
   cases E l[i] <;> rfl
  ·rw [if_neg att, aqU att]; rfl
theorem rH (l : List ae) (h : ∀ x ∈ l, aQ x = some (E x)) (hl : l.length < 4611686018427387904) : dk l 0 = some (l.all E) := by
 have := DV l h hl l.length 0 att
 rw [show ((0 : Nat) : Int) = 0 from rfl, ara] at this
 rw [dk, this, sb]
 cases l.all E <;> rfl
theorem DW (n : ae) (h : ∀ x ∈ n.ah, dm x = some (S x)) (hl : n.ah.length < 4611686018427387904) : ∀ f i : Nat, n.ah.length ≤ i + f → gR n (i : Int) = some (Ns ((n.ah.drop i).all S))
 | f, i, hf => by
  rw [gR]
  by_cases hc : i < n.ah.length
  ·obtain ⟨g, rfl⟩ : ∃ g, f = g + 1 := ⟨f - 1, by omega⟩
   rw [if_pos att, bC hc, sb, h _ (arb hc), sb, bU att, DW n h hl g (i + 1) att, aqX hc, are]
   cases S n.ah[i] <;> rfl
  ·rw [if_neg att, aqU att]; rfl
theorem DX (n : ae) (h : ∀ x ∈ n.ah, dm x = some (S x)) (hl : n.ah.length < 4611686018427387904) : a7 n = some (n.ai == 48 && (n.aD == 0 && (n.aj == ([] : ar) && n.ah.all S))) := by
 have := DW n h hl n.ah.length 0 att
 rw [show ((0 : Nat) : Int) = 0 from rfl, ara] at this
 rw [a7, this, sb]
 by_cases h1 : n.ai = 48
 ·rw [if_pos h1, h1]
  by_cases h2 : n.aD = 0
  ·rw [if_pos h2, h2]
   by_cases h3 : n.aj = ([] : ar)
   ·rw [if_pos h3, h3]
    cases n.ah.all S <;> rfl
   ·rw [if_neg h3]; simp [h3]
  ·rw [if_neg h2]; simp [h2]
 ·rw [if_neg h1]; simp [h1]
theorem aoT (n : ae) (h : n.ai = 48) : fS E S n = (n.aD == 0 && (n.aj == ([] : ar) && n.ah.all S)) := by
 unfold fS gS p6 p7 TK
 rw [h]; rfl
theorem sbl (n : ae) (h : ∀ x ∈ n.ah, dm x = some (S x)) (hl : n.ah.length < 4611686018427387904) (hS : S n = fS E S n) : a7 n = some (bl S n) := by
 rw [DX n h hl, bl]
 by_cases h1 : n.ai = 48
 ·rw [hS, aoT n h1]
 ·rw [beq_eq_false_iff_ne.2 h1]; rfl
theorem Kc (n : ae) (h : ∀ x ∈ n.ah, ∀ y ∈ x.ah, aQ y = some (E y)) (ns : ∀ x ∈ n.ah, x.ah.length < 4611686018427387904) (hl : n.ah.length < 4611686018427387904) : ∀ f i : Nat, n.ah.length ≤ i + f → iK n (i : Int) = some (ob2 ((n.ah.drop i).all (A4 E)))
 | f, i, hf => by
  rw [iK]
  by_cases hc : i < n.ah.length
  ·obtain ⟨g, rfl⟩ : ∃ g, f = g + 1 := ⟨f - 1, by omega⟩
   rw [if_pos att, bC hc, sb, nF, sb, rH _ (h _ (arb hc)) (ns _ (arb hc)), sb, bU att, Kc n h ns hl g (i + 1) att, aqX hc, are]
   generalize n.ah[i] = x
   unfold A4
   by_cases h1 : x.ai = 6
   ·by_cases h2 : x.aD = 0
    ·by_cases h3 : x.aj = ([] : ar)
     ·rw [if_pos h1, if_pos h2, if_pos h3, h1, h2, h3]
      cases decide (1 ≤ (x.ah.length : Int) ∧ (x.ah.length : Int) ≤ 2)
      ·rfl
      ·cases x.ah.all E <;> rfl
     ·rw [if_pos h1, if_pos h2, if_neg h3, beq_eq_false_iff_ne.2 h3, arV, arJ, arJ]; rfl
    ·rw [if_pos h1, if_neg h2, beq_eq_false_iff_ne.2 h2, arV, arJ]; rfl
   ·rw [if_neg h1, beq_eq_false_iff_ne.2 h1]; rfl
  ·rw [if_neg att, aqU att]; rfl
theorem oP {l : List ae} {x : ae} : idx (l ++ [x]) (l.length : Int) = some x := by
 rw [bC atv]; simp
theorem DY (a : Bool) (l : List ae) (z : ae) (hl : l.length < 4611686018427387904) : ∀ (f i : Nat) (b : Bool), l.length ≤ i + f → dQ (l ++ [z]) a b (i : Int) = some (Ns (ve a b (l.drop i)))
 | f, i, b, hf => by
  rw [dQ, kL (x := (((l ++ [z]).length : Int)) - 1) (n := l.length) atv att]
  by_cases hc : i < l.length
  ·obtain ⟨g, rfl⟩ : ∃ g, f = g + 1 := ⟨f - 1, by omega⟩
   have hd : (l ++ [z])[i]'atx = l[i] := ast hc
   have IH := fun b' => DY a l z hl g (i + 1) b' att
   rw [if_pos att, bC atx, sb, hd, aqX hc]
   simp only [nF, sb, J2, bU (show i < 9223372036854775807 by omega), IH, ve]
   generalize l[i] = x
   have e0 : (if (x.ah.length : Int) > 0 then (some (.inr false) : Option (Unit ⊕ Bool)) else some (Ns (ve a (b || x.ai == 25) (l.drop (i + 1))))) = some (Ns ((x.ah.length : Int) == 0 && ve a (b || x.ai == 25) (l.drop (i + 1)))) := by
    by_cases h : (x.ah.length : Int) > 0
    ·rw [if_pos h, beq_eq_false_iff_ne.2 att]; rfl
    ·rw [if_neg h, show (x.ah.length : Int) = 0 by omega]; rfl
   by_cases h1 : x.ai = 25
   ·rw [if_pos h1, sb, if_neg att, if_pos h1]
    cases a
    ·rw [h1]; rfl
    ·rw [h1] at e0
     simp only [Int.reduceBEq, arL, asi] at e0
     rw [h1]
     cases decide (0 ≤ x.aD ∧ x.aD ≤ 1)
     ·rfl
     ·cases good x.aj
      ·rfl
      ·simpa using e0
   ·rw [if_neg h1, sb]
    have h1' : (x.ai == 25) = false := beq_eq_false_iff_ne.2 h1
    rw [h1', aru] at e0
    rw [h1', aru, arV, ary]
    by_cases h2 : x.ai = 24
    ·rw [if_pos h2, h2]
     cases b
     ·cases decide (0 ≤ x.aD ∧ x.aD ≤ 1)
      ·rfl
      ·cases good x.aj
       ·rfl
       ·simpa using e0
     ·rw [if_pos rfl, if_neg atB]; rfl
    ·rw [if_neg h2, if_neg h1, beq_eq_false_iff_ne.2 h2]; rfl
  ·rw [if_neg att, aqU att]; rfl
theorem Oq (a : Bool) (ks : List ae) (hl : ks.length < 4611686018427387904) (hB : ∀ x ∈ ks, a7 x = some (bl S x)) : kI ks a = some (fU S a ks) := by
 rcases asj ks with rfl | ⟨l, z, rfl⟩
 ·rw [kI, dQ]; rfl
 ·rw [asl] at hl hB ⊢
  have hl' : l.length < 4611686018427387904 := by simp at hl; omega
  have := DY a l z hl' l.length 0 false att
  rw [show ((0 : Nat) : Int) = 0 from rfl, ara] at this
  rw [kI, this, sb, kL (x := (((l ++ [z]).length : Int)) - 1) (n := l.length) atv att, fU, asz, asA]
  show _ = some (ve a false l && bl S z)
  cases ve a false l
  ·rfl
  ·show (if (l.length : Int) ≥ 0 then _ else _) = _
   rw [if_pos att, oP, sb, hB z atv, sb]; rfl
end
set_option maxRecDepth 100000
mutual
theorem stg : ∀ (k m : Int) (t : ar) (ks : List ae), ∃ a b c d, gy k m t ks = some (a, b, c, d) ∧ xD (.mk k m t ks) = (a == 4 || a == 8)
 | k, m, t, ks => by
  rw [gy, xD]
  by_cases h : k = 7
  ·by_cases h2 : ks.length = 2
   ·rw [if_pos h, if_pos att, if_pos ⟨h, h2⟩]
    match ks, h2 with
    | [.mk k1 m1 t1 ks1, y], _ => rw [aW, sb]; exact stg k1 m1 t1 ks1
   ·rw [if_pos h, if_neg att, if_neg (fun q => h2 q.2)]; exact ⟨_, _, _, _, rfl, rfl⟩
  ·rw [if_neg h, if_neg (fun q => h q.1)]; exact ⟨_, _, _, _, rfl, rfl⟩
end
theorem Kd (x : ae) : ia x = some (xD x) := by
 cases x with
 | mk k m t ks =>
  obtain ⟨a, b, c, d, h1, h2⟩ := stg k m t ks
  unfold ia
  simp only [ae.mT, ae.nG, ae.lG, ae.j8, h1, sb]
  rw [h2]
  by_cases h : a = 4
  ·rw [if_pos h, h]; rfl
  ·rw [if_neg h, beq_eq_false_iff_ne.2 h, ary]
section
variable {E S : ae → Bool}
theorem Ot (k m : Int) (t : ar) (ks : List ae) (ht : t.length ≤ 4611686018427387904) (hl : ks.length < 4611686018427387904) (ns : ∀ x ∈ ks, x.ah.length < 4611686018427387904)
  (HE : ∀ x ∈ ks, aQ x = some (E x)) (Fa : ∀ x ∈ ks, ∀ y ∈ x.ah, aQ y = some (E y)) (HB : ∀ x ∈ ks, a7 x = some (bl S x)) : aQ (.mk k m t ks) = some (fE E S (.mk k m t ks)) := by
 rw [aQ, sK _ _ _ _ ht, sb, fE]
 simp only [ae.mT, ae.nG, ae.lG, ae.j8]
 cases p6 k m
 ·rfl
 cases p7 k t
 ·rfl
 rw [if_pos rfl, if_pos rfl]
 show _ = some (gE E S k ks)
 have he := rH ks HE hl
 by_cases hk : 1 ≤ k ∧ k ≤ 23
 ·rcases (by omega : k = 1 ∨ k = 2 ∨ k = 3 ∨ k = 4 ∨ k = 5 ∨ k = 6 ∨ k = 7 ∨ k = 8 ∨ k = 9 ∨ k = 10 ∨ k = 11 ∨ k = 12 ∨ k = 13 ∨ k = 14 ∨ k = 15 ∨ k = 16 ∨ k = 17 ∨ k = 18 ∨ k = 19 ∨ k = 20 ∨ k = 21 ∨ k = 22 ∨ k = 23) with h | h | h | h | h | h | h | h | h | h | h | h | h | h | h | h | h | h | h | h | h | h | h <;> subst h <;>
  simp only [gE, arv, arw, Int.reduceEq, Int.reduceBEq, if_true, if_false, aru, arL, arQ, ary, aqZ, sb, he, Kd] <;> try rfl
  case inr.inr.inr.inr.inl =>
   have h0 := Kc (.mk 5 m t ks) Fa ns hl ks.length 0 (by show ks.length ≤ _; omega)
   rw [show ((0 : Nat) : Int) = 0 from rfl, ara, ae.j8] at h0
   rw [h0, sb]
   cases ks.all (A4 E) <;> rfl
  all_goals
   first
    | (rw [Oq _ _ hl HB]; rfl)
    | (match ks, HE with
     | [], _ => first | rfl | (rw [if_neg atB]) | (rw [if_neg atB]; rfl)
     | [a], HE => simp only [aW, eK, lb, sb, HE a atv, are, arB, arz, an, mg]; first | done | rfl | (rw [if_pos atB]; done) | (rw [if_neg atB]; done) | (by_cases q : a.ai = 4 <;> simp [q]; done)
     | [a, b], HE => simp only [aW, eK, lb, sb, HE a atv, HE b atv, are, arB, arz, an, mg]; first | done | rfl | (rw [if_pos atB]; done) | (rw [if_neg atB]; done) | (rw [if_pos atB]; cases xD a <;> rfl)
     | [a, b, c], HE => simp only [an, mg, are, arB, arz]; first | done | rfl | (rw [if_pos atB]; done) | (rw [if_neg atB]; done)
     | a :: b :: c :: d :: r, HE => simp only [an, are]; first | done | rfl | (rw [if_pos att]; rfl) | (rw [if_neg att]; done) | (rw [if_neg att]; rfl))
 ·have h1 : ¬ k = 1 := by omega
  have h2 : ¬ k = 2 := by omega
  have h3 : ¬ k = 3 := by omega
  have h4 : ¬ k = 4 := by omega
  have h5 : ¬ k = 5 := by omega
  have h7 : ¬ k = 7 := by omega
  have h8 : ¬ k = 8 := by omega
  have h9 : ¬ k = 9 := by omega
  have yQ : ¬ k = 10 := by omega
  have Fb : ¬ k = 11 := by omega
  have Fc : ¬ k = 12 := by omega
  have Fe : ¬ k = 13 := by omega
  have Ke : ¬ k = 14 := by omega
  have Kf : ¬ k = 15 := by omega
  have Kg : ¬ k = 16 := by omega
  have Ou : ¬ k = 17 := by omega
  have h18 : ¬ k = 18 := by omega
  have h19 : ¬ k = 19 := by omega
  have h20 : ¬ k = 20 := by omega
  have h21 : ¬ k = 21 := by omega
  have h22 : ¬ k = 22 := by omega
  have h23 : ¬ k = 23 := by omega
  simp only [gE, arv, arw, if_true, if_false, aru, arL, arQ, ary, aqZ, sb, *, beq_eq_false_iff_ne.2 h1, beq_eq_false_iff_ne.2 h2, beq_eq_false_iff_ne.2 h3, beq_eq_false_iff_ne.2 h4, beq_eq_false_iff_ne.2 h7, beq_eq_false_iff_ne.2 h8, beq_eq_false_iff_ne.2 h9, beq_eq_false_iff_ne.2 yQ, beq_eq_false_iff_ne.2 Fb, beq_eq_false_iff_ne.2 Fc, beq_eq_false_iff_ne.2 Fe, beq_eq_false_iff_ne.2 Kf, beq_eq_false_iff_ne.2 Kg, beq_eq_false_iff_ne.2 h18, beq_eq_false_iff_ne.2 h19, beq_eq_false_iff_ne.2 h20, beq_eq_false_iff_ne.2 h21, beq_eq_false_iff_ne.2 h22]
end
set_option maxRecDepth 100000
theorem Ff (x : ae) (hs : x.aj.length ≤ 4611686018427387904) : cW x = some (p6 x.ai x.aD, p7 x.ai x.aj) := by
 cases x with
 | mk k m t ks => exact sK k m t ks hs
section
variable {E S : ae → Bool}
theorem Zb (x : ae) (h : x.ai = 44) : cat E S x = (p6 44 x.aD && (p7 44 x.aj && (match x.ah with | [a, b] => a.ai == 4 && (E a && bl S b) | _ => false))) := by
 unfold cat; rw [h]; rfl
theorem Zc (x : ae) (h : x.ai = 45) : fin S x = (p6 45 x.aD && (p7 45 x.aj && (match x.ah with | [a] => bl S a | _ => false))) := by
 unfold fin; rw [h]; rfl
theorem vg (n : ae) (i : Nat) (hi : i < n.ah.length) (hb : n.ah.length < 4611686018427387904) (ht : n.ah[i].aj.length ≤ 4611686018427387904)
  (HE : ∀ y ∈ n.ah[i].ah, aQ y = some (E y)) (HB : ∀ y ∈ n.ah[i].ah, a7 y = some (bl S y)) :
  c8 n (i : Int) = bif ((decide (i = 1) && cat E S n.ah[i]) || (decide (i + 1 = n.ah.length) && fin S n.ah[i])) then c8 n ((i + 1 : Nat) : Int) else some (.inr (.inr false)) := by
 rw [c8, if_pos att, bC hi, sb, Ff _ ht, sb, bU att, kL (x := (n.ah.length : Int) - 1) (n := n.ah.length - 1) att att]
 generalize n.ah[i] = x at HE HB ⊢
 show (Option.bind _ _) = _
 by_cases h4 : x.ai = 44
 ·rw [if_pos h4, h4, Zb x h4, show fin S x = false by unfold fin; rw [h4]; rfl, arJ, aru]
  by_cases h1 : i = 1
  ·rw [if_pos att, decide_eq_true h1, ase]
   match h : x.ah, HE, HB with
   | [], _, _ => cases p6 44 x.aD <;> cases p7 44 x.aj <;> rfl
   | [a], _, _ => cases p6 44 x.aD <;> cases p7 44 x.aj <;> rfl
   | a :: b :: c :: r, _, _ =>
    rw [if_neg atz]
    cases p6 44 x.aD <;> cases p7 44 x.aj <;> rfl
   | [a, b], HE, HB =>
    rw [if_pos (by rfl), aW, eK, sb, sb, sb, HE a atv, HB b atv, sb, sb]
    show _ = (bif (p6 44 x.aD && (p7 44 x.aj && (a.ai == 4 && (E a && bl S b)))) then _ else _)
    by_cases h5 : a.ai = 4
    ·rw [if_pos h5, h5]
     cases p6 44 x.aD <;> cases p7 44 x.aj <;> cases E a <;> cases bl S b <;> rfl
    ·rw [if_neg h5, beq_eq_false_iff_ne.2 h5]
     cases p6 44 x.aD <;> cases p7 44 x.aj <;> rfl
  ·rw [if_neg att, decide_eq_false h1, arV]
   cases p6 44 x.aD <;> cases p7 44 x.aj <;> rfl
 ·by_cases h5 : x.ai = 45
  ·rw [if_neg h4, h5, Zc x h5, show cat E S x = false by unfold cat; rw [h5]; rfl, arJ, ary]
   by_cases h1 : i + 1 = n.ah.length
   ·rw [if_pos rfl, if_pos att, decide_eq_true h1, ase]
    match h : x.ah, HE, HB with
    | [], _, _ => cases p6 45 x.aD <;> cases p7 45 x.aj <;> rfl
    | a :: b :: r, _, _ =>
     rw [if_neg atz]
     cases p6 45 x.aD <;> cases p7 45 x.aj <;> rfl
    | [a], HE, HB =>
     rw [if_pos (by rfl), aW, sb, HB a atv, sb]
     show _ = (bif (p6 45 x.aD && (p7 45 x.aj && bl S a)) then _ else _)
     cases p6 45 x.aD <;> cases p7 45 x.aj <;> cases bl S a <;> rfl
   ·rw [if_pos rfl, if_neg att, decide_eq_false h1, arV]
    cases p6 45 x.aD <;> cases p7 45 x.aj <;> rfl
  ·rw [if_neg h4, if_neg h5, show cat E S x = false by unfold cat; rw [beq_eq_false_iff_ne.2 h4]; rfl, show fin S x = false by unfold fin; rw [beq_eq_false_iff_ne.2 h5]; rfl, arJ, arJ]
   cases p6 x.ai x.aD <;> cases p7 x.ai x.aj <;> rfl
theorem DZ (n : ae) (i : Nat) (hi : i = n.ah.length) : c8 n (i : Int) = some (.inl ()) := by
 rw [c8, if_neg att]
theorem Ov (k m : Int) (t : ar) (ks : List ae) (ht : t.length ≤ 4611686018427387904) (hl : ks.length < 4611686018427387904) (Ow : ∀ x ∈ ks, x.aj.length ≤ 4611686018427387904)
  (HE : ∀ x ∈ ks, aQ x = some (E x)) (Fa : ∀ x ∈ ks, ∀ y ∈ x.ah, aQ y = some (E y)) (HB : ∀ x ∈ ks, a7 x = some (bl S x)) (TL : ∀ x ∈ ks, ∀ y ∈ x.ah, a7 y = some (bl S y))
  (HS : ∀ x ∈ ks, dm x = some (S x)) : dm (.mk k m t ks) = some (fS E S (.mk k m t ks)) := by
 rw [dm, sK _ _ _ _ ht, sb, fS]
 simp only [ae.mT, ae.nG, ae.lG, ae.j8]
 cases hN : p6 k m
 ·rfl
 cases hT : p7 k t
 ·rfl
 rw [if_pos rfl, if_pos rfl]
 show _ = some (gS E S k ks)
 have he := rH ks HE hl
 by_cases hk : 31 ≤ k ∧ k ≤ 48
 ·rcases (by omega : k = 31 ∨ k = 32 ∨ k = 33 ∨ k = 34 ∨ k = 35 ∨ k = 36 ∨ k = 37 ∨ k = 38 ∨ k = 39 ∨ k = 40 ∨ k = 41 ∨ k = 42 ∨ k = 43 ∨ k = 44 ∨ k = 45 ∨ k = 46 ∨ k = 47 ∨ k = 48) with h | h | h | h | h | h | h | h | h | h | h | h | h | h | h | h | h | h <;> subst h <;>
  simp only [gS, arv, arw, Int.reduceEq, Int.reduceBEq, if_true, if_false, aru, arL, arQ, ary, aqZ, sb, he, Kd, nF] <;> try rfl
  case inr.inr.inr.inr.inr.inr.inr.inr.inr.inr.inr.inr.inl =>
   match ks, HB, TL, Fa, Ow, hl with
   | [], _, _, _, _, _ => rfl
   | [a], _, _, _, _, _ => rfl
   | [a, b], HB, TL, Fa, Ow, hl =>
    have h1 := vg (E := E) (S := S) (.mk 43 m t [a, b]) 1 atv hl (Ow b atv) (Fa b atv) (TL b atv)
    rw [DZ _ 2 rfl] at h1
    simp only [aW, sb, HB a atv]
    rw [show (((1 : Nat) : Int)) = 1 from rfl] at h1
    rw [h1]
    simp only [ae.j8, an, mg, List.getElem_cons_succ, asw, decide_true, ase]
    cases bl S a <;> cases cat E S b <;> cases fin S b <;> rfl
   | [a, b, c], HB, TL, Fa, Ow, hl =>
    have h1 := vg (E := E) (S := S) (.mk 43 m t [a, b, c]) 1 atv hl (Ow b atv) (Fa b atv) (TL b atv)
    have h2 := vg (E := E) (S := S) (.mk 43 m t [a, b, c]) 2 atv hl (Ow c atv) (Fa c atv) (TL c atv)
    rw [DZ _ 3 rfl] at h2
    rw [h2] at h1
    simp only [aW, sb, HB a atv]
    rw [show (((1 : Nat) : Int)) = 1 from rfl] at h1
    rw [h1]
    simp only [ae.j8, an, mg, List.getElem_cons_succ, asw, decide_true, ase]
    cases bl S a <;> cases cat E S b <;> cases fin S b <;> cases fin S c <;> rfl
   | a :: b :: c :: d :: r, _, _, _, _, _ =>
    rw [decide_eq_false atz]; rfl
  case inr.inr.inr.inr.inr.inr.inr.inr.inr.inr.inr.inr.inr.inr.inr.inr.inr =>
   have h0 := DX (.mk 48 m t ks) HS hl
   simp only [ae.mT, ae.nG, ae.lG, ae.j8] at h0
   have e1 : (m == 0) = true := hN
   have e2 : (t == ([] : ar)) = true := hT
   rw [e1, e2] at h0
   rw [h0]; rfl
  all_goals
   match ks, HE, HB, HS with
   | [], _, _, _ => first | rfl | (rw [if_neg atB]; done) | (rw [if_neg atB]; rfl) | (rw [if_pos atB]; rfl)
   | [a], HE, HB, HS =>
    simp only [aW, sb, HE a atv, are, arB, arz, an, mg]
    first | done | rfl | (cases E a <;> rfl) | (cases xD a <;> rfl) | (cases xD a <;> cases E a <;> rfl)
   | [a, b], HE, HB, HS =>
    simp only [aW, eK, sb, HE a atv, HE b atv, HB b atv, are, arB, arz, an, mg]
    first
     | done
     | rfl
     | (rw [show aT (((0 + 1 + 1 : Nat) : Int) - 1) = 1 from rfl, eK, sb, HB b atv, sb]; cases E a <;> cases bl S b <;> rfl)
     | (cases E a <;> cases bl S b <;> rfl)
     | (cases E a <;> cases E b <;> rfl)
   | [a, b, c], HE, HB, HS =>
    try dsimp only
    first
     | rfl
     | (rw [show aT ((([a, b, c] : List ae).length : Int) - 1) = 2 from rfl, lb, aW, eK, sb, sb, sb, HE a atv, HB b atv, HB c atv, sb, sb, sb]; cases E a <;> cases bl S b <;> cases bl S c <;> rfl)
     | (
      rw [show aT ((([a, b, c] : List ae).length : Int) - 1) = 2 from rfl, show aT ((([a, b, c] : List ae).length : Int) - 2) = 1 from rfl, lb, eK, sb, sb, sb, HB c atv, sb, show G4 [a, b, c] 2 = some [a, b] from rfl, sb, rH [a, b] (fun x h => HE x (by simp at h ⊢; rcases h with h | h <;> simp [h])) atv]
      by_cases q : b.ai = 4
      ·rw [if_pos q, q]; simp only [are, arB, arz]; cases E a <;> cases E b <;> cases bl S c <;> rfl
      ·rw [if_neg q, beq_eq_false_iff_ne.2 q]; simp only [are, arB, arz]; cases E a <;> cases E b <;> cases bl S c <;> rfl)
   | [a, b, c, d], HE, HB, HS =>
    try dsimp only
    first
     | rfl
     | (
      rw [show aT ((([a, b, c, d] : List ae).length : Int) - 1) = 3 from rfl, show aT ((([a, b, c, d] : List ae).length : Int) - 2) = 2 from rfl, Kb, lb, eK, sb, sb, sb, HB d atv, sb, show G4 [a, b, c, d] 3 = some [a, b, c] from rfl, sb, rH [a, b, c] (fun x h => HE x (by simp at h ⊢; rcases h with h | h | h <;> simp [h])) atv]
      simp only [are, arB, arz]
      by_cases q : b.ai = 4
      ·by_cases q2 : c.ai = 4
       ·rw [if_pos q, if_pos q2, q, q2]; cases E a <;> cases E b <;> cases E c <;> cases bl S d <;> rfl
       ·rw [if_pos q, if_neg q2, q, beq_eq_false_iff_ne.2 q2]; cases E a <;> cases E b <;> cases E c <;> cases bl S d <;> rfl
      ·rw [if_neg q, beq_eq_false_iff_ne.2 q]; cases E a <;> cases E b <;> cases E c <;> cases bl S d <;> rfl)
   | a :: b :: c :: d :: e :: r, _, _, _ =>
    first
     | rfl
     | (rw [if_neg atz]; done)
     | (rw [if_neg atz]; rfl)
     | (rw [decide_eq_false atz]; rfl)
 ·have h31 : ¬ k = 31 := by omega
  have h32 : ¬ k = 32 := by omega
  have h33 : ¬ k = 33 := by omega
  have h34 : ¬ k = 34 := by omega
  have h35 : ¬ k = 35 := by omega
  have h36 : ¬ k = 36 := by omega
  have h37 : ¬ k = 37 := by omega
  have h38 : ¬ k = 38 := by omega
  have h39 : ¬ k = 39 := by omega
  have h40 : ¬ k = 40 := by omega
  have h41 : ¬ k = 41 := by omega
  have h42 : ¬ k = 42 := by omega
  have h43 : ¬ k = 43 := by omega
  have h46 : ¬ k = 46 := by omega
  have h47 : ¬ k = 47 := by omega
  have Ox : ¬ k = 48 := by omega
  simp only [gS, arv, arw, if_true, if_false, aru, arL, arQ, ary, aqZ, sb, *, beq_eq_false_iff_ne.2 h31, beq_eq_false_iff_ne.2 h32, beq_eq_false_iff_ne.2 h33, beq_eq_false_iff_ne.2 h37, beq_eq_false_iff_ne.2 h38, beq_eq_false_iff_ne.2 h40, beq_eq_false_iff_ne.2 h42, beq_eq_false_iff_ne.2 h47]
end
set_option maxRecDepth 100000
mutual
def wt : ae → Nat | .mk _ _ t k => t.length + k.length + G5 k
def G5 : List ae → Nat | [] => 0 | x :: r => wt x + G5 r
end
theorem A5 (n : ae) : wt n = n.aj.length + n.ah.length + G5 n.ah := by cases n; rfl
theorem D0 : ∀ (l : List ae) (x : ae), x ∈ l → wt x ≤ G5 l
 | y :: r, x, h => by
  rw [G5]
  rcases aqY.1 h with h | h
  ·subst h; omega
  ·have := D0 r x h; omega
theorem D1 : ∀ (l : List ae) (x : ae), x ∈ l → sz x ≤ ij l
 | y :: r, x, h => by
  rw [ij]
  rcases aqY.1 h with h | h
  ·subst h; omega
  ·have := D1 r x h; omega
mutual
theorem TM : ∀ n : ae, sz n ≤ 1 + wt n
 | .mk _ _ t k => by have := D2 k; rw [sz, wt]; omega
theorem D2 : ∀ l : List ae, ij l ≤ l.length + G5 l
 | [] => aqP _
 | x :: r => by have := TM x; have := D2 r; rw [ij, G5, an]; omega
end
def vE (n : ae) : Bool := (aQ n).getD false
def vS (n : ae) : Bool := (dm n).getD false
theorem dU {n x : ae} (h : x ∈ n.ah) : sz x < sz n := by have := D1 _ _ h; have := me n; omega
theorem ff {n x : ae} (h : x ∈ n.ah) : wt x ≤ wt n := by have := D0 _ _ h; have := A5 n; omega
theorem xE : ∀ (N : Nat) (n : ae), sz n < N → wt n ≤ 1048576 → (aQ n = some (vE n) ∧ vE n = fE vE vS n) ∧ (dm n = some (vS n) ∧ vS n = fS vE vS n)
 | 0, n, h, _ => by omega
 | N + 1, n, h, hw => by
  have hk : ∀ x ∈ n.ah, _ := fun x hx => xE N x atH atS
  have nu : ∀ x ∈ n.ah, ∀ y ∈ x.ah, _ := fun x hx y hy => xE N y atF atI
  have gL : ∀ x ∈ n.ah, ∀ y ∈ x.ah, ∀ z ∈ y.ah, _ := fun x hx y hy z hz => xE N z (by have := dU hx; have := dU hy; have := dU hz; omega) (by have := ff hx; have := ff hy; have := ff hz; omega)
  have bd : ∀ x : ae, wt x ≤ 1048576 → x.aj.length ≤ 4611686018427387904 ∧ x.ah.length < 4611686018427387904 := fun x hx => by have := A5 x; omega
  have w1 : ∀ x ∈ n.ah, wt x ≤ 1048576 := fun x hx => by have := ff hx; omega
  have w2 : ∀ x ∈ n.ah, ∀ y ∈ x.ah, wt y ≤ 1048576 := fun x hx y hy => by have := ff hx; have := ff hy; omega
  have HE : ∀ x ∈ n.ah, aQ x = some (vE x) := fun x hx => (hk x hx).1.1
  have Fa : ∀ x ∈ n.ah, ∀ y ∈ x.ah, aQ y = some (vE y) := fun x hx y hy => (nu x hx y hy).1.1
  have HS : ∀ x ∈ n.ah, dm x = some (vS x) := fun x hx => (hk x hx).2.1
  have HB : ∀ x ∈ n.ah, a7 x = some (bl vS x) := fun x hx => sbl x (fun y hy => (nu x hx y hy).2.1) (bd x (w1 x hx)).2 (hk x hx).2.2
  have TL : ∀ x ∈ n.ah, ∀ y ∈ x.ah, a7 y = some (bl vS y) := fun x hx y hy => sbl y (fun z hz => (gL x hx y hy z hz).2.1) (bd y (w2 x hx y hy)).2 (nu x hx y hy).2.2
  have e1 : aQ n = some (fE vE vS n) := by
   cases n with
   | mk k m t ks => exact Ot k m t ks (bd _ hw).1 (bd _ hw).2 (fun x hx => (bd x (w1 x hx)).2) HE Fa HB
  have e2 : dm n = some (fS vE vS n) := by
   cases n with
   | mk k m t ks => exact Ov k m t ks (bd _ hw).1 (bd _ hw).2 (fun x hx => (bd x (w1 x hx)).1) HE Fa HB TL HS
  have g1 : vE n = fE vE vS n := by rw [vE, e1]; rfl
  have g2 : vS n = fS vE vS n := by rw [vS, e2]; rfl
  exact ⟨⟨by rw [e1, g1], g1⟩, ⟨by rw [e2, g2], g2⟩⟩
theorem spE {n : ae} (h : wt n ≤ 1048576) : aQ n = some (vE n) := (xE _ n (arH _) h).1.1
theorem xF {n : ae} (h : wt n ≤ 1048576) : vE n = fE vE vS n := (xE _ n (arH _) h).1.2
theorem TN {n : ae} (h : wt n ≤ 1048576) : vS n = fS vE vS n := (xE _ n (arH _) h).2.2
set_option maxRecDepth 100000
theorem nest {c : Prop} [Decidable c] {b : Bool} : (if c then (some (.inr b) : Option (Unit ⊕ Bool)) else some (.inr false)) = some (.inr (decide c && b)) := by
 by_cases h : c <;> simp [h]
theorem aiM {c : Prop} [Decidable c] {b : Bool} : (if c then some b else some false) = some (decide c && b) := by
 by_cases h : c <;> simp [h]
theorem yR {α : Type} [BEq α] [LawfulBEq α] {a b : α} [Decidable (a = b)] : decide (a = b) = (a == b) := by
 by_cases h : a = b
 ·rw [decide_eq_true h, h, asi]
 ·rw [decide_eq_false h, beq_eq_false_iff_ne.2 h]
section
variable {E S : ae → Bool}
theorem ln1 (ks : List ae) : (((ks.length : Int) == 1) && ks.all E) = (match ks with | [a] => E a | _ => false) := by
 match ks with
 | [] => rfl
 | [a] => simp
 | a :: b :: r => rw [beq_eq_false_iff_ne.2 atz]; rfl
theorem ln2 (ks : List ae) : (((ks.length : Int) == 2) && ks.all E) = (match ks with | [a, b] => E a && E b | _ => false) := by
 match ks with
 | [] => rfl
 | [a] => rfl
 | [a, b] => simp
 | a :: b :: c :: r => rw [beq_eq_false_iff_ne.2 atz]; rfl
theorem ln3 (ks : List ae) : (((ks.length : Int) == 3) && ks.all E) = (match ks with | [a, b, c] => E a && (E b && E c) | _ => false) := by
 match ks with
 | [] => rfl
 | [a] => rfl
 | [a, b] => rfl
 | [a, b, c] => simp
 | a :: b :: c :: d :: r => rw [beq_eq_false_iff_ne.2 atz]; rfl
theorem aiN (ks : List ae) : (decide ((ks.length : Int) ≥ 1) && ks.all E) = (match ks with | [] => false | a :: r => E a && r.all E) := by
 match ks with
 | [] => rfl
 | a :: r => rw [decide_eq_true atz]; rfl
theorem aiO (ks : List ae) : (decide ((ks.length : Int) ≤ 1) && ks.all E) = (match ks with | [] => true | [a] => E a | _ => false) := by
 match ks with
 | [] => rfl
 | [a] => simp
 | a :: b :: r => rw [decide_eq_false atz]; rfl
theorem D3 (l : List ae) (h : ∀ x ∈ l, bz x = some (E x)) (hl : l.length < 4611686018427387904) : ∀ f i : Nat, l.length ≤ i + f → gT l (i : Int) = some (Ns ((l.drop i).all E))
 | f, i, hf => by
  rw [gT]
  by_cases hc : i < l.length
  ·obtain ⟨g, rfl⟩ : ∃ g, f = g + 1 := ⟨f - 1, by omega⟩
   rw [if_pos att, bC hc, sb, h _ (arb hc), sb, bU att, D3 l h hl g (i + 1) att, aqX hc, are]
   cases E l[i] <;> rfl
  ·rw [if_neg att, aqU att]; rfl
theorem yS (l : List ae) (h : ∀ x ∈ l, bz x = some (E x)) (hl : l.length < 4611686018427387904) : bu l = some (l.all E) := by
 have := D3 l h hl l.length 0 att
 rw [show ((0 : Nat) : Int) = 0 from rfl, ara] at this
 rw [bu, this, sb]
 cases l.all E <;> rfl
theorem Kh (l : List ae) (h : ∀ x ∈ l, bT x = some (S x)) (hl : l.length < 4611686018427387904) : ∀ f i : Nat, l.length ≤ i + f → jt l (i : Int) = some (Ns ((l.drop i).all (bl S)))
 | f, i, hf => by
  rw [jt]
  by_cases hc : i < l.length
  ·obtain ⟨g, rfl⟩ : ∃ g, f = g + 1 := ⟨f - 1, by omega⟩
   rw [if_pos att, bC hc, sb, h _ (arb hc), sb, bU att, Kh l h hl g (i + 1) att, aqX hc, are, bl]
   by_cases h4 : l[i].ai = 48
   ·rw [if_pos h4, h4]
    cases S l[i] <;> rfl
   ·rw [if_neg h4, beq_eq_false_iff_ne.2 h4]; rfl
  ·rw [if_neg att, aqU att]; rfl
theorem oQ (l : List ae) (h : ∀ x ∈ l, bT x = some (S x)) (hl : l.length < 4611686018427387904) : dG l = some (l.all (bl S)) := by
 have := Kh l h hl l.length 0 att
 rw [show ((0 : Nat) : Int) = 0 from rfl, ara] at this
 rw [dG, this, sb]
 cases l.all (bl S) <;> rfl
theorem Ki (n : ae) (h : ∀ x ∈ n.ah, bT x = some (S x)) (hl : n.ah.length < 4611686018427387904) : ∀ f i : Nat, n.ah.length ≤ i + f → js n (i : Int) = some (ob2 ((n.ah.drop i).all S))
 | f, i, hf => by
  rw [js]
  by_cases hc : i < n.ah.length
  ·obtain ⟨g, rfl⟩ : ∃ g, f = g + 1 := ⟨f - 1, by omega⟩
   rw [if_pos att, bC hc, sb, h _ (arb hc), sb, bU att, Ki n h hl g (i + 1) att, aqX hc, are]
   cases S n.ah[i] <;> rfl
  ·rw [if_neg att, aqU att]; rfl
theorem Kj (n : ae) (h : ∀ x ∈ n.ah, ∀ y ∈ x.ah, bz y = some (E y)) (ns : ∀ x ∈ n.ah, x.ah.length < 4611686018427387904) (hl : n.ah.length < 4611686018427387904) : ∀ f i : Nat, n.ah.length ≤ i + f → jr n (i : Int) = some (ob2 ((n.ah.drop i).all (A4 E)))
 | f, i, hf => by
  rw [jr]
  by_cases hc : i < n.ah.length
  ·obtain ⟨g, rfl⟩ : ∃ g, f = g + 1 := ⟨f - 1, by omega⟩
   rw [if_pos att, bC hc, sb, rD, sb, yS _ (h _ (arb hc)) (ns _ (arb hc)), sb, bU att, Kj n h ns hl g (i + 1) att, aqX hc, are]
   generalize n.ah[i] = x
   unfold A4
   by_cases h1 : x.ai = 6
   ·by_cases h2 : x.aD = 0
    ·by_cases h3 : x.aj = ([] : ar)
     ·rw [if_pos h1, if_pos h2, if_pos h3, h1, h2, h3]
      cases decide (1 ≤ (x.ah.length : Int) ∧ (x.ah.length : Int) ≤ 2)
      ·rfl
      ·cases x.ah.all E <;> rfl
     ·rw [if_pos h1, if_pos h2, if_neg h3, beq_eq_false_iff_ne.2 h3, arV, arJ, arJ]; rfl
    ·rw [if_pos h1, if_neg h2, beq_eq_false_iff_ne.2 h2, arV, arJ]; rfl
   ·rw [if_neg h1, beq_eq_false_iff_ne.2 h1]; rfl
  ·rw [if_neg att, aqU att]; rfl
theorem D4 (a : Bool) (l : List ae) (hl : l.length < 4611686018427387904) : ∀ (f i : Nat) (b : Bool), l.length ≤ i + f → fN a l b (i : Int) = some (Ns (ve a b (l.drop i)))
 | f, i, b, hf => by
  rw [fN]
  by_cases hc : i < l.length
  ·obtain ⟨g, rfl⟩ : ∃ g, f = g + 1 := ⟨f - 1, by omega⟩
   have IH := fun b' => D4 a l hl g (i + 1) b' att
   rw [if_pos att, bC hc, sb, aqX hc]
   simp only [rD, sb, tH, bU (show i < 9223372036854775807 by omega), IH, ve]
   generalize l[i] = x
   have e0 : (if (x.ah.length : Int) > 0 then (some (.inr false) : Option (Unit ⊕ Bool)) else some (Ns (ve a (b || x.ai == 25) (l.drop (i + 1))))) = some (Ns ((x.ah.length : Int) == 0 && ve a (b || x.ai == 25) (l.drop (i + 1)))) := by
    by_cases h : (x.ah.length : Int) > 0
    ·rw [if_pos h, beq_eq_false_iff_ne.2 att]; rfl
    ·rw [if_neg h, show (x.ah.length : Int) = 0 by omega]; rfl
   by_cases h1 : x.ai = 25
   ·rw [if_pos h1]
    cases a
    ·rw [h1]; rfl
    ·rw [h1] at e0
     simp only [Int.reduceBEq, arL, asi] at e0
     rw [h1, if_pos rfl, sb]
     cases decide (0 ≤ x.aD ∧ x.aD ≤ 1)
     ·rfl
     ·cases good x.aj
      ·rfl
      ·simpa using e0
   ·rw [if_neg h1]
    have h1' : (x.ai == 25) = false := beq_eq_false_iff_ne.2 h1
    rw [h1', aru] at e0
    rw [h1', aru, arV, ary]
    by_cases h2 : x.ai = 24
    ·rw [if_pos h2, h2]
     cases b
     ·cases decide (0 ≤ x.aD ∧ x.aD ≤ 1)
      ·rfl
      ·cases good x.aj
       ·rfl
       ·simpa using e0
     ·rfl
    ·rw [if_neg h2, beq_eq_false_iff_ne.2 h2]; rfl
  ·rw [if_neg att, aqU att]; rfl
theorem Oy {l : List ae} {z : ae} : G4 (l ++ [z]) (l.length : Int) = some l := by
 unfold G4
 rw [if_pos ⟨by omega, by simp; omega⟩, Int.toNat_natCast, List.take_left]
theorem Oz (a : Bool) (ks : List ae) (hl : ks.length < 4611686018427387904) (hS : ∀ x ∈ ks, bT x = some (S x)) : iN ks a = some (fU S a ks) := by
 rcases asj ks with rfl | ⟨l, z, rfl⟩
 ·rw [iN]; rfl
 ·rw [asl] at hl hS ⊢
  have hl' : l.length < 4611686018427387904 := by simp at hl; omega
  have := D4 a l hl' l.length 0 false att
  rw [show ((0 : Nat) : Int) = 0 from rfl, ara] at this
  rw [iN, kL (x := (((l ++ [z]).length : Int)) - 1) (n := l.length) atv att, if_neg att, oP, sb, sb, hS z atv, sb, fU, asz, asA, Oy, sb, this, sb]
  show _ = some (ve a false l && bl S z)
  rw [bl]
  by_cases h4 : z.ai = 48
  ·rw [if_pos h4, h4]
   cases S z <;> cases ve a false l <;> rfl
  ·rw [if_neg h4, beq_eq_false_iff_ne.2 h4]; simp
theorem var_eq (x : ae) (h : E x = fE E S x) : eU x = some (x.ai == 4 && E x) := by
 unfold eU
 simp only [tH, sb, aiM, yR, beq_true]
 by_cases h4 : x.ai = 4
 ·rw [h, fE, h4]; rfl
 ·rw [beq_eq_false_iff_ne.2 h4]; rfl
mutual
def Nt : ae → Bool | .mk k _ _ ks => if k = 7 ∧ ks ≠ [] then aoU ks else k == 4 || k == 8
def aoU : List ae → Bool | [] => false | x :: _ => Nt x
end
theorem Kk : ∀ (k m : Int) (t : ar) (ks : List ae), ∃ a b c d, gW k m t ks = some (a, b, c, d) ∧ Nt (.mk k m t ks) = (a == 4 || a == 8)
 | k, m, t, ks => by
  rw [gW, Nt]
  by_cases h : k = 7
  ·match ks with
   | .mk k1 m1 t1 ks1 :: y => rw [if_pos h, if_pos atz, if_pos ⟨h, by simp⟩, aW, sb]; exact Kk k1 m1 t1 ks1
   | [] => rw [if_pos h, if_neg atv, if_neg (fun q => q.2 rfl)]; exact ⟨_, _, _, _, rfl, rfl⟩
  ·rw [if_neg h, if_neg (fun q => h q.1)]; exact ⟨_, _, _, _, rfl, rfl⟩
theorem Kl (x : ae) : jc x = some (Nt x) := by
 cases x with
 | mk k m t ks =>
  obtain ⟨a, b, c, d, h1, h2⟩ := Kk k m t ks
  unfold jc
  simp only [ae.mT, ae.nG, ae.lG, ae.j8, h1, sb]
  rw [h2]
  by_cases h : a = 4
  ·rw [if_pos h, h]; rfl
  ·rw [if_neg h, beq_eq_false_iff_ne.2 h, ary]
theorem D5 : ∀ (N : Nat) (x : ae), sz x < N → (∀ y, sz y ≤ sz x → wt y ≤ wt x → E y = fE E S y) → E x = true → Nt x = xD x
 | 0, x, h, _, _ => by omega
 | N + 1, .mk k m t ks, h, hE, he => by
  rw [Nt, xD]
  by_cases h7 : k = 7
  ·subst h7
   have h1 := hE _ (aqP _) (aqP _)
   rw [he, fE] at h1
   have h2 : gE E S 7 ks = true := by
    have := h1.symm
    simp only [As] at this
    exact this.2.2
   match ks, h2 with
   | [a, b], h2 =>
    rw [if_pos ⟨rfl, by simp⟩, if_pos ⟨rfl, rfl⟩]
    have h3 : (E a && E b) = true := h2
    have ha : a ∈ (ae.mk 7 m t [a, b]).ah := by simp
    have hs := dU ha
    have hw := ff ha
    exact D5 N a att (fun y q q2 => hE y att att) (Bool.and_eq_true_iff.1 h3).1
   | [], h2 => cases h2
   | [a], h2 => cases h2
   | a :: b :: c :: r, h2 => cases h2
  ·rw [if_neg (fun q => h7 q.1), if_neg (fun q => h7 q.1)]
end
set_option maxRecDepth 100000
section
variable {E S : ae → Bool}
theorem Zd (n : ae) (h : n.ai = 4) : eU n = some (n.aD == 0 && (good n.aj && (n.ah.length : Int) == 0)) := by
 unfold eU
 rw [if_pos h, tH, sb]
 by_cases h0 : n.aD = 0
 ·rw [if_pos h0, h0]; cases good n.aj <;> rfl
 ·rw [if_neg h0, beq_eq_false_iff_ne.2 h0]; rfl
theorem OA (n : ae) (ht : n.aj.length < 4294967281) (hl : n.ah.length < 4611686018427387904) (ns : ∀ x ∈ n.ah, x.ah.length < 4611686018427387904)
  (HE : ∀ x ∈ n.ah, bz x = some (E x)) (Fa : ∀ x ∈ n.ah, ∀ y ∈ x.ah, bz y = some (E y)) (HS : ∀ x ∈ n.ah, bT x = some (S x))
  (hv : ∀ x ∈ n.ah, E x = fE E S x) (TO : ∀ x ∈ n.ah, E x = true → Nt x = xD x) : bz n = some (fE E S n) := by
 have he := yS n.ah HE hl
 have hp := Kj n Fa ns hl n.ah.length 0 att
 rw [show ((0 : Nat) : Int) = 0 from rfl, ara] at hp
 have hr := Zd n
 rw [bz, fE]
 generalize n.ah = ks at *
 generalize n.aj = t at *
 generalize n.aD = m at *
 generalize n.ai = k at *
 by_cases hk : 1 ≤ k ∧ k ≤ 23
 ·rcases (by omega : k = 1 ∨ k = 2 ∨ k = 3 ∨ k = 4 ∨ k = 5 ∨ k = 6 ∨ k = 7 ∨ k = 8 ∨ k = 9 ∨ k = 10 ∨ k = 11 ∨ k = 12 ∨ k = 13 ∨ k = 14 ∨ k = 15 ∨ k = 16 ∨ k = 17 ∨ k = 18 ∨ k = 19 ∨ k = 20 ∨ k = 21 ∨ k = 22 ∨ k = 23) with h | h | h | h | h | h | h | h | h | h | h | h | h | h | h | h | h | h | h | h | h | h | h <;> subst h
  all_goals
   simp only [gE, arv, arw, Int.reduceEq, Int.reduceBEq, if_true, if_false, aru, arL, arQ, ary, aqZ, sb, he, Kl, rD, tH, E9 t ht, nest, yR, beq_true, ← ln1 (E := E), ← ln2 (E := E), ← ln3 (E := E), ← aiN (E := E)]
  case inr.inr.inr.inl =>
   rw [hr rfl]; rfl
  case inr.inr.inr.inr.inl =>
   show _ = some (m == 0 && (t == ([] : ar) && ks.all (A4 E)))
   rw [hp, sb]
   cases ks.all (A4 E)
   ·show some false = _; simp
   ·by_cases h0 : m = 0
    ·rw [h0]; simp [ob2, sb]
    ·rw [beq_eq_false_iff_ne.2 h0]; simp [ob2, h0, sb]
  case inr.inr.inr.inr.inr.inl => simp
  case inr.inr.inr.inr.inr.inr.inr.inr.inl =>
   rw [ln1]
   by_cases h1 : m = 1
   ·rw [if_pos h1, h1]; rfl
   ·rw [if_neg h1, sb]
    by_cases h2 : m = 2
    ·rw [h2]; rfl
    ·rw [beq_eq_false_iff_ne.2 h2, show p6 9 m = false from decide_eq_false att]; rfl
  case inr.inr.inr.inr.inr.inr.inr.inr.inr.inr.inr.inr.inr.inr.inl =>
   match ks, TO with
   | [], _ => by_cases h0 : m = 0 <;> by_cases h1 : t = ([] : ar) <;> simp [h0, h1]
   | [a], _ => by_cases h0 : m = 0 <;> by_cases h1 : t = ([] : ar) <;> simp [h0, h1]
   | a :: b :: c :: r, _ => rw [if_neg (show ¬ (((a :: b :: c :: r : List ae).length : Int) = 2) by simp only [an]; omega)]; by_cases h0 : m = 0 <;> by_cases h1 : t = ([] : ar) <;> simp [h0, h1]
   | [a, b], TO =>
    show _ = some (m == 0 && (t == ([] : ar) && (xD a && (E a && E b))))
    rw [aW, sb, if_pos (show (([a, b] : List ae).length : Int) = 2 from rfl), are, are, arB, arz]
    by_cases h0 : m = 0
    ·rw [if_pos h0, h0]
     by_cases h1 : t = ([] : ar)
     ·rw [if_pos h1, h1]
      cases hA : E a
      ·simp
      ·rw [TO a atv hA]; cases E b <;> cases xD a <;> rfl
     ·rw [if_neg h1, beq_eq_false_iff_ne.2 h1]; rfl
    ·rw [if_neg h0, beq_eq_false_iff_ne.2 h0]; rfl
  case inr.inr.inr.inr.inr.inr.inr.inr.inr.inr.inr.inr.inr.inr.inr.inl =>
   match ks, TO with
   | [], _ => by_cases h0 : m = 0 <;> by_cases h1 : t = ([] : ar) <;> simp [h0, h1]
   | [a], _ => by_cases h0 : m = 0 <;> by_cases h1 : t = ([] : ar) <;> simp [h0, h1]
   | a :: b :: c :: r, _ => rw [if_neg (show ¬ (((a :: b :: c :: r : List ae).length : Int) = 2) by simp only [an]; omega)]; by_cases h0 : m = 0 <;> by_cases h1 : t = ([] : ar) <;> simp [h0, h1]
   | [a, b], TO =>
    show _ = some (m == 0 && (t == ([] : ar) && (xD a && (E a && E b))))
    rw [aW, sb, if_pos (show (([a, b] : List ae).length : Int) = 2 from rfl), are, are, arB, arz]
    by_cases h0 : m = 0
    ·rw [if_pos h0, h0]
     by_cases h1 : t = ([] : ar)
     ·rw [if_pos h1, h1]
      cases hA : E a
      ·simp
      ·rw [TO a atv hA]; cases E b <;> cases xD a <;> rfl
     ·rw [if_neg h1, beq_eq_false_iff_ne.2 h1]; rfl
    ·rw [if_neg h0, beq_eq_false_iff_ne.2 h0]; rfl
  case inr.inr.inr.inr.inr.inr.inr.inr.inr.inr.inr.inr.inr.inr.inr.inr.inl =>
   match ks, hv with
   | [], _ => by_cases h0 : m = 0 <;> cases h1 : good t <;> simp [h0, h1, p7, TK]
   | a :: b :: r, _ => rw [if_neg (show ¬ (((a :: b :: r : List ae).length : Int) = 1) by simp only [an]; omega)]; by_cases h0 : m = 0 <;> cases h1 : good t <;> simp [h0, h1]
   | [a], hv =>
    show _ = some (m == 0 && (good t && (a.ai == 4 && E a)))
    rw [aW, sb, var_eq a (hv a atv), sb, if_pos (show (([a] : List ae).length : Int) = 1 from rfl)]
    by_cases h0 : m = 0
    ·rw [if_pos h0, h0]; cases good t <;> rfl
    ·rw [if_neg h0, beq_eq_false_iff_ne.2 h0]; rfl
  case inr.inr.inr.inr.inr.inr.inr.inr.inr.inr.inr.inr.inr.inr.inr.inr.inr.inr.inr.inr.inr.inr =>
   rw [Oz true ks hl HS, sb]
   show _ = some (m == 0 && (t == ([] : ar) && fU S true ks))
   by_cases h0 : m = 0
   ·rw [if_pos h0, h0]
    by_cases h1 : t = ([] : ar)
    ·rw [if_pos h1, h1]; rfl
    ·rw [if_neg h1, beq_eq_false_iff_ne.2 h1]; rfl
   ·rw [if_neg h0, beq_eq_false_iff_ne.2 h0]; rfl
  case inr.inr.inr.inr.inr.inr.inr.inr.inr.inr.inr.inr.inr.inr.inr.inr.inr.inr.inr.inr.inr.inl =>
   show _ = some (m == 0 && ((good t || t == ([115, 116, 97, 116, 105, 99] : ar)) && ks.all E))
   by_cases h0 : m = 0
   ·rw [if_pos h0, h0]
    by_cases h1 : t = ([115, 116, 97, 116, 105, 99] : ar)
    ·rw [if_pos h1, h1]; simp [sb]
    ·rw [if_neg h1, beq_eq_false_iff_ne.2 h1, aru]; rfl
   ·rw [if_neg h0, beq_eq_false_iff_ne.2 h0]; rfl
  all_goals first | rfl | (rw [ln1]; rfl) | (rw [ln2]; rfl) | (rw [ln3]; rfl) | (rw [aiN]; rfl)
 ·have h1 : ¬ k = 1 := by omega
  have h2 : ¬ k = 2 := by omega
  have h3 : ¬ k = 3 := by omega
  have h4 : ¬ k = 4 := by omega
  have h5 : ¬ k = 5 := by omega
  have h7 : ¬ k = 7 := by omega
  have h8 : ¬ k = 8 := by omega
  have h9 : ¬ k = 9 := by omega
  have yQ : ¬ k = 10 := by omega
  have Fb : ¬ k = 11 := by omega
  have Fc : ¬ k = 12 := by omega
  have Fe : ¬ k = 13 := by omega
  have Ke : ¬ k = 14 := by omega
  have Kf : ¬ k = 15 := by omega
  have Kg : ¬ k = 16 := by omega
  have Ou : ¬ k = 17 := by omega
  have h18 : ¬ k = 18 := by omega
  have h19 : ¬ k = 19 := by omega
  have h20 : ¬ k = 20 := by omega
  have h21 : ¬ k = 21 := by omega
  have h22 : ¬ k = 22 := by omega
  have h23 : ¬ k = 23 := by omega
  simp only [gE, arv, arw, if_true, if_false, aru, arL, arQ, ary, arJ, aqZ, sb, *, beq_eq_false_iff_ne.2 h1, beq_eq_false_iff_ne.2 h2, beq_eq_false_iff_ne.2 h3, beq_eq_false_iff_ne.2 h4, beq_eq_false_iff_ne.2 h7, beq_eq_false_iff_ne.2 h8, beq_eq_false_iff_ne.2 h9, beq_eq_false_iff_ne.2 yQ, beq_eq_false_iff_ne.2 Fb, beq_eq_false_iff_ne.2 Fc, beq_eq_false_iff_ne.2 Fe, beq_eq_false_iff_ne.2 Kf, beq_eq_false_iff_ne.2 Kg, beq_eq_false_iff_ne.2 h18, beq_eq_false_iff_ne.2 h19, beq_eq_false_iff_ne.2 h20, beq_eq_false_iff_ne.2 h21, beq_eq_false_iff_ne.2 h22]
end
set_option maxRecDepth 100000
section
variable {E S : ae → Bool}
theorem lH {a : ae} {r : List ae} : jK (a :: r) 1 = some r := by
 unfold jK
 rw [if_pos ⟨by omega, by simp only [an]; omega⟩]; rfl
theorem aoV {a : ae} {r : List ae} : G4 (a :: r) 1 = some [a] := by
 unfold G4
 rw [if_pos ⟨by omega, by simp only [an]; omega⟩]; simp
theorem aoW (x : ae) {β : Type} (Y N : Option β) (hv : ∀ y ∈ x.ah, E y = fE E S y) (HS : ∀ y ∈ x.ah, bT y = some (S y)) (h4 : x.ai = 44) :
  (if x.aD = 0 then a8 x.aj >>= fun N3 => (if N3 = true then (if (x.ah.length : Int) = 2 then idx x.ah 0 >>= fun yK => eU yK >>= fun wW => (if wW = true then jK x.ah 1 >>= fun EW => dG EW >>= fun N4 => (if N4 = true then Y else N) else N) else N) else N) else N) = bif cat E S x then Y else N := by
 rw [cat, h4, tH, sb]
 generalize x.aD = m
 by_cases h0 : m = 0
 ·rw [if_pos h0, h0]
  cases good x.aj
  ·rfl
  rw [if_pos rfl]
  match h : x.ah, hv, HS with
  | [], _, _ => rfl
  | [a], _, _ => rfl
  | a :: b :: c :: r, _, _ => rw [if_neg (show ¬ (((a :: b :: c :: r : List ae).length : Int) = 2) by simp only [an]; omega)]; rfl
  | [a, b], hv, HS =>
   rw [if_pos (by rfl), aW, sb, var_eq a (hv a atv), sb, lH, sb, oQ [b] (fun y hy => HS y (by simp at hy ⊢; exact .inr hy)) atv, sb, are, arB, arz]
   show _ = bif ((a.ai == 4) && (E a && bl S b)) then Y else N
   cases (a.ai == 4) <;> cases E a <;> cases bl S b <;> rfl
 ·rw [if_neg h0, beq_eq_false_iff_ne.2 h0]; rfl
theorem aoX (x : ae) (HS : ∀ y ∈ x.ah, bT y = some (S y)) (h4 : x.ai = 45) :
  (if x.aD = 0 then (if x.aj = ([] : ar) then (if (x.ah.length : Int) = 1 then dG x.ah >>= fun EZ => some EZ else some false) else some false) else some false) = some (fin S x) := by
 rw [fin, h4]
 generalize x.aD = m
 generalize x.aj = t
 by_cases h0 : m = 0
 ·rw [if_pos h0, h0]
  by_cases h1 : t = ([] : ar)
  ·rw [if_pos h1, h1]
   match h : x.ah, HS with
   | [], _ => rfl
   | a :: b :: r, _ => rw [if_neg (show ¬ (((a :: b :: r : List ae).length : Int) = 1) by simp only [an]; omega)]; rfl
   | [a], HS =>
    rw [if_pos (by rfl), oQ [a] HS atv, sb, are, arB, arz]; rfl
  ·rw [if_neg h1, beq_eq_false_iff_ne.2 h1]; rfl
 ·rw [if_neg h0, beq_eq_false_iff_ne.2 h0]; rfl
theorem Ze (x : ae) (h : ¬ x.ai = 44) : cat E S x = false := by rw [cat, beq_eq_false_iff_ne.2 h]; rfl
theorem Km (x : ae) (h : ¬ x.ai = 45) : fin S x = false := by rw [fin, beq_eq_false_iff_ne.2 h]; rfl
def fR (S : ae → Bool) (l : List ae) : Bool := match l with | [] => true | [c] => fin S c | _ => false
def fT (E S : ae → Bool) (ks : List ae) : Bool := match ks with | [a, b] => bl S a && (cat E S b || fin S b) | [a, b, c] => bl S a && (cat E S b && fin S c) | _ => false
theorem aoY (ks : List ae) (HS : ∀ x ∈ ks, bT x = some (S x)) (lx : ∀ x ∈ ks, ∀ y ∈ x.ah, E y = fE E S y) (HS2 : ∀ x ∈ ks, ∀ y ∈ x.ah, bT y = some (S y)) :
  pD ks = some (fT E S ks) := by
 rw [pD]
 rcases ks with _ | ⟨a, _ | ⟨b, r⟩⟩
 ·rfl
 ·rfl
 rw [if_neg (show ¬ (((a :: b :: r : List ae).length : Int) < 2) by simp only [an]; omega), aoV, sb, oQ [a] (fun x hx => HS x (by simp at hx ⊢; exact .inl hx)) atv, sb, lH, sb, lH, are, arB, arz, aW, sb, sb]
 have K : ∀ (l : List ae) (_ : l = r ∨ l = b :: r), (if (l.length : Int) = 0 then some true else idx l 0 >>= fun oI => (if (l.length : Int) = 1 then (if oI.ai = 45 then (if oI.aD = 0 then (if oI.aj = ([] : ar) then (if (oI.ah.length : Int) = 1 then dG oI.ah >>= fun EZ => some EZ else some false) else some false) else some false) else some false) else some false)) = some (fR S l) := by
  intro l hl
  rcases l with _ | ⟨c, _ | ⟨d, q⟩⟩
  ·rfl
  ·rw [if_neg (show ¬ ((([c] : List ae).length : Int) = 0) by simp), aW, sb, if_pos (show (([c] : List ae).length : Int) = 1 from rfl)]
   by_cases h5 : c.ai = 45
   ·rw [if_pos h5, aoX c (HS2 c (by rcases hl with h | h <;> simp [← h])) h5]; rfl
   ·rw [if_neg h5]; show _ = some (fin S c); rw [Km c h5]
  ·rw [if_neg (show ¬ (((c :: d :: q : List ae).length : Int) = 0) by simp only [an]; omega), aW, sb, if_neg (show ¬ (((c :: d :: q : List ae).length : Int) = 1) by simp only [an]; omega)]; rfl
 by_cases h4 : b.ai = 44
 ·rw [if_pos h4, aoW (E := E) (S := S) b (some (Sum.inl r : List ae ⊕ Bool)) (some (Sum.inr false)) (lx b atv) (HS2 b atv) h4]
  have hf : fin S b = false := Km b att
  cases hb : bl S a
  ·rcases r with _ | ⟨c, _ | ⟨d, q⟩⟩ <;> simp [fT, hb]
  ·rw [if_pos rfl]
   cases hc : cat E S b
   ·show some false = _
    rcases r with _ | ⟨c, _ | ⟨d, q⟩⟩ <;> simp [fT, hb, hc, hf]
   ·show (if (r.length : Int) = 0 then _ else _) = _
    rw [K r (.inl rfl)]
    rcases r with _ | ⟨c, _ | ⟨d, q⟩⟩ <;> simp [fT, fR, hb, hc, hf]
 ·rw [if_neg h4, sb]
  have hf : cat E S b = false := Ze b h4
  cases hb : bl S a
  ·rcases r with _ | ⟨c, _ | ⟨d, q⟩⟩ <;> simp [fT, hb]
  ·rw [if_pos rfl]
   show (if ((b :: r).length : Int) = 0 then _ else _) = _
   rw [K (b :: r) (.inr rfl)]
   rcases r with _ | ⟨c, _ | ⟨d, q⟩⟩ <;> simp [fT, fR, hb, hf]
end
set_option maxRecDepth 100000
section
variable {E S : ae → Bool}
theorem OB (n : ae) (ht : n.aj.length < 4294967281) (hl : n.ah.length < 4611686018427387904)
  (HE : ∀ x ∈ n.ah, bz x = some (E x)) (HS : ∀ x ∈ n.ah, bT x = some (S x)) (HS2 : ∀ x ∈ n.ah, ∀ y ∈ x.ah, bT y = some (S y))
  (hv : ∀ x ∈ n.ah, E x = fE E S x) (lx : ∀ x ∈ n.ah, ∀ y ∈ x.ah, E y = fE E S y) (TO : ∀ x ∈ n.ah, E x = true → Nt x = xD x) : bT n = some (fS E S n) := by
 have he := yS n.ah HE hl
 have hp := Ki n HS hl n.ah.length 0 att
 rw [show ((0 : Nat) : Int) = 0 from rfl, ara] at hp
 have hT := aoY n.ah HS lx HS2
 rw [bT, fS]
 generalize n.ah = ks at *
 generalize n.aj = t at *
 generalize n.aD = m at *
 generalize n.ai = k at *
 by_cases hk : 31 ≤ k ∧ k ≤ 48
 ·have e0 : p6 k m = (m == 0) := by
   unfold p6
   rw [if_neg att, if_neg att, if_neg att, if_neg att, if_neg att, if_neg att]
  rw [e0]
  by_cases h0 : m = 0
  rotate_left
  ·rw [if_neg h0, beq_eq_false_iff_ne.2 h0]; rfl
  rw [if_pos h0, h0]
  show _ = some (p7 k t && gS E S k ks)
  rcases (by omega : k = 31 ∨ k = 32 ∨ k = 33 ∨ k = 34 ∨ k = 35 ∨ k = 36 ∨ k = 37 ∨ k = 38 ∨ k = 39 ∨ k = 40 ∨ k = 41 ∨ k = 42 ∨ k = 43 ∨ k = 44 ∨ k = 45 ∨ k = 46 ∨ k = 47 ∨ k = 48) with h | h | h | h | h | h | h | h | h | h | h | h | h | h | h | h | h | h <;> subst h
  all_goals
   simp only [gS, arv, arw, Int.reduceEq, Int.reduceBEq, if_true, if_false, aru, arL, arQ, ary, aqZ, sb, he, rD, tH, contains_eq t ht, nest, yR, beq_true]
  case inl =>
   show _ = some (t31 t && (ks.length : Int) == 0)
   unfold t31
   by_cases h1 : t = ([] : ar)
   ·rw [if_pos h1, h1]; rfl
   ·rw [if_neg h1, beq_eq_false_iff_ne.2 h1]
    cases decide (0 ≤ Lib.index t [60, 63]) <;> rfl
  case inr.inr.inr.inl =>
   show _ = some (t == ([] : ar) && _)
   by_cases h1 : t = ([] : ar)
   rotate_left
   ·rw [if_neg h1, beq_eq_false_iff_ne.2 h1]; rfl
   rw [if_pos h1, h1]
   rcases ks with _ | ⟨a, _ | ⟨b, _ | ⟨c, _ | ⟨d, r⟩⟩⟩⟩
   ·rfl
   ·rfl
   ·rw [aW, sb, HE a atv, sb, lH, sb, oQ [b] (fun x hx => HS x atV) atv, sb, are, arB, arz]
    dsimp only
    cases E a <;> cases bl S b <;> rfl
   ·rw [aW, sb, HE a atv, sb, lH, sb, oQ [b, c] (fun x hx => HS x atV) atv, sb, are, are, arB, arz]
    dsimp only
    cases E a <;> cases bl S b <;> cases bl S c <;> rfl
   ·rw [decide_eq_false atz]; rfl
  case inr.inr.inr.inr.inl =>
   show _ = some (t == ([] : ar) && _)
   by_cases h1 : t = ([] : ar)
   rotate_left
   ·rw [if_neg h1, beq_eq_false_iff_ne.2 h1]; rfl
   rw [if_pos h1, h1]
   rcases ks with _ | ⟨a, _ | ⟨b, _ | ⟨c, r⟩⟩⟩
   ·rfl
   ·rfl
   ·rw [aW, sb, HE a atv, sb, lH, sb, oQ [b] (fun x hx => HS x atV) atv, sb, are, arB, arz]
    dsimp only
    cases E a <;> cases bl S b <;> rfl
   ·rw [if_neg (show ¬ (((a :: b :: c :: r : List ae).length : Int) = 2) by simp only [an]; omega)]; rfl
  case inr.inr.inr.inr.inr.inl =>
   show _ = some (t == ([] : ar) && _)
   by_cases h1 : t = ([] : ar)
   rotate_left
   ·rw [if_neg h1, beq_eq_false_iff_ne.2 h1]; rfl
   rw [if_pos h1, h1]
   rcases ks with _ | ⟨a, _ | ⟨b, _ | ⟨c, _ | ⟨d, _ | ⟨e, r⟩⟩⟩⟩⟩
   ·rfl
   ·rfl
   ·rfl
   ·rw [aW, eK, sb, sb, HE a atv, sb, var_eq b (hv b atv), sb, if_pos (show (([a, b, c] : List ae).length : Int) = 3 from rfl), show aT ((([a, b, c] : List ae).length : Int) - 1) = 2 from rfl, show jK [a, b, c] 2 = some [c] from rfl, sb, oQ [c] (fun x hx => HS x (by simp at hx ⊢; exact .inr (.inr hx))) atv, sb, are, arB, arz]
    dsimp only
    cases (b.ai == 4) <;> cases E a <;> cases E b <;> cases bl S c <;> rfl
   ·rw [aW, eK, lb, sb, sb, sb, HE a atv, sb, var_eq b (hv b atv), sb, if_neg (show ¬ (([a, b, c, d] : List ae).length : Int) = 3 by simp), var_eq c (hv c atv), sb, show aT ((([a, b, c, d] : List ae).length : Int) - 1) = 3 from rfl, show jK [a, b, c, d] 3 = some [d] from rfl, sb, oQ [d] (fun x hx => HS x (by simp at hx ⊢; exact .inr (.inr (.inr hx)))) atv, sb, are, arB, arz]
    dsimp only
    cases (b.ai == 4) <;> cases (c.ai == 4) <;> cases E a <;> cases E b <;> cases E c <;> cases bl S d <;> rfl
   ·rw [decide_eq_false atz]; rfl
  case inr.inr.inr.inr.inr.inr.inr.inr.inl => rw [aiO]; rfl
  case inr.inr.inr.inr.inr.inr.inr.inr.inr.inr.inl =>
   show _ = some (t == ([] : ar) && _)
   by_cases h1 : t = ([] : ar)
   rotate_left
   ·rw [if_neg h1, beq_eq_false_iff_ne.2 h1]; rfl
   rw [if_pos h1, h1]
   rcases ks with _ | ⟨a, _ | ⟨b, r⟩⟩
   ·rfl
   ·rw [if_pos (show (([a] : List ae).length : Int) = 1 from rfl), aW, sb, nB, Kl, sb, HE a atv, sb]
    show _ = some (xD a && E a)
    cases hA : E a
    ·cases Nt a <;> simp [sb]
    ·rw [TO a atv hA]; cases xD a <;> rfl
   ·rw [if_neg (show ¬ (((a :: b :: r : List ae).length : Int) = 1) by simp only [an]; omega)]; rfl
  case inr.inr.inr.inr.inr.inr.inr.inr.inr.inr.inr.inr.inl =>
   rw [hT, sb]
   by_cases h1 : t = ([] : ar)
   ·rw [if_pos h1, h1]; rfl
   ·rw [if_neg h1, show p7 43 t = false from beq_eq_false_iff_ne.2 h1]; rfl
  case inr.inr.inr.inr.inr.inr.inr.inr.inr.inr.inr.inr.inr.inr.inr.inl =>
   show _ = some (t == ([] : ar) && _)
   by_cases h1 : t = ([] : ar)
   rotate_left
   ·rw [if_neg h1, beq_eq_false_iff_ne.2 h1]; rfl
   rw [if_pos h1, h1]
   rcases ks with _ | ⟨a, _ | ⟨b, _ | ⟨c, r⟩⟩⟩
   ·rfl
   ·rw [show aT ((([a] : List ae).length : Int) - 1) = 0 from rfl, aW, sb, sb, HE a atv]; rfl
   ·rw [show aT ((([a, b] : List ae).length : Int) - 1) = 1 from rfl, aW, eK, sb, sb, HE b atv, var_eq a (hv a atv), sb, sb]
    dsimp only
    cases (a.ai == 4) <;> cases E a <;> cases E b <;> rfl
   ·rw [if_neg (show ¬ (((a :: b :: c :: r : List ae).length : Int) = 1) by simp only [an]; omega), if_neg (show ¬ (((a :: b :: c :: r : List ae).length : Int) = 2) by simp only [an]; omega)]; rfl
  case inr.inr.inr.inr.inr.inr.inr.inr.inr.inr.inr.inr.inr.inr.inr.inr.inr =>
   rw [hp, sb]
   show _ = some (t == ([] : ar) && _)
   cases ks.all S
   ·cases (t == ([] : ar)) <;> rfl
   ·cases (t == ([] : ar)) <;> rfl
  all_goals first
   | rfl
   | (
    show _ = some (t == ([] : ar) && _)
    by_cases h1 : t = ([] : ar)
    ·rw [if_pos h1, h1]
     rcases ks with _ | ⟨a, _ | ⟨b, r⟩⟩
     ·rfl
     ·rw [if_pos (show (([a] : List ae).length : Int) = 1 from rfl), aW, sb, HE a atv]; rfl
     ·rw [if_neg (show ¬ (((a :: b :: r : List ae).length : Int) = 1) by simp only [an]; omega)]; rfl
    ·rw [if_neg h1, beq_eq_false_iff_ne.2 h1]; rfl)
   | (simp; done)
 ·have h31 : ¬ k = 31 := by omega
  have h32 : ¬ k = 32 := by omega
  have h33 : ¬ k = 33 := by omega
  have h34 : ¬ k = 34 := by omega
  have h35 : ¬ k = 35 := by omega
  have h36 : ¬ k = 36 := by omega
  have h37 : ¬ k = 37 := by omega
  have h38 : ¬ k = 38 := by omega
  have h39 : ¬ k = 39 := by omega
  have h40 : ¬ k = 40 := by omega
  have h41 : ¬ k = 41 := by omega
  have h42 : ¬ k = 42 := by omega
  have h43 : ¬ k = 43 := by omega
  have h46 : ¬ k = 46 := by omega
  have h47 : ¬ k = 47 := by omega
  have Ox : ¬ k = 48 := by omega
  simp only [gS, arv, arw, if_true, if_false, aru, arL, arQ, ary, arJ, aqZ, sb, beq_eq_false_iff_ne.2 h31, beq_eq_false_iff_ne.2 h32, beq_eq_false_iff_ne.2 h33, beq_eq_false_iff_ne.2 h37, beq_eq_false_iff_ne.2 h38, beq_eq_false_iff_ne.2 h40, beq_eq_false_iff_ne.2 h42, beq_eq_false_iff_ne.2 h47, h31, h32, h33, h34, h35, h36, h37, h38, h39, h40, h41, h42, h43, h46, h47, Ox, ite_self]
end
set_option maxRecDepth 100000
theorem vtg {x : ae} (h : wt x ≤ 1048576) (he : vE x = true) : Nt x = xD x := D5 (S := vS) _ x (arH _) (fun y _ hw => xF att) he
theorem Kn : ∀ (N : Nat) (n : ae), sz n < N → wt n ≤ 1048576 → bz n = some (vE n) ∧ bT n = some (vS n)
 | 0, n, h, _ => by omega
 | N + 1, n, h, hw => by
  have hk : ∀ x ∈ n.ah, _ := fun x hx => Kn N x atH atS
  have nu : ∀ x ∈ n.ah, ∀ y ∈ x.ah, _ := fun x hx y hy => Kn N y atF atI
  have bd : ∀ x : ae, wt x ≤ 1048576 → x.aj.length < 4294967281 ∧ x.ah.length < 4611686018427387904 := fun x hx => by have := A5 x; omega
  have w1 : ∀ x ∈ n.ah, wt x ≤ 1048576 := fun x hx => by have := ff hx; omega
  have w2 : ∀ x ∈ n.ah, ∀ y ∈ x.ah, wt y ≤ 1048576 := fun x hx y hy => by have := ff hx; have := ff hy; omega
  rw [xF hw, TN hw]
  exact ⟨OA n (bd n hw).1 (bd n hw).2 (fun x hx => (bd x (w1 x hx)).2) (fun x hx => (hk x hx).1) (fun x hx y hy => (nu x hx y hy).1) (fun x hx => (hk x hx).2) (fun x hx => xF (w1 x hx)) (fun x hx => vtg (w1 x hx)),
   OB n (bd n hw).1 (bd n hw).2 (fun x hx => (hk x hx).1) (fun x hx => (hk x hx).2) (fun x hx y hy => (nu x hx y hy).2) (fun x hx => xF (w1 x hx)) (fun x hx y hy => xF (w2 x hx y hy)) (fun x hx => vtg (w1 x hx))⟩
theorem iE {n : ae} (h : wt n ≤ 1048576) : bz n = some (vE n) := (Kn _ n (arH _) h).1
theorem OC {n : ae} (h : wt n ≤ 1048576) : n.aj.length ≤ 1048576 ∧ n.ah.length ≤ 1048576 := by have := A5 n; omega
theorem wk {n : ae} (h : wt n ≤ 1048576) : ∀ x ∈ n.ah, wt x ≤ 1048576 := fun x hx => by have := ff hx; omega
theorem Ko {n : ae} (h : wt n ≤ 1048576) : sz n < 4611686018427387904 := by have := TM n; omega
def vX (n : ae) : Bool := decide (sz n ≤ 600 ∧ dp n ≤ 30) && vE n
theorem Fg (n : ae) (h : wt n ≤ 1048576) : lB n = some (vX n) ∧ lz n = some (vX n) := by
 obtain ⟨h1, h2⟩ := J8 n (Ko h)
 unfold lB lz vX
 rw [h1, h2, sb, sb, iE h, spE h]
 cases decide (sz n ≤ 600 ∧ dp n ≤ 30) <;> exact ⟨rfl, rfl⟩
def m54 (ks : List ae) : Bool := match ks with | [y] => decide (1 ≤ y.ai ∧ y.ai ≤ 3) && vE y | _ => false
def cOK (c : Bool) : Bool → Bool → List ae → Bool
 | _, _, [] => true
 | f, p, x :: r => bif x.ai == 52 then (f && (c && (x.aD == 0 && (good x.aj && (x.ah.length : Int) == 0)))) && cOK c false false r
  else bif x.ai == 53 then (!p && (x.aD == 0 && (good x.aj && (x.ah.length : Int) == 0))) && cOK c false false r
  else bif x.ai == 54 then (decide (0 ≤ x.aD ∧ x.aD ≤ 1) && (good x.aj && m54 x.ah)) && cOK c false true r
  else (x.ai == 55 && (decide (0 ≤ x.aD ∧ x.aD ≤ 3) && (good x.aj && fU vS false x.ah))) && cOK c false true r
set_option maxRecDepth 100000
set_option maxRecDepth 100000
set_option maxRecDepth 100000
theorem D6 {n : ae} (hw : wt n ≤ 1048576) (h : vE n = true) : p6 n.ai n.aD = true ∧ p7 n.ai n.aj = true ∧ gE vE vS n.ai n.ah = true := by
 rw [xF hw, fE, As, As] at h
 exact h
theorem D7 {n : ae} (hw : wt n ≤ 1048576) (h : vS n = true) : p6 n.ai n.aD = true ∧ p7 n.ai n.aj = true ∧ gS vE vS n.ai n.ah = true := by
 rw [TN hw, fS, As, As] at h
 exact h
inductive IE : Int → Int → ar → List ae → Prop
 | num (m : Int) (t : ar) (h0 : 0 ≤ m) (h1 : m ≤ 1000000000) : IE 1 m t []
 | txt (m : Int) (t : ar) (h0 : t.length ≤ 400) : IE 2 m t []
 | cst (m : Int) (t : ar) (h0 : 0 ≤ m) (h1 : m ≤ 2) : IE 3 m t []
 | var (m : Int) (t : ar) : IE 4 m t []
 | arr (m : Int) (t : ar) (ks : List ae) (h : ks.all (A4 vE) = true) : IE 5 m t ks
 | ix (m : Int) (t : ar) (a b : ae) (ha : vE a = true) (hb : vE b = true) : IE 7 m t [a, b]
 | fld (m : Int) (t : ar) (a : ae) (ha : vE a = true) : IE 8 m t [a]
 | un (m : Int) (t : ar) (a : ae) (h0 : 1 ≤ m) (h1 : m ≤ 2) (ha : vE a = true) : IE 9 m t [a]
 | bin (m : Int) (t : ar) (a b : ae) (h0 : 1 ≤ m) (h1 : m ≤ 15) (ha : vE a = true) (hb : vE b = true) : IE 10 m t [a, b]
 | and (m : Int) (t : ar) (a b : ae) (ha : vE a = true) (hb : vE b = true) : IE 11 m t [a, b]
 | or (m : Int) (t : ar) (a b : ae) (ha : vE a = true) (hb : vE b = true) : IE 12 m t [a, b]
 | aiP (m : Int) (t : ar) (a b : ae) (ha : vE a = true) (hb : vE b = true) : IE 13 m t [a, b]
 | cond (m : Int) (t : ar) (a b c : ae) (ha : vE a = true) (hb : vE b = true) (hc : vE c = true) : IE 14 m t [a, b, c]
 | asg (m : Int) (t : ar) (a b : ae) (ha : vE a = true) (hb : vE b = true) : IE 15 m t [a, b]
 | app (m : Int) (t : ar) (a b : ae) (ha : vE a = true) (hb : vE b = true) : IE 16 m t [a, b]
 | ref (m : Int) (t : ar) (a : ae) : IE 17 m t [a]
 | call (m : Int) (t : ar) (ks : List ae) (h : ks.all vE = true) : IE 18 m t ks
 | stat (m : Int) (t : ar) (ks : List ae) (h : ks.all vE = true) : IE 21 m t ks
 | new (m : Int) (t : ar) (ks : List ae) (h : ks.all vE = true) : IE 22 m t ks
 | dyn (m : Int) (t : ar) (a : ae) (r : List ae) (ha : vE a = true) (h : r.all vE = true) : IE 19 m t (a :: r)
 | met (m : Int) (t : ar) (a : ae) (r : List ae) (ha : vE a = true) (h : r.all vE = true) : IE 20 m t (a :: r)
 | kX (m : Int) (t : ar) (l : List ae) (z : ae) (hu : ve true false l = true) (hk : z.ai = 48) (hz : vS z = true) : IE 23 m t (l ++ [z])
theorem Zf {x : ae} (h : bl vS x = true) : x.ai = 48 ∧ vS x = true := by
 rw [bl, As, beq_iff_eq] at h; exact h
theorem Zg {a : Bool} {ks : List ae} (h : fU vS a ks = true) : ∃ l z, ks = l ++ [z] ∧ ve a false l = true ∧ z.ai = 48 ∧ vS z = true := by
 rcases asj ks with rfl | ⟨l, z, rfl⟩
 ·cases h
 ·rw [asl] at h ⊢
  rw [fU, asz, asA] at h
  have h' : (ve a false l && bl vS z) = true := h
  rw [As] at h'
  exact ⟨l, z, rfl, h'.1, Zf h'.2⟩
theorem Kp {n : ae} (hw : wt n ≤ 1048576) (h : vE n = true) : IE n.ai n.aD n.aj n.ah := by
 obtain ⟨h1, h2, h3⟩ := D6 hw h
 generalize n.ai = k at *
 generalize n.aD = m at *
 generalize n.aj = t at *
 generalize n.ah = ks at *
 by_cases hk : 1 ≤ k ∧ k ≤ 23
 ·rcases (by omega : k = 1 ∨ k = 2 ∨ k = 3 ∨ k = 4 ∨ k = 5 ∨ k = 6 ∨ k = 7 ∨ k = 8 ∨ k = 9 ∨ k = 10 ∨ k = 11 ∨ k = 12 ∨ k = 13 ∨ k = 14 ∨ k = 15 ∨ k = 16 ∨ k = 17 ∨ k = 18 ∨ k = 19 ∨ k = 20 ∨ k = 21 ∨ k = 22 ∨ k = 23) with h | h | h | h | h | h | h | h | h | h | h | h | h | h | h | h | h | h | h | h | h | h | h <;> subst h <;>
   simp only [gE, p6, p7, TK, arv, arw, Int.reduceEq, Int.reduceBEq, if_true, if_false, aru, arL, arQ, ary, aqZ, or_false, or_true, true_or, false_or] at h1 h2 h3
  all_goals first
   | exact .arr _ _ _ h3
   | exact .call _ _ _ h3
   | exact .stat _ _ _ h3
   | exact .new _ _ _ h3
   | (obtain ⟨l, z, rfl, e1, e2, e3⟩ := Zg h3; exact .kX _ _ l z e1 e2 e3)
   | cases h3; done
   | (
    rcases ks with _ | ⟨a, _ | ⟨b, _ | ⟨c, _ | ⟨d, r⟩⟩⟩⟩ <;> first
     | (cases h3; done)
     | (
      simp at h1 h2 h3
      first
       | exact .num _ _ h1.1 h1.2
       | exact .txt _ _ att
       | exact .cst _ _ h1.1 h1.2
       | exact .var _ _
       | exact .ix _ _ _ _ h3.1 h3.2
       | exact .fld _ _ _ h3
       | exact .un _ _ _ h1.1 h1.2 h3
       | exact .bin _ _ _ _ h1.1 h1.2 h3.1 h3.2
       | exact .and _ _ _ _ h3.1 h3.2
       | exact .or _ _ _ _ h3.1 h3.2
       | exact .aiP _ _ _ _ h3.1 h3.2
       | exact .cond _ _ _ _ _ h3.1 h3.2.1 h3.2.2
       | exact .asg _ _ _ _ h3.2.1 h3.2.2
       | exact .app _ _ _ _ h3.2.1 h3.2.2
       | exact .ref _ _ _
       | exact .dyn _ _ _ _ h3 rfl
       | exact .met _ _ _ _ h3 rfl
       | exact .dyn _ _ _ _ h3.1 (by simpa using h3.2)
       | exact .met _ _ _ _ h3.1 (by simpa using h3.2)))
 ·exfalso
  have h1 : ¬ k = 1 := by omega
  have h2 : ¬ k = 2 := by omega
  have h3 : ¬ k = 3 := by omega
  have h4 : ¬ k = 4 := by omega
  have h5 : ¬ k = 5 := by omega
  have h7 : ¬ k = 7 := by omega
  have h8 : ¬ k = 8 := by omega
  have h9 : ¬ k = 9 := by omega
  have yQ : ¬ k = 10 := by omega
  have Fb : ¬ k = 11 := by omega
  have Fc : ¬ k = 12 := by omega
  have Fe : ¬ k = 13 := by omega
  have Ke : ¬ k = 14 := by omega
  have Kf : ¬ k = 15 := by omega
  have Kg : ¬ k = 16 := by omega
  have Ou : ¬ k = 17 := by omega
  have h18 : ¬ k = 18 := by omega
  have h19 : ¬ k = 19 := by omega
  have h20 : ¬ k = 20 := by omega
  have h21 : ¬ k = 21 := by omega
  have h22 : ¬ k = 22 := by omega
  have h23 : ¬ k = 23 := by omega
  rename gE vE vS k ks = true => hg
  simp only [gE, arv, arw, if_false, aru, aqZ, beq_eq_false_iff_ne.2 h1, beq_eq_false_iff_ne.2 h2, beq_eq_false_iff_ne.2 h3, beq_eq_false_iff_ne.2 h4, beq_eq_false_iff_ne.2 h7, beq_eq_false_iff_ne.2 h8, beq_eq_false_iff_ne.2 h9, beq_eq_false_iff_ne.2 yQ, beq_eq_false_iff_ne.2 Fb, beq_eq_false_iff_ne.2 Fc, beq_eq_false_iff_ne.2 Fe, beq_eq_false_iff_ne.2 Kf, beq_eq_false_iff_ne.2 Kg, beq_eq_false_iff_ne.2 h18, beq_eq_false_iff_ne.2 h19, beq_eq_false_iff_ne.2 h20, beq_eq_false_iff_ne.2 h21, beq_eq_false_iff_ne.2 h22, h5, Ke, Ou, h23] at hg
set_option maxRecDepth 100000
inductive IS : Int → Int → ar → List ae → Prop
 | htm (m : Int) (t : ar) : IS 31 m t []
 | OD (m : Int) (t : ar) (a : ae) (ha : vE a = true) : IS 32 m t [a]
 | expr (m : Int) (t : ar) (a : ae) (ha : vE a = true) : IS 33 m t [a]
 | thr (m : Int) (t : ar) (a : ae) (ha : vE a = true) : IS 42 m t [a]
 | brk (m : Int) (t : ar) : IS 37 m t []
 | cont (m : Int) (t : ar) : IS 38 m t []
 | Kq (m : Int) (t : ar) : IS 39 m t []
 | OE (m : Int) (t : ar) (a : ae) (ha : vE a = true) : IS 39 m t [a]
 | glb (m : Int) (t : ar) : IS 40 m t []
 | uns (m : Int) (t : ar) (a : ae) (ha : vE a = true) : IS 41 m t [a]
 | if2 (m : Int) (t : ar) (a b : ae) (ha : vE a = true) (hb : vS b = true) (kb : b.ai = 48) : IS 34 m t [a, b]
 | if3 (m : Int) (t : ar) (a b c : ae) (ha : vE a = true) (hb : vS b = true) (kb : b.ai = 48) (hc : vS c = true) (kc : c.ai = 48) : IS 34 m t [a, b, c]
 | whl (m : Int) (t : ar) (a b : ae) (ha : vE a = true) (hb : vS b = true) (kb : b.ai = 48) : IS 35 m t [a, b]
 | fe3 (m : Int) (t : ar) (a b c : ae) (ha : vE a = true) (hc : vS c = true) (kc : c.ai = 48) : IS 36 m t [a, b, c]
 | fe4 (m : Int) (t : ar) (a b c d : ae) (ha : vE a = true) (hd : vS d = true) (kd : d.ai = 48) : IS 36 m t [a, b, c, d]
 | yl1 (m : Int) (t : ar) (a : ae) (ha : vE a = true) : IS 46 m t [a]
 | yl2 (m : Int) (t : ar) (a b : ae) (ha : vE a = true) (hb : vE b = true) : IS 46 m t [a, b]
 | inc (m : Int) (t : ar) (h0 : t.length ≤ 400) : IS 47 m t []
 | vh (m : Int) (t : ar) (ks : List ae) (h : ks.all vS = true) : IS 48 m t ks
 | CA (m : Int) (t : ar) (a b : ae) (ha : vS a = true) (ka : a.ai = 48) (hb : cat vE vS b = true) : IS 43 m t [a, b]
 | CB (m : Int) (t : ar) (a b : ae) (ha : vS a = true) (ka : a.ai = 48) (hb : fin vS b = true) : IS 43 m t [a, b]
 | A6 (m : Int) (t : ar) (a b c : ae) (ha : vS a = true) (ka : a.ai = 48) (hb : cat vE vS b = true) (hc : fin vS c = true) : IS 43 m t [a, b, c]
 | cat (m : Int) (t : ar) (a b : ae) (ha : vE a = true) (ka : a.ai = 4) (hb : vS b = true) (kb : b.ai = 48) : IS 44 m t [a, b]
 | fin (m : Int) (t : ar) (a : ae) (ha : vS a = true) (ka : a.ai = 48) : IS 45 m t [a]
theorem Kr {n : ae} (hw : wt n ≤ 1048576) (h : vS n = true) : IS n.ai n.aD n.aj n.ah := by
 obtain ⟨h1, h2, h3⟩ := D7 hw h
 have hk : 31 ≤ n.ai ∧ n.ai ≤ 48 := by
  refine Classical.byContradiction fun hk => ?_
  generalize n.ai = k at *
  have h31 : ¬ k = 31 := by omega
  have h32 : ¬ k = 32 := by omega
  have h33 : ¬ k = 33 := by omega
  have h34 : ¬ k = 34 := by omega
  have h35 : ¬ k = 35 := by omega
  have h36 : ¬ k = 36 := by omega
  have h37 : ¬ k = 37 := by omega
  have h38 : ¬ k = 38 := by omega
  have h39 : ¬ k = 39 := by omega
  have h40 : ¬ k = 40 := by omega
  have h41 : ¬ k = 41 := by omega
  have h42 : ¬ k = 42 := by omega
  have h43 : ¬ k = 43 := by omega
  have h46 : ¬ k = 46 := by omega
  have h47 : ¬ k = 47 := by omega
  have Ox : ¬ k = 48 := by omega
  simp only [gS, arv, arw, if_false, aru, aqZ, beq_eq_false_iff_ne.2 h31, beq_eq_false_iff_ne.2 h32, beq_eq_false_iff_ne.2 h33, beq_eq_false_iff_ne.2 h37, beq_eq_false_iff_ne.2 h38, beq_eq_false_iff_ne.2 h40, beq_eq_false_iff_ne.2 h42, beq_eq_false_iff_ne.2 h47, h34, h35, h36, h39, h41, h43, h46, Ox] at h3
 generalize n.ai = k at *
 generalize n.aD = m at *
 generalize n.aj = t at *
 generalize n.ah = ks at *
 rcases (by omega : k = 31 ∨ k = 32 ∨ k = 33 ∨ k = 34 ∨ k = 35 ∨ k = 36 ∨ k = 37 ∨ k = 38 ∨ k = 39 ∨ k = 40 ∨ k = 41 ∨ k = 42 ∨ k = 43 ∨ k = 44 ∨ k = 45 ∨ k = 46 ∨ k = 47 ∨ k = 48) with h | h | h | h | h | h | h | h | h | h | h | h | h | h | h | h | h | h <;> subst h <;>
  simp only [gS, p6, p7, TK, arv, arw, Int.reduceEq, Int.reduceBEq, if_true, if_false, aru, arL, arQ, ary, aqZ, or_false, or_true, true_or, false_or] at h1 h2 h3
 all_goals first
  | exact .vh _ _ _ h3
  | cases h3; done
  | (
   rcases ks with _ | ⟨a, _ | ⟨b, _ | ⟨c, _ | ⟨d, _ | ⟨e, r⟩⟩⟩⟩⟩ <;> first
    | (cases h3; done)
    | (
     simp [bl] at h1 h2 h3
     first
      | exact .htm _ _
      | exact .brk _ _
      | exact .cont _ _
      | exact .Kq _ _
      | exact .glb _ _
      | exact .inc _ _ att
      | exact .OD _ _ _ h3
      | exact .expr _ _ _ h3
      | exact .thr _ _ _ h3
      | exact .OE _ _ _ h3
      | exact .uns _ _ _ h3.2
      | exact .yl1 _ _ _ h3
      | exact .if2 _ _ _ _ h3.1 h3.2.2 h3.2.1
      | exact .whl _ _ _ _ h3.1 h3.2.2 h3.2.1
      | exact .if3 _ _ _ _ _ h3.1 h3.2.1.2 h3.2.1.1 h3.2.2.2 h3.2.2.1
      | exact .fe3 _ _ _ _ _ h3.1 h3.2.2.2.2 h3.2.2.2.1
      | exact .fe4 _ _ _ _ _ _ h3.1 h3.2.2.2.2.2.2 h3.2.2.2.2.2.1
      | exact .yl2 _ _ _ _ h3.1 h3.2.1
      | (
       rcases h3.2 with h4 | h4
       ·exact .CA _ _ _ _ h3.1.2 h3.1.1 h4
       ·exact .CB _ _ _ _ h3.1.2 h3.1.1 h4)
      | exact .A6 _ _ _ _ _ h3.1.2 h3.1.1 h3.2.1 h3.2.2))
theorem OF {n : ae} (h : cat vE vS n = true) : IS n.ai n.aD n.aj n.ah := by
 unfold cat at h
 generalize n.ai = k at *
 generalize n.aD = m at *
 generalize n.aj = t at *
 generalize n.ah = ks at *
 rcases ks with _ | ⟨a, _ | ⟨b, _ | ⟨c, r⟩⟩⟩ <;> simp [bl] at h
 obtain ⟨h1, _, _, h2, h3, h4, h5⟩ := h
 subst h1
 exact .cat _ _ _ _ h3 h2 h5 h4
theorem OH {n : ae} (h : fin vS n = true) : IS n.ai n.aD n.aj n.ah := by
 unfold fin at h
 generalize n.ai = k at *
 generalize n.aD = m at *
 generalize n.aj = t at *
 generalize n.ah = ks at *
 rcases ks with _ | ⟨a, _ | ⟨b, r⟩⟩ <;> simp [bl] at h
 obtain ⟨h1, _, _, h4, h5⟩ := h
 subst h1
 exact .fin _ _ _ h5 h4
def vQ (x : ae) : Bool := vS x || (cat vE vS x || fin vS x)
theorem Zh {n : ae} (hw : wt n ≤ 1048576) (h : vQ n = true) : IS n.ai n.aD n.aj n.ah := by
 rw [vQ, arC, arC] at h
 rcases h with h | h | h
 ·exact Kr hw h
 ·exact OF h
 ·exact OH h
theorem jS {x : ae} (h : vS x = true) : vQ x = true := by rw [vQ, h]; rfl
theorem Ks {x : ae} (h : cat vE vS x = true) : vQ x = true := by rw [vQ, h]; simp
theorem Kt {x : ae} (h : fin vS x = true) : vQ x = true := by rw [vQ, h]; simp
set_option maxRecDepth 100000
def mA (m : Int) : Int := (db m).getD 0
def A7 (m : Int) : ar := (jb m).getD []
def lvl (n : ae) : Int :=
 if n.ai = 15 ∨ n.ai = 16 ∨ n.ai = 17 then 1 else if n.ai = 14 then 2 else if n.ai = 13 then 3 else if n.ai = 12 then 4 else if n.ai = 11 then 5 else if n.ai = 10 then mA n.aD
 else if n.ai = 9 then 11 else 12
def uh (k : Int) : Bool → List ae → ar
 | _, [] => []
 | f, x :: r => bif x.ai == k then (bif f then [] else [44, 32]) ++ (bif x.aD == 1 then [38] else []) ++ [36] ++ x.aj ++ uh k false r else uh k f r
def params (ks : List ae) (k : Int) : ar := [40] ++ uh k true ks ++ [41]
section
variable (X Y : ae → ar)
def mL (n : ae) (k : Int) : ar := if lvl n < k then [40] ++ X n ++ [41] else X n
def jn : Bool → List ae → ar
 | _, [] => []
 | f, x :: r => (bif f then [] else [44, 32]) ++ mL X x 1 ++ jn false r
def iU (ks : List ae) : ar := [40] ++ jn X true ks ++ [41]
def Zi (x : ae) : ar := match x.ah with
 | [] => []
 | [a] => mL X a 1
 | a :: b :: _ => mL X a 1 ++ [32, 61, 62, 32] ++ mL X b 1
def vi : Bool → List ae → ar
 | _, [] => []
 | f, x :: r => (bif f then [] else [44, 32]) ++ Zi X x ++ vi false r
def two (a : ae) (i : Int) (s : ar) (b : ae) (j : Int) : ar := mL X a i ++ s ++ mL X b j
def OI (m : Int) : ar := if m = 0 then [110, 117, 108, 108] else if m = 1 then [102, 97, 108, 115, 101] else [116, 114, 117, 101]
def unW (m : Int) : ar := if m = 1 then [33] else [45]
inductive PX : Int → Int → ar → List ae → ar → Prop
 | num (m : Int) (t : ar) (h0 : 0 ≤ m) (h1 : m ≤ 1000000000) : PX 1 m t [] (Lib.itoa m)
 | txt (m : Int) (t : ar) (h0 : t.length ≤ 400) : PX 2 m t [] (qt t)
 | cst (m : Int) (t : ar) (h0 : 0 ≤ m) (h1 : m ≤ 2) : PX 3 m t [] (OI m)
 | var (m : Int) (t : ar) : PX 4 m t [] ([36] ++ t)
 | arr (m : Int) (t : ar) (ks : List ae) (h : ks.all (A4 vE) = true) : PX 5 m t ks ([91] ++ vi X true ks ++ [93])
 | ix (m : Int) (t : ar) (a b : ae) (ha : vE a = true) (hb : vE b = true) : PX 7 m t [a, b] (two X a 12 [91] b 1 ++ [93])
 | fld (m : Int) (t : ar) (a : ae) (ha : vE a = true) : PX 8 m t [a] (mL X a 12 ++ [45, 62] ++ t)
 | un (m : Int) (t : ar) (a : ae) (h0 : 1 ≤ m) (h1 : m ≤ 2) (ha : vE a = true) : PX 9 m t [a] (unW m ++ mL X a 11)
 | bin (m : Int) (t : ar) (a b : ae) (h0 : 1 ≤ m) (h1 : m ≤ 15) (ha : vE a = true) (hb : vE b = true) : PX 10 m t [a, b] (two X a (mA m) ([32] ++ A7 m ++ [32]) b (mA m + 1))
 | and (m : Int) (t : ar) (a b : ae) (ha : vE a = true) (hb : vE b = true) : PX 11 m t [a, b] (two X a 5 [32, 38, 38, 32] b 6)
 | or (m : Int) (t : ar) (a b : ae) (ha : vE a = true) (hb : vE b = true) : PX 12 m t [a, b] (two X a 4 [32, 124, 124, 32] b 5)
 | aiP (m : Int) (t : ar) (a b : ae) (ha : vE a = true) (hb : vE b = true) : PX 13 m t [a, b] (two X a 4 [32, 63, 63, 32] b 3)
 | cond (m : Int) (t : ar) (a b c : ae) (ha : vE a = true) (hb : vE b = true) (hc : vE c = true) : PX 14 m t [a, b, c] (two X a 3 [32, 63, 32] b 1 ++ [32, 58, 32] ++ mL X c 2)
 | asg (m : Int) (t : ar) (a b : ae) (ha : vE a = true) (hb : vE b = true) : PX 15 m t [a, b] (two X a 12 [32, 61, 32] b 1)
 | app (m : Int) (t : ar) (a b : ae) (ha : vE a = true) (hb : vE b = true) : PX 16 m t [a, b] (two X a 12 [91, 93, 32, 61, 32] b 1)
 | ref (m : Int) (t : ar) (a : ae) : PX 17 m t [a] ([36] ++ t ++ [32, 61, 32, 38, 36] ++ a.aj)
 | call (m : Int) (t : ar) (ks : List ae) (h : ks.all vE = true) : PX 18 m t ks (t ++ iU X ks)
 | stat (m : Int) (t : ar) (ks : List ae) (h : ks.all vE = true) : PX 21 m t ks (t ++ iU X ks)
 | new (m : Int) (t : ar) (ks : List ae) (h : ks.all vE = true) : PX 22 m t ks ([110, 101, 119, 32] ++ t ++ iU X ks)
 | OJ (m : Int) (t : ar) (a : ae) (r : List ae) (ha : vE a = true) (h : r.all vE = true) (h8 : a.ai = 8) : PX 19 m t (a :: r) ([40] ++ X a ++ [41] ++ iU X r)
 | dyn (m : Int) (t : ar) (a : ae) (r : List ae) (ha : vE a = true) (h : r.all vE = true) (h8 : ¬ a.ai = 8) : PX 19 m t (a :: r) (mL X a 12 ++ iU X r)
 | met (m : Int) (t : ar) (a : ae) (r : List ae) (ha : vE a = true) (h : r.all vE = true) : PX 20 m t (a :: r) (mL X a 12 ++ [45, 62] ++ t ++ iU X r)
 | kX (m : Int) (t : ar) (l : List ae) (z : ae) (hu : ve true false l = true) (sL : ¬ ∃ x ∈ l, x.ai = 25) (hk : z.ai = 48) (hz : vS z = true) : PX 23 m t (l ++ [z]) ([102, 117, 110, 99, 116, 105, 111, 110, 32] ++ params (l ++ [z]) 24 ++ [32] ++ Y z)
 | OK (m : Int) (t : ar) (l : List ae) (z : ae) (hu : ve true false l = true) (sL : ∃ x ∈ l, x.ai = 25) (hk : z.ai = 48) (hz : vS z = true) : PX 23 m t (l ++ [z]) ([102, 117, 110, 99, 116, 105, 111, 110, 32] ++ params (l ++ [z]) 24 ++ [32, 117, 115, 101, 32] ++ params (l ++ [z]) 25 ++ [32] ++ Y z)
inductive PS : Int → Int → ar → List ae → ar → Prop
 | htm (m : Int) (t : ar) : PS 31 m t [] ([63, 62, 10] ++ t ++ [60, 63, 32])
 | OD (m : Int) (t : ar) (a : ae) (ha : vE a = true) : PS 32 m t [a] ([101, 99, 104, 111, 32] ++ mL X a 1 ++ [59])
 | expr (m : Int) (t : ar) (a : ae) (ha : vE a = true) : PS 33 m t [a] (mL X a 1 ++ [59])
 | thr (m : Int) (t : ar) (a : ae) (ha : vE a = true) : PS 42 m t [a] ([116, 104, 114, 111, 119, 32] ++ mL X a 1 ++ [59])
 | brk (m : Int) (t : ar) : PS 37 m t [] [98, 114, 101, 97, 107, 59]
 | cont (m : Int) (t : ar) : PS 38 m t [] [99, 111, 110, 116, 105, 110, 117, 101, 59]
 | Kq (m : Int) (t : ar) : PS 39 m t [] [114, 101, 116, 117, 114, 110, 59]
 | OE (m : Int) (t : ar) (a : ae) (ha : vE a = true) : PS 39 m t [a] ([114, 101, 116, 117, 114, 110, 32] ++ mL X a 1 ++ [59])
 | glb (m : Int) (t : ar) : PS 40 m t [] ([103, 108, 111, 98, 97, 108, 32, 36] ++ t ++ [59])
 | uns (m : Int) (t : ar) (a : ae) (ha : vE a = true) : PS 41 m t [a] ([117, 110, 115, 101, 116, 40] ++ mL X a 12 ++ [41, 59])
 | if2 (m : Int) (t : ar) (a b : ae) (ha : vE a = true) (hb : vS b = true) (kb : b.ai = 48) : PS 34 m t [a, b] ([105, 102, 32, 40] ++ mL X a 1 ++ [41, 32] ++ Y b)
 | if3 (m : Int) (t : ar) (a b c : ae) (ha : vE a = true) (hb : vS b = true) (kb : b.ai = 48) (hc : vS c = true) (kc : c.ai = 48) : PS 34 m t [a, b, c] ([105, 102, 32, 40] ++ mL X a 1 ++ [41, 32] ++ Y b ++ [32, 101, 108, 115, 101, 32] ++ Y c)
 | whl (m : Int) (t : ar) (a b : ae) (ha : vE a = true) (hb : vS b = true) (kb : b.ai = 48) : PS 35 m t [a, b] ([119, 104, 105, 108, 101, 32, 40] ++ mL X a 1 ++ [41, 32] ++ Y b)
 | fe3 (m : Int) (t : ar) (a b c : ae) (ha : vE a = true) (hc : vS c = true) (kc : c.ai = 48) : PS 36 m t [a, b, c] ([102, 111, 114, 101, 97, 99, 104, 32, 40] ++ mL X a 1 ++ [32, 97, 115, 32, 36] ++ b.aj ++ [41, 32] ++ Y c)
 | fe4 (m : Int) (t : ar) (a b c d : ae) (ha : vE a = true) (hd : vS d = true) (kd : d.ai = 48) : PS 36 m t [a, b, c, d] ([102, 111, 114, 101, 97, 99, 104, 32, 40] ++ mL X a 1 ++ [32, 97, 115, 32, 36] ++ b.aj ++ [32, 61, 62, 32, 36] ++ c.aj ++ [41, 32] ++ Y d)
 | yl1 (m : Int) (t : ar) (a : ae) (ha : vE a = true) : PS 46 m t [a] ([121, 105, 101, 108, 100, 32] ++ mL X a 1 ++ [59])
 | yl2 (m : Int) (t : ar) (a b : ae) (ha : vE a = true) (hb : vE b = true) : PS 46 m t [a, b] ([36] ++ a.aj ++ [32, 61, 32, 121, 105, 101, 108, 100, 32] ++ mL X b 1 ++ [59])
 | inc (m : Int) (t : ar) (h0 : t.length ≤ 400) : PS 47 m t [] ([105, 110, 99, 108, 117, 100, 101, 32] ++ qt t ++ [59])
 | vh (m : Int) (t : ar) (ks : List ae) (h : ks.all vS = true) : PS 48 m t ks ([123, 32] ++ ks.flatMap (fun x => Y x ++ [32]) ++ [125])
 | CA (m : Int) (t : ar) (a b : ae) (ha : vS a = true) (ka : a.ai = 48) (hb : cat vE vS b = true) : PS 43 m t [a, b] ([116, 114, 121, 32] ++ Y a ++ Y b)
 | CB (m : Int) (t : ar) (a b : ae) (ha : vS a = true) (ka : a.ai = 48) (hb : fin vS b = true) : PS 43 m t [a, b] ([116, 114, 121, 32] ++ Y a ++ Y b)
 | A6 (m : Int) (t : ar) (a b c : ae) (ha : vS a = true) (ka : a.ai = 48) (hb : cat vE vS b = true) (hc : fin vS c = true) : PS 43 m t [a, b, c] ([116, 114, 121, 32] ++ Y a ++ Y b ++ Y c)
 | cat (m : Int) (t : ar) (a b : ae) (ha : vE a = true) (ka : a.ai = 4) (hb : vS b = true) (kb : b.ai = 48) : PS 44 m t [a, b] ([32, 99, 97, 116, 99, 104, 32, 40] ++ t ++ [32, 36] ++ a.aj ++ [41, 32] ++ Y b)
 | fin (m : Int) (t : ar) (a : ae) (ha : vS a = true) (ka : a.ai = 48) : PS 45 m t [a] ([32, 102, 105, 110, 97, 108, 108, 121, 32] ++ Y a)
theorem aiQ {k m : Int} {t : ar} {ks : List ae} (h : IE k m t ks) : ∃ s, PX X Y k m t ks s := by
 cases h
 case dyn a r ha h =>
  by_cases h8 : a.ai = 8
  ·exact ⟨_, .OJ _ _ _ _ ha h h8⟩
  ·exact ⟨_, .dyn _ _ _ _ ha h h8⟩
 case kX l z hu hk hz =>
  by_cases h8 : ∃ x ∈ l, x.ai = 25
  ·exact ⟨_, .OK _ _ _ _ hu h8 hk hz⟩
  ·exact ⟨_, .kX _ _ _ _ hu h8 hk hz⟩
 all_goals exact ⟨_, by constructor <;> assumption⟩
theorem aiR {k m : Int} {t : ar} {ks : List ae} (h : IS k m t ks) : ∃ s, PS X Y k m t ks s := by
 cases h
 case CA ha ka hb => exact ⟨_, .CA _ _ _ _ ha ka hb⟩
 case CB ha ka hb => exact ⟨_, .CB _ _ _ _ ha ka hb⟩
 all_goals exact ⟨_, by constructor <;> assumption⟩
end
end Go.Am
