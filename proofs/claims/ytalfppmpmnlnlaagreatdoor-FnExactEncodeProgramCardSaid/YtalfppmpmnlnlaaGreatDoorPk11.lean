/- Texts of the proof, joined and shortened. -/
import Derived.Test.YtalfppmpmnlnlaaGreatDoorPk10
set_option linter.unusedVariables false
set_option linter.unusedSimpArgs false
namespace Go.Am
open Go Go.RowKit Go.Proofs
def uv (n : Nat) : List UInt8 := if h : n < 128 then [UInt8.ofNat n] else UInt8.ofNat (n % 128 + 128) :: uv (n / 128)
termination_by n
decreasing_by omega
theorem zd {n : Nat} (h : n < 128) : uv n = [UInt8.ofNat n] := by rw [uv, dif_pos h]
theorem Py {n : Nat} (h : ¬ n < 128) : uv n = UInt8.ofNat (n % 128 + 128) :: uv (n / 128) := by rw [uv, dif_neg h]
theorem Pz : ∀ (k n : Nat), n < 128 ^ (k + 1) → (uv n).length ≤ k + 1
 | 0, n, h => by rw [zd agz]; simp
 | k + 1, n, h => by
  by_cases hn : n < 128
  ·rw [zd hn]; simp
  ·rw [Py hn]
   have : n / 128 < 128 ^ (k + 1) := Nat.div_lt_of_lt_mul agB
   have := Pz k (n / 128) this
   simp only [aea]; omega
theorem dF {n : Nat} (h : n ≤ 1000000000000) : (uv n).length ≤ 6 := Pz 5 n (Nat.lt_of_le_of_lt h agj)
theorem xo {l m : List UInt8} (h : l.length + m.length ≤ 100000000000000) : kV 1 l m = some (l ++ m) := by
 unfold kV
 rw [if_pos agi]
theorem wu8 {n : Nat} (h : n < 256) : IntKind.u8.wrap (n : Int) = (n : Int) := by rw [IntKind.wrap_u8]; omega
theorem aaA {n : Nat} (hn : n < 128) : bits .or .i64 ((n : Nat) : Int) 128 = ((n + 128 : Nat) : Int) := by
 have := T3 (n := n) (a := 1) (j := 7) agi agi
 rw [show (2 ^ 7 * 1 : Nat) = 128 by decide] at this
 rw [show n + 128 = 128 + n by omega, ← this]; rfl
theorem PA : ∀ (k n : Nat) (l : List UInt8), n < 128 ^ (k + 1) → k ≤ 10 → n < 9000000000000000000 → l.length + k ≤ 99999999999999 → ∃ (n' : Nat) (l' : List UInt8), dQ (n : Int) l = some ((n' : Int), l') ∧ n' < 128 ∧ l' ++ [UInt8.ofNat n'] = l ++ uv n
 | k, n, l, h, hk, h9, hl => by
  by_cases hn : n < 128
  ·rw [dQ, if_neg agi, zd hn]
   exact ⟨n, l, rfl, hn, rfl⟩
  ·match k with
   | 0 => omega
   | k + 1 =>
    have hd : n / 128 < 128 ^ (k + 1) := Nat.div_lt_of_lt_mul agB
    have hm : n % 128 < 128 := Nat.mod_lt _ agj
    have e1 : ((n : Nat) : Int).tmod 128 = ((n % 128 : Nat) : Int) := rfl
    have e2 : ((n : Nat) : Int).tdiv 128 = ((n / 128 : Nat) : Int) := rfl
    have e3 : ah ((n / 128 : Nat) : Int) = ((n / 128 : Nat) : Int) := Vy rfl agi
    have e4 : IntKind.u8.wrap (((n % 128 : Nat) : Int) + 128) = ((n % 128 + 128 : Nat) : Int) := by rw [← wu8 (n := n % 128 + 128) agi]; rfl
    rw [dQ, if_pos agi, e1, e2, e3, wu8 agi, e4, aep, xo agp, sb]
    obtain ⟨n', l', f1, f2, f3⟩ := PA k (n / 128) (l ++ [UInt8.ofNat (n % 128 + 128)]) hd agi agi agm
    refine ⟨n', l', f1, f2, ?_⟩
    rw [f3, Py hn, aek]; rfl
theorem PC : ∀ (k n : Nat) (l : List UInt8), n < 128 ^ (k + 1) → k ≤ 10 → n < 9000000000000000000 → l.length + k ≤ 99999999999999 → ∃ (n' : Nat) (l' : List UInt8), jP l (n : Int) = some (l', (n' : Int)) ∧ n' < 128 ∧ l' ++ [UInt8.ofNat n'] = l ++ uv n
 | k, n, l, h, hk, h9, hl => by
  by_cases hn : n < 128
  ·rw [jP, if_neg agi, zd hn]
   exact ⟨n, l, rfl, hn, rfl⟩
  ·match k with
   | 0 => omega
   | k + 1 =>
    have hd : n / 128 < 128 ^ (k + 1) := Nat.div_lt_of_lt_mul agB
    have hm : n % 128 < 128 := Nat.mod_lt _ agj
    have e2 : ((n : Nat) : Int).fdiv (2 ^ min (7 : Int).toNat IntKind.i64.bits) = ((n / 128 : Nat) : Int) := by
     show Int.fdiv (n : Int) 128 = _
     rw [Int.fdiv_eq_ediv_of_nonneg _ agj]; rfl
    rw [jP, if_pos agi, T2 agi, aaA hm, wu8 agi, aep, e2, xo agp, sb]
    obtain ⟨n', l', f1, f2, f3⟩ := PC k (n / 128) (l ++ [UInt8.ofNat (n % 128 + 128)]) hd agi agi agm
    refine ⟨n', l', f1, f2, ?_⟩
    rw [f3, Py hn, aek]; rfl
theorem zI {l : List UInt8} {n : Nat} (hn : n ≤ 1000000000000) (hl : l.length ≤ 95000000000000) : br (.mk l) (n : Int) = some (.mk (l ++ uv n)) := by
 obtain ⟨n', l', e, h, h2⟩ := PA 5 n l (Nat.lt_of_le_of_lt hn agj) agi agi agi
 have h6 := dF hn
 have PK : l'.length + 1 = l.length + (uv n).length := by have := congrArg List.length h2; simpa using this
 unfold br iS
 rw [show kV 1 ([] : List UInt8) (aK.mk l).fB = some l from xo (l := []) (m := l) (by simp only [aec]; omega), sb, if_neg agi, if_neg agi, e, sb]
 dsimp only
 rw [wu8 agi, aep, xo agp, sb, sb, h2]
theorem CP {l : List UInt8} {n : Nat} (hn : n ≤ 1000000000000) (hl : l.length ≤ 95000000000000) : dB l (n : Int) = some (l ++ uv n) := by
 obtain ⟨n', l', e, h, h2⟩ := PC 5 n l (Nat.lt_of_le_of_lt hn agj) agi agi agi
 have h6 := dF hn
 have PK : l'.length + 1 = l.length + (uv n).length := by have := congrArg List.length h2; simpa using this
 unfold dB
 rw [e, sb]
 dsimp only
 rw [wu8 agi, aep, xo agp, sb, h2]
def tx (s : ba) : List UInt8 := uv s.length ++ s
def bo (b : Bool) : List UInt8 := uv (if b then 1 else 0)
theorem eX {s : ba} (h : s.length ≤ 1048576) : (tx s).length ≤ 1048582 := by
 have := dF (n := s.length) agi
 unfold tx
 rw [An]; omega
theorem pS (b : Bool) : (bo b).length = 1 := by
 cases b
 ·show (uv 0).length = 1
  rw [zd agj]; rfl
 ·show (uv 1).length = 1
  rw [zd agj]; rfl
theorem rD {l : List UInt8} {s : ba} (hs : s.length ≤ 1048576) (hl : l.length ≤ 94000000000000) : bh (.mk l) s = some (.mk (l ++ tx s)) := by
 obtain h := zI (l := l) (n := s.length) agi agi
 have h6 := dF (n := s.length) agi
 unfold br at h
 unfold bh mA
 obtain ⟨v, e, h⟩ := bd h
 have h2 : v = l ++ uv s.length := by have := aeq h; exact congrArg aK.fB this
 dsimp only at e ⊢
 rw [e, sb, h2, xo agI, sb, sb]
 unfold tx
 rw [aek]
theorem rE {l : List UInt8} {s : ba} (hs : s.length ≤ 1048576) (hl : l.length ≤ 94000000000000) : cH l s = some (l ++ tx s) := by
 have h6 := dF (n := s.length) agi
 unfold cH
 rw [CP agi agi, sb, xo agI, sb]
 unfold tx
 rw [aek]
theorem HQ {l : List UInt8} {b : Bool} (hl : l.length ≤ 94000000000000) : cn (.mk l) b = some (.mk (l ++ bo b)) := by
 unfold cn qn
 cases b
 ·rw [if_neg agj, sb, show (0 : Int) = ((0 : Nat) : Int) from rfl, zI agi agi, sb]; rfl
 ·rw [if_pos rfl, sb, show (1 : Int) = ((1 : Nat) : Int) from rfl, zI agi agi, sb]; rfl
theorem HR {l : List UInt8} {b : Bool} (hl : l.length ≤ 94000000000000) : iR l b = some (l ++ bo b) := by
 unfold iR
 cases b
 ·rw [if_neg agj, xo agp, sb, show bo false = [0] from by show uv 0 = _; rw [zd agj]; rfl]
 ·rw [if_pos rfl, xo agp, sb, show bo true = [1] from by show uv 1 = _; rw [zd agj]; rfl]
def cc {α : Type} (enc : α → List UInt8) : List α → List UInt8 | [] => [] | x :: l => enc x ++ cc enc l
theorem ss {α : Type} {enc : α → List UInt8} {z : α → Nat} {K : Nat} : ∀ l : List α, (∀ x ∈ l, (enc x).length ≤ (1 + z x) * K) → (cc enc l).length ≤ zS z l * K
 | [], _ => aeE _
 | x :: l, h => by
  have h1 := h x agk
  have h2 := ss (enc := enc) (z := z) (K := K) l (fun y hy => h y (by simp [hy]))
  show (enc x ++ cc enc l).length ≤ _
  rw [An, nq, aex]; omega
theorem ka {α R : Type} {L : List UInt8 → Int → Option R} {fin : List UInt8 → R} (xs : List α) (enc : α → List UInt8) (B : Nat)
  (step : ∀ (i : Nat) (hi : i < xs.length) (l : List UInt8), l.length + (enc xs[i]).length ≤ B → L l (i : Int) = L (l ++ enc xs[i]) ((i + 1 : Nat) : Int))
  (he : ∀ l, L l (xs.length : Int) = some (fin l)) (l : List UInt8) (hl : l.length + (cc enc xs).length ≤ B) : L l 0 = some (fin (l ++ cc enc xs)) := by
 have go : ∀ (m i : Nat), i + m = xs.length → ∀ l : List UInt8, l.length + (cc enc (xs.drop i)).length ≤ B → L l (i : Int) = some (fin (l ++ cc enc (xs.drop i))) := by
  intro m
  induction m with
  | zero =>
   intro i h l hl
   obtain rfl : i = xs.length := by omega
   rw [he, List.drop_length]
   show _ = some (fin (l ++ []))
   rw [aeR]
  | succ m ih =>
   intro i h l hl
   have hi : i < xs.length := by omega
   rw [aey hi] at hl ⊢
   have hl' : l.length + (enc xs[i] ++ cc enc (xs.drop (i + 1))).length ≤ B := hl
   rw [An] at hl'
   rw [step i hi l agi, ih (i + 1) agi _ agI]
   show _ = some (fin (l ++ (enc xs[i] ++ cc enc (xs.drop (i + 1)))))
   rw [aek]
 have := go xs.length 0 agi l (by rw [aeI]; exact hl)
 rw [aeI] at this
 exact this
def eP (x : TParam) : List UInt8 := tx x.ao ++ bo x.vh
def J3 (x : aR) : List UInt8 := uv x.aW.toNat ++ uv x.fA.toNat ++ uv x.fB.toNat ++ tx x.fS ++ tx x.fT
def eF (f : aC) : List UInt8 := tx f.ao ++ (uv f.ak.length ++ cc eP f.ak) ++ (uv f.aE.length ++ cc eP f.aE) ++ (uv f.ar.length ++ cc tx f.ar) ++ bo f.dk ++ (uv f.aq.length ++ cc J3 f.aq)
def eD (x : aB) : List UInt8 := tx x.ao ++ tx x.bn ++ bo x.bc ++ tx x.aH.Kq
def eM (x : ax) : List UInt8 := tx x.ao ++ tx x.bn ++ tx x.fh ++ bo x.bc ++ bo x.fZ
def eK (c : aw) : List UInt8 := tx c.ao ++ tx c.bD ++ (uv c.aA.length ++ cc eD c.aA) ++ (uv c.av.length ++ cc eM c.av)
def Xn (p : aD) : List UInt8 := (uv p.aG.length ++ cc eF p.aG) ++ (uv p.ay.length ++ cc eK p.ay)
theorem PD {x : TParam} (h : x.ao.length ≤ 1048576) : (eP x).length ≤ (1 + 0) * 4000000 := by
 have h1 := eX h
 have h2 := pS x.vh
 unfold eP
 rw [An]; omega
theorem Wz {x : aR} (hb : K3 x) (h : x.fS.length ≤ 1048576 ∧ x.fT.length ≤ 1048576) : (J3 x).length ≤ (1 + 0) * 4000000 := by
 have h1 := eX h.1
 have h2 := eX h.2
 have h3 := dF (n := x.aW.toNat) (by have := hb.1; omega)
 have h4 := dF (n := x.fA.toNat) (by have := hb.2.1; omega)
 have h5 := dF (n := x.fB.toNat) (by have := hb.2.2; omega)
 unfold J3
 simp only [An]; omega
theorem xp {v : af} (h : Iy v = true) : v.Kq.length ≤ 1000 ∧ v.plain = true ∧ (decide (v.kw ≤ 200) && v.xq) = true ∧ 0 ≤ v.aJ ∧ v.aJ ≤ 3 := by
 unfold Iy at h
 rw [an] at h
 have h3 := h.1
 rw [an] at h3
 have h4 := Gl h3.2
 have h5 : v.aJ ≤ 3 := of_decide_eq_true h.2
 have h6 : v.plain = true := by rw [pF, if_neg agi]; exact decide_eq_true ⟨h4, h5⟩
 have h7 := M8 (v := v) (by unfold Iy; rw [an]; exact h)
 have h8 := wE 1 agi v h7 h3.2 h6
 exact ⟨by omega, h6, h.1, h4, h5⟩
theorem WA {x : aB} (hk : Iy x.aH = true) (h : x.ao.length ≤ 1048576 ∧ x.bn.length ≤ 1048576) : (eD x).length ≤ (1 + 0) * 4000000 := by
 have h1 := eX h.1
 have h2 := eX h.2
 have h3 := eX (s := x.aH.Kq) (by have := (xp hk).1; omega)
 have h4 := pS x.bc
 unfold eD
 simp only [An]; omega
theorem WB {x : ax} (h : x.ao.length ≤ 1048576 ∧ x.bn.length ≤ 1048576 ∧ x.fh.length ≤ 1048576) : (eM x).length ≤ (1 + 0) * 4000000 := by
 have h1 := eX h.1
 have h2 := eX h.2.1
 have h3 := eX h.2.2
 have h4 := pS x.bc
 have h5 := pS x.fZ
 unfold eM
 simp only [An]; omega
theorem RM {s : ba} (h : s.length ≤ 1048576) : (tx s).length ≤ (1 + 0) * 4000000 := by have := eX h; omega
structure GF (f : aC) : Prop where
 t : FT f
 i : ∀ x ∈ f.aq, K3 x
 z : zF f ≤ 1048576
structure GK (c : aw) : Prop where
 t : CT c
 i : ∀ x ∈ c.aA, Iy x.aH = true
 z : zL c ≤ 1048576
theorem BX {f : aC} (h : GF f) : (tx f.ao).length ≤ 1048582 ∧ (uv f.ak.length).length ≤ 6 ∧ (uv f.aE.length).length ≤ 6 ∧ (uv f.ar.length).length ≤ 6 ∧ (uv f.aq.length).length ≤ 6 ∧
  (cc eP f.ak).length ≤ f.ak.length * 4000000 ∧ (cc eP f.aE).length ≤ f.aE.length * 4000000 ∧ (cc tx f.ar).length ≤ f.ar.length * 4000000 ∧ (cc J3 f.aq).length ≤ f.aq.length * 4000000 := by
 have hz := h.z
 unfold zF at hz
 have q1 := ss (enc := eP) (z := fun _ => 0) (K := 4000000) f.ak (fun x hx => PD (h.t.ps x hx))
 have q2 := ss (enc := eP) (z := fun _ => 0) (K := 4000000) f.aE (fun x hx => PD (h.t.us x hx))
 have q3 := ss (enc := tx) (z := fun _ => 0) (K := 4000000) f.ar (fun x hx => RM (h.t.sl x hx))
 have q4 := ss (enc := J3) (z := fun _ => 0) (K := 4000000) f.aq (fun x hx => Wz (h.i x hx) (h.t.cd x hx))
 rw [wv] at q1 q2 q3 q4
 exact ⟨eX h.t.nm, dF agi, dF agi, dF agi, dF agi, q1, q2, q3, q4⟩
theorem WC {f : aC} (h : GF f) : (eF f).length ≤ (1 + zF f) * 4000000 := by
 obtain ⟨h1, h2, h3, h4, h5, h6, h7, h8, h9⟩ := BX h
 have hb := pS f.dk
 unfold eF zF
 simp only [An]; omega
theorem BY {c : aw} (h : GK c) : (tx c.ao).length ≤ 1048582 ∧ (tx c.bD).length ≤ 1048582 ∧ (uv c.aA.length).length ≤ 6 ∧ (uv c.av.length).length ≤ 6 ∧
  (cc eD c.aA).length ≤ c.aA.length * 4000000 ∧ (cc eM c.av).length ≤ c.av.length * 4000000 ∧ c.aA.length + c.av.length ≤ zL c := by
 have hz := h.z
 have hl := lC (z := zE) c.aA
 have hzz : zL c = zS zE c.aA + c.av.length := rfl
 have q1 := ss (enc := eD) (z := fun _ => 0) (K := 4000000) c.aA (fun x hx => WA (h.i x hx) (h.t.fs x hx).1)
 have q2 := ss (enc := eM) (z := fun _ => 0) (K := 4000000) c.av (fun x hx => WB (h.t.ms x hx))
 rw [wv] at q1 q2
 exact ⟨eX h.t.nm, eX h.t.pa, dF agi, dF agi, q1, q2, by omega⟩
theorem WD {c : aw} (h : GK c) : (eK c).length ≤ (1 + zL c) * 4000000 := by
 obtain ⟨h1, h2, h3, h4, h5, h6, h7⟩ := BY h
 unfold eK
 simp only [An]; omega
structure GP (p : aD) : Prop where
 n : zS zF p.aG + zS zL p.ay ≤ 1048576
 f : ∀ x ∈ p.aG, GF x
 c : ∀ x ∈ p.ay, GK x
theorem Small.gp {p : aD} (h : Small p) (hp : TY p = true) : GP p := by
 obtain ⟨h1, h2⟩ := K7 h.pb hp
 refine ⟨h.n, fun f hf => ⟨h.f f hf, ?_, Sd h hf⟩, fun c hc => ⟨h.c c hc, h2 c hc, Se h hc⟩⟩
 have hb := h.pb.fb f hf
 exact (K4 hb.cd hb.ps hb.us (h1 f hf)).2.2.2.2
theorem DF {z : Int} (h : 0 ≤ z) : ((z.toNat : Nat) : Int) = z := Int.toNat_of_nonneg h
theorem PE {l : List UInt8} {z : Int} (h0 : 0 ≤ z) (hn : z ≤ 1000000000000) (hl : l.length ≤ 95000000000000) : br (.mk l) z = some (.mk (l ++ uv z.toNat)) := by
 have := zI (l := l) (n := z.toNat) agi hl
 rwa [DF h0] at this
theorem PF {l : List UInt8} {z : Int} (h0 : 0 ≤ z) (hn : z ≤ 1000000000000) (hl : l.length ≤ 95000000000000) : dB l z = some (l ++ uv z.toNat) := by
 have := CP (l := l) (n := z.toNat) agi hl
 rwa [DF h0] at this
theorem bq {a b : List UInt8} : (a ++ b).length = a.length + b.length := An
theorem sPs {x : List TParam} (h : ∀ p ∈ x, p.ao.length ≤ 1048576) (hn : x.length ≤ 2000000) {l : List UInt8} (hl : l.length + (cc eP x).length ≤ 90000000000000) : eU x l 0 = some (l ++ cc eP x) :=
 ka (L := eU x) (fin := id) x eP 90000000000000 (fun i hi l hl => by
  have h1 := h x[i] (aef hi)
  have h2 := eX h1
  rw [eU, if_pos agi, a8 hi, sb, sb, rE h1 agi, sb, HR agv, sb, aS agi, aek]; rfl) (fun l => by rw [eU, if_neg agi]; rfl) l hl
theorem iPs {x : List TParam} (h : ∀ p ∈ x, p.ao.length ≤ 1048576) (hn : x.length ≤ 2000000) {l : List UInt8} (hl : l.length + (cc eP x).length ≤ 90000000000000) : cJ x l 0 = some (l ++ cc eP x) :=
 ka (L := cJ x) (fin := id) x eP 90000000000000 (fun i hi l hl => by
  have h1 := h x[i] (aef hi)
  have h2 := eX h1
  rw [cJ, if_pos agi, a8 hi, sb, rD h1 agi, sb, HQ agv, sb, aS agi, aek]; rfl) (fun l => by rw [cJ, if_neg agi]; rfl) l hl
theorem sSl {f : aC} (h : ∀ p ∈ f.ar, p.length ≤ 1048576) (hn : f.ar.length ≤ 2000000) {l : List UInt8} (hl : l.length + (cc tx f.ar).length ≤ 90000000000000) : ia f l 0 = some (l ++ cc tx f.ar) :=
 ka (L := ia f) (fin := id) f.ar tx 90000000000000 (fun i hi l hl => by
  have h1 := h f.ar[i] (aef hi)
  rw [ia, if_pos agi, a8 hi, sb, rE h1 agi, sb, aS agi]) (fun l => by rw [ia, if_neg agi]; rfl) l hl
theorem iSl {f : aC} (h : ∀ p ∈ f.ar, p.length ≤ 1048576) (hn : f.ar.length ≤ 2000000) {l : List UInt8} (hl : l.length + (cc tx f.ar).length ≤ 90000000000000) : cM f l 0 = some (l ++ cc tx f.ar) :=
 ka (L := cM f) (fin := id) f.ar tx 90000000000000 (fun i hi l hl => by
  have h1 := h f.ar[i] (aef hi)
  rw [cM, if_pos agi, a8 hi, sb, rD h1 agi, sb, aS agi]) (fun l => by rw [cM, if_neg agi]; rfl) l hl
theorem sCd {f : aC} (hb : ∀ x ∈ f.aq, K3 x) (h : ∀ x ∈ f.aq, x.fS.length ≤ 1048576 ∧ x.fT.length ≤ 1048576) (hn : f.aq.length ≤ 2000000) {l : List UInt8} (hl : l.length + (cc J3 f.aq).length ≤ 90000000000000) : ib f l 0 = some (l ++ cc J3 f.aq) :=
 ka (L := ib f) (fin := id) f.aq J3 90000000000000 (fun i hi l hl => by
  obtain ⟨h1, h2⟩ := h f.aq[i] (aef hi)
  obtain ⟨⟨b1, b2⟩, ⟨b3, b4⟩, b5, b6⟩ := hb f.aq[i] (aef hi)
  have t1 := eX h1
  have u1 := dF (n := f.aq[i].aW.toNat) agi
  have u2 := dF (n := f.aq[i].fA.toNat) agi
  have u3 := dF (n := f.aq[i].fB.toNat) agi
  have hx : l.length ≤ 90000000000000 := by omega
  rw [ib, if_pos agi, a8 hi, sb, PF b1 b2 agi, sb, PF b3 b4 agv, sb, PF b5 b6 agE, sb, rE h1 agC, sb, rE h2 (by rw [bq, bq, bq, bq]; omega), sb, aS agi]
  unfold J3
  simp only [aek]) (fun l => by rw [ib, if_neg agi]; rfl) l hl
theorem iCd {f : aC} (hb : ∀ x ∈ f.aq, K3 x) (h : ∀ x ∈ f.aq, x.fS.length ≤ 1048576 ∧ x.fT.length ≤ 1048576) (hn : f.aq.length ≤ 2000000) {l : List UInt8} (hl : l.length + (cc J3 f.aq).length ≤ 90000000000000) : cN f l 0 = some (l ++ cc J3 f.aq) :=
 ka (L := cN f) (fin := id) f.aq J3 90000000000000 (fun i hi l hl => by
  obtain ⟨h1, h2⟩ := h f.aq[i] (aef hi)
  obtain ⟨⟨b1, b2⟩, ⟨b3, b4⟩, b5, b6⟩ := hb f.aq[i] (aef hi)
  have t1 := eX h1
  have u1 := dF (n := f.aq[i].aW.toNat) agi
  have u2 := dF (n := f.aq[i].fA.toNat) agi
  have u3 := dF (n := f.aq[i].fB.toNat) agi
  rw [cN, if_pos agi, a8 hi, sb, PE b1 b2 agi, sb, PE b3 b4 agv, sb, PE b5 b6 agE, sb, rD h1 agC, sb, rD h2 (by rw [bq, bq, bq, bq]; omega), sb, aS agi]
  unfold J3
  simp only [aek]) (fun l => by rw [cN, if_neg agi]; rfl) l hl
theorem aaB {f : aC} (h : GF f) {l : List UInt8} (hl : l.length + (eF f).length ≤ 90000000000000) : nN l f = some (l ++ eF f) := by
 obtain ⟨h1, h2, h3, h4, h5, h6, h7, h8, h9⟩ := BX h
 have hz := h.z
 unfold zF at hz
 have hb := pS f.dk
 have hE : (eF f).length = (tx f.ao).length + ((uv f.ak.length).length + (cc eP f.ak).length) + ((uv f.aE.length).length + (cc eP f.aE).length) + ((uv f.ar.length).length + (cc tx f.ar).length) + (bo f.dk).length + ((uv f.aq.length).length + (cc J3 f.aq).length) := by
  unfold eF; simp only [An]
 rw [hE] at hl
 have p1 : ∀ l : List UInt8, l.length + (uv f.ak.length).length + (cc eP f.ak).length ≤ 90000000000000 → gw l f.ak = some (l ++ uv f.ak.length ++ cc eP f.ak) := fun l hl => by
  unfold gw
  rw [CP agi agi, sb, sPs h.t.ps agi agv, sb]
 have p2 : ∀ l : List UInt8, l.length + (uv f.aE.length).length + (cc eP f.aE).length ≤ 90000000000000 → gw l f.aE = some (l ++ uv f.aE.length ++ cc eP f.aE) := fun l hl => by
  unfold gw
  rw [CP agi agi, sb, sPs h.t.us agi agv, sb]
 unfold nN
 rw [rE h.t.nm agi, sb, p1 _ agn, sb, p2 _ agn, sb, CP agi agn, sb,
  sSl h.t.sl agi agn, sb, HR agn, sb, CP agi agn, sb, sCd h.i h.t.cd agi agn, sb]
 unfold eF
 simp only [aek]
theorem aaC {p : aD} {i : Nat} (hi : i < p.aG.length) (hp : p.aG.length ≤ 2000000) (h : GF p.aG[i]) {l : List UInt8} (hl : l.length + (eF p.aG[i]).length ≤ 90000000000000) : cg p l (i : Int) = cg p (l ++ eF p.aG[i]) ((i + 1 : Nat) : Int) := by
 rw [cg, if_pos agi, a8 hi, sb, aS agi]
 generalize p.aG[i] = f at h hl
 obtain ⟨h1, h2, h3, h4, h5, h6, h7, h8, h9⟩ := BX h
 have hz := h.z
 unfold zF at hz
 have hb := pS f.dk
 have hE : (eF f).length = (tx f.ao).length + ((uv f.ak.length).length + (cc eP f.ak).length) + ((uv f.aE.length).length + (cc eP f.aE).length) + ((uv f.ar.length).length + (cc tx f.ar).length) + (bo f.dk).length + ((uv f.aq.length).length + (cc J3 f.aq).length) := by
  unfold eF; simp only [An]
 rw [hE] at hl
 have two : ∀ l : List UInt8, l.length + ((uv f.ak.length).length + (cc eP f.ak).length) + ((uv f.aE.length).length + (cc eP f.aE).length) ≤ 90000000000000 → cK f l 0 = some (l ++ uv f.ak.length ++ cc eP f.ak ++ uv f.aE.length ++ cc eP f.aE) := fun l hl => by
  rw [cK, if_pos (by show (0 : Int) < 2; decide), show idx ([f.ak, f.aE] : List (List TParam)) 0 = some f.ak from rfl, sb, zI agi agi, sb, iPs h.t.ps agi agv, sb,
   show ah ((0 : Int) + 1) = 1 from rfl, cK, if_pos (by show (1 : Int) < 2; decide), show idx ([f.ak, f.aE] : List (List TParam)) 1 = some f.aE from rfl, sb, zI agi agn, sb, iPs h.t.us agi agn, sb,
   show ah ((1 : Int) + 1) = 2 from rfl, cK, if_neg (by show ¬ (2 : Int) < 2; decide)]
 rw [rD h.t.nm agi, sb, two _ agn, sb, zI agi agn, sb,
  iSl h.t.sl agi agn, sb, HQ agn, sb, zI agi agn, sb, iCd h.i h.t.cd agi agn, sb]
 unfold eF
 simp only [aek]
theorem aaD {v : af} (h : Iy v = true) : js v = some v.Kq := by
 obtain ⟨h1, h2, h3, h4, h5⟩ := xp h
 rw [an] at h3
 have hs : v.bm.length ≤ 400 ∧ -1000000000 ≤ v.bb ∧ v.bb ≤ 1000000000 := by
  rcases (vz h3.2 h2) with q | q
  ·omega
  ·obtain ⟨_, _, _, _, q1, q2, q3, _⟩ := q; omega
 have hi : (Lib.itoa v.bb).length ≤ 11 := AZ agi agi
 have hj : (Lib.itoa (v.bm.length : Int)).length ≤ 11 := AZ agi agi
 rw [js, xX]
 by_cases k0 : v.aJ = 0
 ·rw [if_pos k0, if_pos k0]
 rw [if_neg k0, if_neg k0]
 by_cases k1 : v.aJ = 1
 ·rw [if_pos k1, if_pos k1, EL _ agi agi, sb, dS agp, sb, dS agm, sb]
 rw [if_neg k1, if_neg k1]
 by_cases k2 : v.aJ = 2
 ·rw [if_pos k2, if_pos k2, EL _ agi agi, sb, dS agp, sb, dS agm, sb]
 rw [if_neg k2, if_neg k2]
 have k3 : v.aJ = 3 := by omega
 rw [if_pos k3, if_pos k3, EL _ agi agi, sb, dS agp, sb, dS agm, sb,
  dS agm, sb, dS agm, sb]
 rfl
theorem aaE {v : af} (h : Iy v = true) : jO v = some (v.Kq, true) := by
 obtain ⟨h1, h2, h3, h4, h5⟩ := xp h
 rw [EO (by have := M8 h; omega), h3, h2]; rfl
theorem sFd {c : aw} (hk : ∀ x ∈ c.aA, Iy x.aH = true) (h : ∀ x ∈ c.aA, (x.ao.length ≤ 1048576 ∧ x.bn.length ≤ 1048576) ∧ x.aH.wt ≤ 1048577) (hn : c.aA.length ≤ 2000000) {l : List UInt8} (hl : l.length + (cc eD c.aA).length ≤ 90000000000000) : fV c l 0 = some (l ++ cc eD c.aA) :=
 ka (L := fV c) (fin := id) c.aA eD 90000000000000 (fun i hi l hl => by
  have k1 := hk c.aA[i] (aef hi)
  obtain ⟨⟨h1, h2⟩, _⟩ := h c.aA[i] (aef hi)
  have t1 := eX h1
  have t2 := eX h2
  have b1 := pS c.aA[i].bc
  have z1 := (xp k1).1
  rw [fV, if_pos agi, a8 hi, sb, rE h1 agi, sb, rE h2 agv, sb, HR agE, sb, aaD k1, sb, rE agi agC, sb, aS agi]
  unfold eD
  simp only [aek]) (fun l => by rw [fV, if_neg agi]; rfl) l hl
theorem iFd {c : aw} (hk : ∀ x ∈ c.aA, Iy x.aH = true) (h : ∀ x ∈ c.aA, (x.ao.length ≤ 1048576 ∧ x.bn.length ≤ 1048576) ∧ x.aH.wt ≤ 1048577) (hn : c.aA.length ≤ 2000000) {l : List UInt8} (hl : l.length + (cc eD c.aA).length ≤ 90000000000000) : cw c l 0 = some (l ++ cc eD c.aA) :=
 ka (L := cw c) (fin := id) c.aA eD 90000000000000 (fun i hi l hl => by
  have k1 := hk c.aA[i] (aef hi)
  obtain ⟨⟨h1, h2⟩, _⟩ := h c.aA[i] (aef hi)
  have t1 := eX h1
  have t2 := eX h2
  have b1 := pS c.aA[i].bc
  have z1 := (xp k1).1
  rw [cw, if_pos agi, a8 hi, sb, rD h1 agi, sb, rD h2 agv, sb, HQ agE, sb, aaE k1, sb]
  dsimp only
  rw [rD agi agC, sb, aS agi]
  unfold eD
  simp only [aek]) (fun l => by rw [cw, if_neg agi]; rfl) l hl
theorem sMt {c : aw} (h : ∀ x ∈ c.av, x.ao.length ≤ 1048576 ∧ x.bn.length ≤ 1048576 ∧ x.fh.length ≤ 1048576) (hn : c.av.length ≤ 2000000) {l : List UInt8} (hl : l.length + (cc eM c.av).length ≤ 90000000000000) : fW c l 0 = some (l ++ cc eM c.av) :=
 ka (L := fW c) (fin := id) c.av eM 90000000000000 (fun i hi l hl => by
  obtain ⟨h1, h2, h3⟩ := h c.av[i] (aef hi)
  have t1 := eX h1
  have t2 := eX h2
  have t3 := eX h3
  have b1 := pS c.av[i].bc
  rw [fW, if_pos agi, a8 hi, sb, rE h1 agi, sb, rE h2 agv, sb, rE h3 agE, sb, HR agC, sb, HR (by rw [bq, bq, bq, bq]; omega), sb, aS agi]
  unfold eM
  simp only [aek]) (fun l => by rw [fW, if_neg agi]; rfl) l hl
theorem iMt {c : aw} (h : ∀ x ∈ c.av, x.ao.length ≤ 1048576 ∧ x.bn.length ≤ 1048576 ∧ x.fh.length ≤ 1048576) (hn : c.av.length ≤ 2000000) {l : List UInt8} (hl : l.length + (cc eM c.av).length ≤ 90000000000000) : cx c l 0 = some (.mk (l ++ cc eM c.av)) :=
 ka (L := cx c) (fin := aK.mk) c.av eM 90000000000000 (fun i hi l hl => by
  obtain ⟨h1, h2, h3⟩ := h c.av[i] (aef hi)
  have t1 := eX h1
  have t2 := eX h2
  have t3 := eX h3
  have b1 := pS c.av[i].bc
  rw [cx, if_pos agi, a8 hi, sb, rD h1 agi, sb, rD h2 agv, sb, rD h3 agE, sb, HQ agC, sb, HQ (by rw [bq, bq, bq, bq]; omega), sb, aS agi]
  unfold eM
  simp only [aek]) (fun l => by rw [cx, if_neg agi]) l hl
theorem KQ (c : aw) : (eK c).length = (tx c.ao).length + (tx c.bD).length + ((uv c.aA.length).length + (cc eD c.aA).length) + ((uv c.av.length).length + (cc eM c.av).length) := by
 unfold eK; simp only [An]
theorem WE {c : aw} (h : GK c) {l : List UInt8} (hl : l.length + (eK c).length ≤ 90000000000000) : mz l c = some (l ++ eK c) := by
 obtain ⟨h1, h2, h3, h4, h5, h6, h7⟩ := BY h
 have hz := h.z
 rw [KQ] at hl
 unfold mz
 rw [rE h.t.nm agi, sb, rE h.t.pa agn, sb, CP agi agn, sb, sFd h.i h.t.fs agi agn, sb,
  CP agi agn, sb, sMt h.t.ms agi agn, sb]
 unfold eK
 simp only [aek]
theorem WG {c : aw} (h : GK c) {l : List UInt8} (hl : l.length + (eK c).length ≤ 90000000000000) : fv (.mk l) c = some (.mk (l ++ eK c)) := by
 obtain ⟨h1, h2, h3, h4, h5, h6, h7⟩ := BY h
 have hz := h.z
 rw [KQ] at hl
 unfold fv
 rw [rD h.t.nm agi, sb, rD h.t.pa agn, sb, zI agi agn, sb, iFd h.i h.t.fs agi agn, sb,
  zI agi agn, sb, iMt h.t.ms agi agn]
 unfold eK
 simp only [aek]
theorem Fv {p : aD} (h : GP p) : (cc eF p.aG).length + (cc eK p.ay).length ≤ 1048576 * 4000000 ∧ p.aG.length ≤ 1048576 ∧ p.ay.length ≤ 1048576 := by
 have h1 := ss (enc := eF) (z := zF) (K := 4000000) p.aG (fun x hx => WC (h.f x hx))
 have h2 := ss (enc := eK) (z := zL) (K := 4000000) p.ay (fun x hx => WD (h.c x hx))
 have h3 := lC (z := zF) p.aG
 have h4 := lC (z := zL) p.ay
 have h5 := h.n
 omega
theorem RN {p : aD} (h : GP p) : lp p = some (Xn p) := by
 obtain ⟨h1, h2, h3⟩ := Fv h
 have u1 := dF (n := p.aG.length) agi
 have u2 := dF (n := p.ay.length) agi
 have hF := ka (L := gU p) (fin := id) p.aG eF 90000000000000 (fun i hi l hl => by
  rw [gU, if_pos agi, a8 hi, sb, aaB (h.f _ (aef hi)) hl, sb, aS agi]) (fun l => by rw [gU, if_neg agi]; rfl) (uv p.aG.length) agi
 have hK := ka (L := gV p) (fin := id) p.ay eK 90000000000000 (fun i hi l hl => by
  rw [gV, if_pos agi, a8 hi, sb, WE (h.c _ (aef hi)) hl, sb, aS agi]) (fun l => by rw [gV, if_neg agi]; rfl) (uv p.aG.length ++ cc eF p.aG ++ uv p.ay.length) agn
 unfold lp
 rw [CP (l := []) agi agj, sb, aeS, hF, sb]
 dsimp only [id]
 rw [CP agi agn, sb, hK, sb]
 unfold Xn
 simp only [id, aek]
theorem RO {p : aD} (h : GP p) (hP : jN p = some true) : dE p = some (Xn p, true) := by
 obtain ⟨h1, h2, h3⟩ := Fv h
 have u1 := dF (n := p.aG.length) agi
 have u2 := dF (n := p.ay.length) agi
 have hF := ka (L := cg p) (fin := id) p.aG eF 90000000000000 (fun i hi l hl => aaC hi agi (h.f _ (aef hi)) hl) (fun l => by rw [cg, if_neg agi]; rfl) (uv p.aG.length) agi
 have hK := ka (L := dt p) (fin := id) p.ay eK 90000000000000 (fun i hi l hl => by
  rw [dt, if_pos agi, a8 hi, sb, WG (h.c _ (aef hi)) hl, sb, aS agi]) (fun l => by rw [dt, if_neg agi]; rfl) (uv p.aG.length ++ cc eF p.aG ++ uv p.ay.length) agn
 unfold dE
 rw [hP, sb, if_pos rfl, sb, zI (l := []) agi agj, sb, aeS, hF, sb]
 dsimp only [id]
 rw [zI agi agn, sb, hK, sb]
 unfold Xn
 simp only [id, aek]
theorem L2 {p : aD} (h : Small p) : ∃ b ok, dE p = some (b, ok) ∧ fL p = some (b, ok) ∧ b.length ≤ 5000000000000 := by
 obtain ⟨e1, e2⟩ := TZ h.pb
 cases hP : TY p with
 | false =>
  rw [hP] at e1 e2
  unfold dE fL
  simp only [e1, e2, sb, if_neg (show ¬ false = true by decide)]
  exact ⟨_, _, rfl, rfl, by simp⟩
 | true =>
  rw [hP] at e1 e2
  have g := h.gp hP
  refine ⟨Xn p, true, RO g e1, ?_, ?_⟩
  ·unfold fL
   rw [e2, sb, if_pos rfl, RN g, sb]
  ·obtain ⟨h1, h2, h3⟩ := Fv g
   have u1 := dF (n := p.aG.length) agi
   have u2 := dF (n := p.ay.length) agi
   unfold Xn
   simp only [An]; omega
theorem J4 (p : aD) (h : p.Ok) : fe p = some true := by
 unfold fe
 obtain ⟨v, e, hv⟩ := Em h
 rw [e, sb]
 rcases hv with hv | ⟨h1, h2, h3⟩
 ·rw [if_pos hv]
 by_cases hv : v < 0
 ·rw [if_pos hv]
 rw [if_neg hv]
 have hs : Small p := ⟨h1, h2, h3⟩
 obtain ⟨b, ok, e1, e2, hb⟩ := L2 hs
 have hz := hs.zp
 obtain ⟨k, b', g1, g2, g3, g4, g5⟩ := Qu b 1 agi
 obtain ⟨k2, p', f1, f2, f3, f4⟩ := La p 1 agi
 replace g1 : jK b 1 = _ := g1
 replace g5 : iY b' 1 = _ := g5
 replace f1 : iF p 1 = _ := f1
 have n1 : ¬ (k : Int) < 0 := by omega
 have n2 : ¬ (k2 : Int) < 0 := by omega
 simp only [Ep p hs.pb, e1, e2, AE p hs.pb, Eh b agi, g1, g5, f1, n1, n2, sb, if_true, if_false]
theorem Cr (p : aD) (h : p.Ok) : ACall Tryz.prog 3 [.agg p.lit] [] (fun res _ => res = .bool true) := (pZ (J4 p h)).mono (fun _ _ h => h.1)
end Go.Am
