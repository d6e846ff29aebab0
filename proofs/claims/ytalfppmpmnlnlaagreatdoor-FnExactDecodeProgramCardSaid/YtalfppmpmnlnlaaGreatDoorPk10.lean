/- Texts of the proof, joined and shortened. -/
import Derived.Test.YtalfppmpmnlnlaaGreatDoorPk9
set_option linter.unusedVariables false
set_option linter.unusedSimpArgs false
namespace Go.Am
open Go Go.RowKit Go.Proofs
mutual
def ah.plain : ah → Bool | .mk k _ _ _ l => if k = 4 then ae.mg l else decide (0 ≤ k ∧ k ≤ 3)
def ae.Nr : ae → Bool | .mk _ v => v.plain
def ae.mg : List ae → Bool | [] => true | x :: r => x.Nr && ae.mg r
end
theorem jD (v : ah) : v.plain = if v.aF = 4 then ae.mg v.af else decide (0 ≤ v.aF ∧ v.aF ≤ 3) := by cases v; unfold ah.plain; rfl
theorem ua (x : ae) (r : List ae) : ae.mg (x :: r) = (x.aY.plain && ae.mg r) := by cases x; simp [ae.mg, ae.Nr]
theorem Bp : ae.mg [] = true := by simp [ae.mg]
theorem pN : ∀ (l : List ae), ae.mg l = true → ∀ e ∈ l, e.aY.plain = true
 | x :: r, h, e, he => by
  rw [ua, so] at h
  rcases aed.1 he with rfl | he
  ·exact h.1
  ·exact pN r h.2 e he
theorem GD {l : List ae} {i : Nat} (h : i < l.length) : ae.mg (l.drop i) = (l[i].aY.plain && ae.mg (l.drop (i + 1))) := by rw [aeg h, ua]
theorem Ns (a b c : Int) : zu a b c = some (decide (b ≤ a ∧ a ≤ c)) := by
 unfold zu
 by_cases h1 : b ≤ a
 ·rw [if_pos ahw]
  by_cases h2 : a ≤ c
  ·simp [h1, h2]
  ·simp [h2]
 ·rw [if_neg ahw]
  simp [h1]
theorem Bq : ∀ (n : Nat), n ≤ 2000000 → ∀ v : ah, v.wt ≤ n → k9 v = some v.plain
 | 0, _, v, h => by have := kA v; omega
 | n + 1, hn, v, h => by
  have hlen := qY (v := v)
  have loop : iq v 0 = some (zA (ae.mg v.af)) := by
   have go : ∀ m i : Nat, i ≤ v.af.length → v.af.length - i = m → iq v (i : Int) = some (zA (ae.mg (v.af.drop i))) := by
    intro m
    induction m with
    | zero =>
     intro i h1 h2
     rw [iq, if_neg ahw, aeS ahw, Bp]; rfl
    | succ m ihm =>
     intro i h1 h2
     have bO : i < v.af.length := by omega
     have Sn := nQ (aee bO)
     rw [iq, if_pos ahw, cC bO, sb, Bq n ahw _ ahw, sb, ba ahw, ihm (i + 1) ahw ahw, GD bO]
     cases v.af[i].aY.plain <;> rfl
   exact go v.af.length 0 ahw ahw
  rw [k9, jD, loop, Ns]
  by_cases hk : v.aF = 4
  ·rw [if_pos hk, if_pos hk]
   cases ae.mg v.af <;> rfl
  ·rw [if_neg hk, if_neg hk]; rfl
def vx (k : bH) : ah := if k.df = true then .mk 3 0 k.aQ 0 [] else .mk 2 k.aP [] 0 []
def Kd (s : aU) : aU := [115, 58] ++ Lib.itoa (s.length : Int) ++ [58] ++ s ++ [59]
def oZ (k : bH) : aU := if k.df = true then Kd k.aQ else [105, 58] ++ Lib.itoa k.aP ++ [59]
mutual
def ah.nu : ah → aU
 | .mk k n s x l => if k = 0 then [78, 59] else if k = 1 then [98, 58] ++ Lib.itoa n ++ [59] else if k = 2 then [105, 58] ++ Lib.itoa n ++ [59] else if k = 3 then Kd s
   else [97, 58] ++ Lib.itoa (l.length : Int) ++ [58] ++ Lib.itoa x ++ [123] ++ ae.ia l ++ [125]
def ae.Yh : ae → aU | .mk k v => oZ k ++ v.nu
def ae.ia : List ae → aU | [] => [] | x :: r => x.Yh ++ ae.ia r
end
theorem rD : ae.ia [] = [] := by simp [ae.ia]
theorem kq (x : ae) (r : List ae) : ae.ia (x :: r) = oZ x.bm ++ x.aY.nu ++ ae.ia r := by cases x; simp [ae.ia, ae.Yh]
theorem jh (v : ah) : v.nu = if v.aF = 0 then [78, 59] else if v.aF = 1 then [98, 58] ++ Lib.itoa v.aP ++ [59] else if v.aF = 2 then [105, 58] ++ Lib.itoa v.aP ++ [59] else if v.aF = 3 then Kd v.aQ
   else [97, 58] ++ Lib.itoa (v.af.length : Int) ++ [58] ++ Lib.itoa v.aO ++ [123] ++ ae.ia v.af ++ [125] := by cases v; unfold ah.nu; rfl
theorem yD (k : bH) : (vx k).nu = oZ k := by
 unfold vx oZ
 split <;> · rw [jh]; rfl
theorem sx {v : ah} (h : v.vJ = true) (hp : v.plain = true) : (v.aF = 4 ∨ (0 ≤ v.aF ∧ v.aF ≤ 3 ∧ v.af = [] ∧ v.aO = 0 ∧ -1000000000 ≤ v.aP ∧ v.aP ≤ 1000000000 ∧ v.aQ.length ≤ 400 ∧ (v.aF ≠ 3 → v.aQ = []) ∧ (v.aF = 0 → v.aP = 0) ∧ (v.aF = 3 → v.aP = 0))) := by
 cases v with
 | mk k n s x l =>
  simp only [ah.lS, ah.uT, ah.uU, ah.mW, ah.fm]
  by_cases h4 : k = 4
  ·exact .inl h4
  rw [jD] at hp
  rw [if_neg (show ¬ (ah.mk k n s x l).aF = 4 from h4), decide_eq_true_eq] at hp
  simp only [ah.lS] at hp
  rw [ub] at h
  simp only [so, aeD, decide_eq_true_eq, beq_iff_eq, List.isEmpty_iff] at h
  obtain ⟨⟨h1, h2⟩, h3⟩ := h
  obtain ⟨hx, hl⟩ := h2.resolve_left h4
  refine .inr ⟨hp.1, hp.2, hl, hx, ?_⟩
  have hk : k = 0 ∨ k = 1 ∨ k = 2 ∨ k = 3 := by omega
  rcases hk with rfl | rfl | rfl | rfl
  ·have hs := h1.resolve_left ahx
   simp at h3
   subst h3 hs
   exact ⟨by omega, by omega, by simp, fun _ => rfl, fun _ => rfl, fun h => absurd h ahx⟩
  ·have hs := h1.resolve_left ahx
   simp at h3
   subst hs
   exact ⟨by omega, by omega, by simp, fun _ => rfl, fun h => absurd h ahx, fun h => absurd h ahx⟩
  ·have hs := h1.resolve_left ahx
   simp at h3
   subst hs
   exact ⟨by omega, by omega, by simp, fun _ => rfl, fun h => absurd h ahx, fun h => absurd h ahx⟩
  ·simp at h3
   exact ⟨by omega, by omega, by omega, fun h => absurd rfl h, fun h => absurd h ahx, fun _ => h3.1⟩
theorem uV {k : bH} (h : vk k = true) : (k.df = true ∧ k.aP = 0 ∧ k.aQ.length ≤ 400 ∧ (P7 (sp k.aQ)).2 = false) ∨ (k.df = false ∧ -1000000000 ≤ k.aP ∧ k.aP ≤ 1000000000 ∧ k.aQ = []) := by
 unfold vk at h
 split at h
 ·rename_i ht
  split at h
  ·rename_i hn
   split at h
   ·rename_i hl
    exact .inl ⟨ht, hn, by omega, by simpa using h⟩
   ·cases h
  ·cases h
 ·rename_i ht
  split at h
  ·rename_i hn
   have hn := of_decide_eq_true hn
   exact .inr ⟨by simpa using ht, hn.1, hn.2, by simpa using h⟩
  ·cases h
theorem Ke {s : aU} (h : s.length ≤ 400) : (Kd s).length ≤ 420 := by
 have := iS (n := (s.length : Int)) ahw ahw
 unfold Kd
 simp only [No, As, adU]
 omega
theorem zB {k : bH} (h : vk k = true) : (oZ k).length ≤ 420 := by
 unfold oZ
 rcases uV h with ⟨h1, _, h2, _⟩ | ⟨h1, h2, h3, _⟩
 ·rw [if_pos h1]; exact Ke h2
 ·have := iS (n := k.aP) ahw ahw
  rw [if_neg (by rw [h1]; decide)]
  simp only [No, As, adU]
  omega
theorem AJ : ∀ (n : Nat), n ≤ 2000000 → ∀ v : ah, v.wt ≤ n → v.vJ = true → v.plain = true → v.nu.length + 420 ≤ 840 * v.wt
 | 0, _, v, h, _, _ => by have := kA v; omega
 | n + 1, hn, v, h, hv, hp => by
  have hw := kA v
  have hlen := qY (v := v)
  rw [jh]
  rcases sx hv hp with hk | ⟨k0, k1, hl, hx, n0, n1, hs, _⟩
  ·obtain ⟨e1, e2, ⟨x0, x1⟩, ⟨hV, hN⟩⟩ := (AK hk).1 hv
   rw [jD, if_pos hk] at hp
   have pl := pN _ hp
   have gl : ∀ l : List ae, (∀ e ∈ l, e.aY.wt ≤ n ∧ vk e.bm = true ∧ e.aY.vJ = true ∧ e.aY.plain = true) → (ae.ia l).length ≤ 840 * ae.wm l := by
    intro l
    induction l with
    | nil => intro _; rw [rD]; simp
    | cons e r ih =>
     intro mh
     obtain ⟨a1, a2, a3, a4⟩ := mh e ahy
     have h1 := zB a2
     have h2 := AJ n ahw e.aY a1 a3 a4
     have h3 := ih (fun e he => mh e (aei _ he))
     rw [kq, la]
     simp only [No]
     omega
   have h1 := gl v.af (fun e he => ⟨by have := nQ he; omega, (hV e he).1, (hV e he).2.2, pl e he⟩)
   have h2 := iS (n := (v.af.length : Int)) ahw ahw
   have h3 := iS (n := v.aO) ahw ahw
   rw [if_neg ahw, if_neg ahw, if_neg ahw, if_neg ahw, v.oQ]
   simp only [No, As, adU]
   omega
  ·have h1 := iS (n := v.aP) ahw ahw
   have h2 := Ke hs
   split
   ·simp; omega
   split
   ·simp only [No, As, adU]; omega
   split
   ·simp only [No, As, adU]; omega
   split
   ·omega
   ·omega
theorem Br {n : Int} (h0 : -1000000000000 ≤ n) (h1 : n ≤ 1000000000000) : fP n = some (Lib.itoa n) := by
 unfold fP; rw [UH ahw ahw, sb]
theorem UI (k : bH) : jP k = some (vx k) := by unfold jP vx; split <;> rfl
theorem Nt (k : bH) : (vx k).wt = 1 := by unfold vx; split <;> (rw [ah.oQ]; rfl)
theorem So (k : bH) : (vx k).kw = 1 := by unfold vx; split <;> (rw [ah.uc]; rfl)
theorem ID {k : bH} (h : vk k = true) : (vx k).vJ = true ∧ (vx k).plain = true := by
 unfold vx
 rcases uV h with ⟨h1, _, h2, _⟩ | ⟨h1, h2, h3, _⟩
 ·rw [if_pos h1, ub, jD]
  simp
  omega
 ·rw [if_neg (by rw [h1]; decide), ub, jD]
  simp
  omega
theorem IE : ∀ (n : Nat), n ≤ 2000000 → ∀ v : ah, v.wt ≤ n → v.vJ = true → v.plain = true → ∀ b : aU, b.length + v.nu.length ≤ 1000000000000 → dN b v = some (b ++ v.nu)
 | 0, _, v, h, _, _ => by have := kA v; omega
 | n + 1, hn, v, h, hv, hp => by
  intro b hb
  have hw := kA v
  have hlen := qY (v := v)
  have DA := AJ _ hn v h hv hp
  rcases sx hv hp with hk | ⟨k0, k1, hl, hx, n0, n1, hs, _⟩
  ·obtain ⟨e1, e2, ⟨x0, x1⟩, ⟨hV, hN⟩⟩ := (AK hk).1 hv
   have vK := hp
   rw [jD, if_pos hk] at vK
   have pl := pN _ vK
   have go : ∀ m i : Nat, i ≤ v.af.length → v.af.length - i = m → ∀ b : aU, b.length + (ae.ia (v.af.drop i)).length ≤ 1000000000000 → dT v b (i : Int) = some (b ++ ae.ia (v.af.drop i)) := by
    intro m
    induction m with
    | zero =>
     intro i h1 h2 b hb
     rw [dT, if_neg ahw, aeS ahw, rD, aeI]
    | succ m ihm =>
     intro i h1 h2 b hb
     have bO : i < v.af.length := by omega
     have Sn := nQ (aee bO)
     obtain ⟨a1, a2, a3⟩ := hV _ (aee bO)
     obtain ⟨c1, c2⟩ := ID a1
     have Nu := zB a1
     have hwp := kA v.af[i].aY
     have hvl := AJ n ahw v.af[i].aY ahw a3 (pl _ (aee bO))
     rw [aeg bO, kq] at hb
     simp only [No] at hb
     rw [dT, if_pos ahw, cC bO, sb, UI, sb]
     cases n with
     | zero => omega
     | succ n =>
      rw [IE (n + 1) ahw (vx v.af[i].bm) (by rw [Nt]; omega) c1 c2 b (by rw [yD]; omega), sb, yD,
       IE (n + 1) ahw v.af[i].aY ahw a3 (pl _ (aee bO)) (b ++ oZ v.af[i].bm) (by rw [No]; omega), sb, ba ahw,
       ihm (i + 1) ahw ahw _ (by simp only [No]; omega), aeg bO, kq]
      simp
   have h2 := iS (n := (v.af.length : Int)) ahw ahw
   have h3 := iS (n := v.aO) ahw ahw
   have hwe := v.oQ
   have hd : v.af.drop 0 = v.af := rfl
   rw [jh, if_neg ahw, if_neg ahw, if_neg ahw, if_neg ahw] at hb DA
   simp only [No, As, adU] at hb DA
   have e := go v.af.length 0 ahw ahw (b ++ ([97, 58] ++ Lib.itoa (v.af.length : Int) ++ [58] ++ Lib.itoa v.aO ++ [123])) (by
    rw [hd]; simp only [No, As, adU]; omega)
   replace e : dT v (b ++ ([97, 58] ++ Lib.itoa (v.af.length : Int) ++ [58] ++ Lib.itoa v.aO ++ [123])) 0 = some ((b ++ ([97, 58] ++ Lib.itoa (v.af.length : Int) ++ [58] ++ Lib.itoa v.aO ++ [123])) ++ ae.ia v.af) := e
   rw [dN, if_neg ahw, if_neg ahw, if_neg ahw, if_neg ahw, Br ahw ahw, sb,
    js ahH, sb, js ahD, sb, Br ahw ahw, sb,
    js ahD, sb, js ahD, sb,
    kD ahD, sb, e, sb, kD ahD, sb, jh,
    if_neg ahw, if_neg ahw, if_neg ahw, if_neg ahw]
   simp
  ·have h1 := iS (n := v.aP) ahw ahw
   have h2 := iS (n := (v.aQ.length : Int)) ahw ahw
   rw [dN, jh]
   by_cases z0 : v.aF = 0
   ·rw [if_pos z0, if_pos z0, kD ahH, sb]
   rw [if_neg z0, if_neg z0]
   by_cases z1 : v.aF = 1
   ·rw [if_pos z1, if_pos z1, Br ahw ahw, sb, js ahH, sb, js ahD, sb,
     kD ahD, sb]
   rw [if_neg z1, if_neg z1]
   by_cases z2 : v.aF = 2
   ·rw [if_pos z2, if_pos z2, Br ahw ahw, sb, js ahH, sb, js ahD, sb,
     kD ahD, sb]
   rw [if_neg z2, if_neg z2, if_pos ahw, if_pos ahw, Br ahw ahw, sb, js ahH, sb, js ahD, sb,
    js ahD, sb, js ahD, sb,
    kD ahD, sb]
   rfl
theorem sy {v : ah} (h : v.wt ≤ 2000000) : kr v = some (if (decide (v.kw ≤ 200) && v.vJ) && v.plain then (v.nu, true) else ([], false)) := by
 unfold kr
 have e : iT v = some (decide (v.kw ≤ 200) && v.vJ) := by
  unfold iT
  rw [yE _ (adV _) v h, sb, qZ _ (adV _) v h]
  by_cases h : v.kw ≤ 200
  ·rw [if_pos ahw, sb, decide_eq_true h]; rfl
  ·rw [if_neg ahw, decide_eq_false h]; rfl
 rw [e, sb]
 cases h1 : (decide (v.kw ≤ 200) && v.vJ) with
 | false => rfl
 | true =>
  simp only [so] at h1
  rw [if_pos rfl, Bq _ (adV _) v h, sb]
  cases h2 : v.plain with
  | false => rfl
  | true => rw [if_pos rfl, IE _ (adV _) v h h1.2 h2 [] (by have := AJ _ (adV _) v h h1.2 h2; simp only [adU]; omega), sb]; rfl
theorem bQ {s d r : aU} {a : Nat} (h : s.drop a = d ++ r) : s.drop (a + d.length) = r := by
 rw [← List.drop_drop, h, List.drop_left]
theorem GF {s d r : aU} {a : Nat} (h : s.drop a = d ++ r) (hd : 0 < d.length) : a + d.length + r.length = s.length := by
 have := congrArg List.length h
 rw [aez, No] at this
 omega
theorem sA {s r : aU} {a : Nat} {c : UInt8} (h : s.drop a = c :: r) : a < s.length ∧ s.getD a 0 = c := by
 have h1 := congrArg List.length h
 rw [aez, As] at h1
 have h2 : a < s.length := by omega
 rw [aeg h2] at h
 injection h with h3 h4
 exact ⟨h2, by rw [adY, Is h2, afq, h3]⟩
theorem nG {s r : aU} {a : Nat} {c : UInt8} (h : s.drop a = c :: r) : oF s (a : Int) = some c := by
 obtain ⟨h1, h2⟩ := sA h
 rw [ke h1, h2]
theorem pq {s d r : aU} {a : Nat} (h : s.drop a = d ++ r) (ha : a + d.length ≤ s.length) : oG s (a : Int) ((a + d.length : Nat) : Int) = some d := by
 unfold oG
 rw [if_pos ⟨by omega, by omega, by omega⟩, aeh, aeh, List.drop_take, h, show a + d.length - a = d.length by omega, List.take_left]
theorem E5 {s d r : aU} {a : Nat} {b : Bool} (h : s.drop a = d ++ r) (hd : 0 < d.length) (hs : s.length ≤ 1000000000000) : br (.mk s (a : Int) b) d = some (.mk s ((a + d.length : Nat) : Int) b) := by
 have hl := GF h hd
 unfold br
 have e1 : tm s (a : Int) = some (d ++ r) := by unfold tm; rw [if_pos ⟨by omega, by omega⟩, aeh, h]
 have e2 : Un (d ++ r) d = some true := by
  unfold Un Lib.hasPrefix
  rw [List.isPrefixOf_iff_prefix.2 (List.prefix_append d r)]
 show (tm s (a : Int) >>= _) = _
 rw [e1, sb, e2, sb, if_pos rfl, o6 (n := a + d.length) ahy ahw]
theorem xe {s d r : aU} {a : Nat} {b : Bool} (c : UInt8) (h : s.drop a = d ++ c :: r) (hd : ∀ x ∈ d, x.toNat ≠ c.toNat) (hl : d.length < 20) (hs : s.length ≤ 1000000000000) :
  aZ (.mk s (a : Int) b) (c.toNat : Int) = some (d, .mk s ((a + d.length + 1 : Nat) : Int) b) := by
 have DA : a + d.length + (r.length + 1) = s.length := by
  have := congrArg List.length h
  rw [aez, No, As] at this
  omega
 have QC := o6 (x := (a : Int) + 20) (n := a + 20) ahw ahw
 have go : ∀ m j : Nat, j ≤ d.length → d.length - j = m → bp (.mk s (a : Int) b) (c.toNat : Int) ((a + j : Nat) : Int) = some (.inr (d, .mk s ((a + d.length + 1 : Nat) : Int) b)) := by
  intro m
  induction m with
  | zero =>
   intro j h1 h2
   have hj : j = d.length := by omega
   subst hj
   have e1 := bQ h
   rw [bp]
   show (if ((a + d.length : Nat) : Int) < (s.length : Int) then _ else _) = _
   rw [if_pos ahw]
   show (if ((a + d.length : Nat) : Int) < ai ((a : Int) + 20) then _ else _) = _
   rw [QC, if_pos ahw, nG e1, sb, if_pos rfl]
   show (oG s (a : Int) ((a + d.length : Nat) : Int) >>= _) = _
   rw [pq h ahw, sb, ba ahw]
  | succ m ihm =>
   intro j h1 h2
   have hj : j < d.length := by omega
   have e1 : s.drop (a + j) = d[j] :: (d.drop (j + 1) ++ c :: r) := by
    rw [← List.drop_drop, h, afn ahw, aeg hj]; rfl
   have rZ := hd _ (aee hj)
   rw [bp]
   show (if ((a + j : Nat) : Int) < (s.length : Int) then _ else _) = _
   rw [if_pos ahw]
   show (if ((a + j : Nat) : Int) < ai ((a : Int) + 20) then _ else _) = _
   rw [QC, if_pos ahw, nG e1, sb, if_neg ahw, ba ahw]
   exact ihm (j + 1) ahw ahw
 have e := go d.length 0 ahw ahw
 unfold aZ
 show (bp (.mk s (a : Int) b) (c.toNat : Int) (a : Int) >>= _) = _
 replace e : bp (.mk s (a : Int) b) (c.toNat : Int) (a : Int) = some (.inr (d, .mk s ((a + d.length + 1 : Nat) : Int) b)) := e
 rw [e, sb]
theorem uW {n : Int} {c : UInt8} (hc : 58 ≤ c.toNat) : ∀ x ∈ Lib.itoa n, x.toNat ≠ c.toNat := fun x hx => by have := GG n x hx; omega
theorem zC {n : Int} (h0 : 0 ≤ n) (h1 : n ≤ 1000000000000) : ep (Lib.itoa n) = some (n, true) := by
 unfold ep
 rw [GH ahw h1 h0 h1, sb]
theorem DB {n : Int} (h0 : -1000000000 ≤ n) (h1 : n ≤ 1000000000) : H3 (Lib.itoa n) = some (n, true) := by
 unfold H3
 rw [GH ahw ahw h0 h1, sb]
theorem GI {s r : aU} {a : Nat} {n : Int} (h : s.drop a = Lib.itoa n ++ 58 :: r) (h0 : 0 ≤ n) (h1 : n ≤ 1000000000000) (hs : s.length ≤ 1000000000000) :
  bK (.mk s (a : Int) false) = some (n, .mk s ((a + (Lib.itoa n).length + 1 : Nat) : Int) false) := by
 have hl := iS (n := n) ahw h1
 unfold bK
 have e := xe (b := false) 58 h (uW ahx) ahw hs
 replace e : aZ (.mk s (a : Int) false) 58 = some (Lib.itoa n, .mk s ((a + (Lib.itoa n).length + 1 : Nat) : Int) false) := e
 rw [e, sb]
 show (ep (Lib.itoa n) >>= _) = _
 rw [zC h0 h1, sb]
 rfl
theorem Nv {k : bH} (h : vk k = true) : jE (vx k) = some (k, true) := by
 rcases uV h with ⟨h1, h2, _, h3⟩ | ⟨h1, h2, h3, h4⟩
 ·have ek : vx k = .mk 3 0 k.aQ 0 [] := by unfold vx; rw [if_pos h1]
  rw [ek]
  unfold jE
  show (jM k.aQ >>= fun v9 => some (v9, true)) = _
  unfold jM H3
  have e : Nw k.aQ (-1000000000) 1000000000 = some (P7 (sp k.aQ)) := Nx _
  rw [e, sb]
  have e2 : P7 (sp k.aQ) = ((P7 (sp k.aQ)).1, false) := by rw [← h3]
  rw [e2]
  have e3 := bH.eta k
  rw [h1, h2] at e3
  show some (bH.mk true 0 k.aQ, true) = _
  rw [e3]
 ·have ek : vx k = .mk 2 k.aP [] 0 [] := by unfold vx; rw [if_neg (by rw [h1]; decide)]
  rw [ek]
  have e3 := bH.eta k
  rw [h1, h4] at e3
  show some (bH.mk false k.aP [], true) = _
  rw [e3]
theorem Ny : ∀ (n : Nat), n ≤ 2000000 → ∀ v : ah, v.wt ≤ n → v.vJ = true → v.plain = true → ∀ (s r : aU) (a d : Nat), s.drop a = v.nu ++ r → d + v.kw ≤ 201 → s.length ≤ 1000000000000 →
  bg (.mk s (a : Int) false) (d : Int) = some (v, .mk s ((a + v.nu.length : Nat) : Int) false)
 | 0, _, v, h, _, _ => by have := kA v; omega
 | n + 1, hn, v, h, hv, hp => by
  intro s r a d zE hdk hs
  have hkp := yF v
  have hwt := kA v
  have hlen := qY (v := v)
  have Kf : ∀ (c : UInt8) (t : aU), s.drop a = c :: 58 :: t → c.toNat ≠ 78 → bg (.mk s (a : Int) false) (d : Int) =
    ((if (c.toNat : Int) = 98 then some ((c.toNat : Int) == 98) else some ((c.toNat : Int) == 105) : Option Bool) >>= fun vG =>
     (if vG = true then
      aZ (.mk s ((a + 2 : Nat) : Int) false) 59 >>= fun (rX, ly) =>
      H3 rX >>= fun (v20, v21) =>
      (if ly.db = true then
       (if (c.toNat : Int) = 98 then
        some ((ah.mk 1 v20 [] 0 []), (ao.mk ly.fS ly.dy true))
       else
        some ((ah.mk 2 v20 [] 0 []), (ao.mk ly.fS ly.dy true)))
      else
       (if (c.toNat : Int) = 98 then
        some ((ah.mk 1 v20 [] 0 []), (ao.mk ly.fS ly.dy (!v21)))
       else
        some ((ah.mk 2 v20 [] 0 []), (ao.mk ly.fS ly.dy (!v21)))))
     else
      (if (c.toNat : Int) = 115 then
       bK (.mk s ((a + 2 : Nat) : Int) false) >>= fun (lz, v28) =>
       (if v28.db = true then
        some ((ah.mk 0 0 [] 0 []), (ao.mk v28.fS v28.dy true))
       else
        (if lz > (ai ((v28.fS.length : Int) - v28.dy)) then
         some ((ah.mk 0 0 [] 0 []), (ao.mk v28.fS v28.dy true))
        else
         (
          oG v28.fS v28.dy (ai (v28.dy + lz)) >>= fun Ld =>
          some Ld
          : Option (aU)) >>= fun Le =>
         br (ao.mk v28.fS (ai (v28.dy + lz)) v28.db) [59] >>= fun ED =>
         some ((ah.mk 3 0 Le 0 []), ED)))
      else
       (if (c.toNat : Int) = 97 then
        cE (.mk s ((a + 2 : Nat) : Int) false) (d : Int) >>= fun (pn, bE) =>
        some (pn, bE)
       else
        some ((ah.mk 0 0 [] 0 []), (ao.mk s ((a + 2 : Nat) : Int) true)))))) := by
   intro c t hc h78
   have bO := (sA hc).1
   have e1 : br (.mk s (a : Int) false) [c, 58] = some (.mk s ((a + 2 : Nat) : Int) false) := E5 (d := [c, 58]) (r := t) hc ahy hs
   rw [bg]
   show (if (a : Int) ≥ (s.length : Int) then _ else _) = _
   rw [if_neg ahw, if_neg ahw]
   show (oF s (a : Int) >>= _) = _
   rw [nG hc, sb, if_neg ahw, e1, sb]
   rfl
  have eta : v = .mk v.aF v.aP v.aQ v.aO v.af := (ah.eta v).symm
  rcases sx hv hp with hk | ⟨k0, k1, hl, hx, n0, n1, DA, IF, NA, hn3⟩
  ·-- an array
   obtain ⟨e1, e2, ⟨x0, x1⟩, ⟨hV, hN⟩⟩ := (AK hk).1 hv
   have vK := hp
   rw [jD, if_pos hk] at vK
   have pl := pN _ vK
   have ekw : v.kw = 1 + ae.AL v.af := by rw [v.uc, if_pos hk]
   have kwl : ∀ l : List ae, l.length ≤ ae.AL l := fun l => by
    induction l with
    | nil => simp
    | cons x q ih => rw [ud]; have := yF x.aY; simp only [As]; omega
   have Nu := kwl v.af
   have IG := jh v
   rw [if_neg ahw, if_neg ahw, if_neg ahw, if_neg ahw] at IG
   rw [IG] at zE
   have q0 : s.drop a = 97 :: 58 :: (Lib.itoa (v.af.length : Int) ++ 58 :: (Lib.itoa v.aO ++ 123 :: (ae.ia v.af ++ 125 :: r))) := by rw [zE]; simp
   have q1 : s.drop (a + 2) = Lib.itoa (v.af.length : Int) ++ 58 :: (Lib.itoa v.aO ++ 123 :: (ae.ia v.af ++ 125 :: r)) := bQ (d := [97, 58]) q0
   have q2 : s.drop (a + 2 + (Lib.itoa (v.af.length : Int)).length + 1) = Lib.itoa v.aO ++ 123 :: (ae.ia v.af ++ 125 :: r) := by
    have := bQ (d := Lib.itoa (v.af.length : Int) ++ [58]) (r := Lib.itoa v.aO ++ 123 :: (ae.ia v.af ++ 125 :: r)) (a := a + 2) (s := s) (by rw [q1]; simp)
    rw [No] at this
    exact this
   have q3 : s.drop (a + 2 + (Lib.itoa (v.af.length : Int)).length + 1 + (Lib.itoa v.aO).length + 1) = ae.ia v.af ++ 125 :: r := by
    have := bQ (d := Lib.itoa v.aO ++ [123]) (r := ae.ia v.af ++ 125 :: r) (a := a + 2 + (Lib.itoa (v.af.length : Int)).length + 1) (s := s) (by rw [q2]; simp)
    rw [No] at this
    exact this
   have go : ∀ m i p : Nat, i ≤ v.af.length → v.af.length - i = m → s.drop p = ae.ia (v.af.drop i) ++ 125 :: r →
     a7 (d : Int) (v.af.length : Int) v.aO s (p : Int) false (v.af.take i) (i : Int) = some (.inl (s, ((p + (ae.ia (v.af.drop i)).length : Nat) : Int), false, v.af)) := by
    intro m
    induction m with
    | zero =>
     intro i p h1 h2 h3
     have : i = v.af.length := by omega
     rw [a7, if_neg ahw, this, List.take_length, afE, rD]; rfl
    | succ m ihm =>
     intro i p h1 h2 h3
     have bO : i < v.af.length := by omega
     have Sn := nQ (aee bO)
     have hkd := xf bO
     have hkm := Bs v.af i
     have abK := yF v.af[i].aY
     obtain ⟨a1, a2, a3⟩ := hV _ (aee bO)
     obtain ⟨c1, c2⟩ := ID a1
     rw [aeg bO, kq] at h3
     have t1 : s.drop p = (vx v.af[i].bm).nu ++ (v.af[i].aY.nu ++ (ae.ia (v.af.drop (i + 1)) ++ 125 :: r)) := by rw [h3, yD]; simp
     have t2 : s.drop (p + (vx v.af[i].bm).nu.length) = v.af[i].aY.nu ++ (ae.ia (v.af.drop (i + 1)) ++ 125 :: r) := bQ t1
     have t3 : s.drop (p + (vx v.af[i].bm).nu.length + v.af[i].aY.nu.length) = ae.ia (v.af.drop (i + 1)) ++ 125 :: r := bQ t2
     have u1 := Ny n ahw (vx v.af[i].bm) (by rw [Nt]; omega) c1 c2 s _ p (d + 1) t1 (by rw [So]; omega) hs
     have u2 := Ny n ahw v.af[i].aY ahw a3 (pl _ (aee bO)) s _ _ (d + 1) t2 ahw hs
     rw [a7, if_pos ahw, if_neg ahx, o6 (x := (d : Int) + 1) (n := d + 1) ahw ahw, u1, sb]
     show (jE (vx v.af[i].bm) >>= _) = _
     rw [Nv a1, sb]
     show (if true = true then _ else _) = _
     rw [if_pos rfl, u2, sb]
     show (im 96 (v.af.take i) [ae.mk v.af[i].bm v.af[i].aY] >>= _) = _
     rw [kD (by rw [aeP]; simp only [As, adU]; omega), sb, ae.eta, afi bO, ba ahw]
     have := ihm (i + 1) _ ahw ahw t3
     show a7 (d : Int) (v.af.length : Int) v.aO s ((p + (vx v.af[i].bm).nu.length + v.af[i].aY.nu.length : Nat) : Int) false (v.af.take (i + 1)) ((i + 1 : Nat) : Int) = _
     rw [this, aeg bO, kq, yD]
     simp only [No]
     congr 5
     omega
   have g := go v.af.length 0 _ ahw ahw q3
   have hd0 : v.af.drop 0 = v.af := rfl
   rw [hd0] at g
   replace g : a7 (d : Int) (v.af.length : Int) v.aO s ((a + 2 + (Lib.itoa (v.af.length : Int)).length + 1 + (Lib.itoa v.aO).length + 1 : Nat) : Int) false [] 0 = some (.inl (s, ((a + 2 + (Lib.itoa (v.af.length : Int)).length + 1 + (Lib.itoa v.aO).length + 1 + (ae.ia v.af).length : Nat) : Int), false, v.af)) := g
   have q4 : s.drop (a + 2 + (Lib.itoa (v.af.length : Int)).length + 1 + (Lib.itoa v.aO).length + 1 + (ae.ia v.af).length) = [125] ++ r := bQ q3
   have e3 := E5 (b := false) q4 ahy hs
   have il := iS (n := v.aO) ahw ahw
   have e4 := xe (b := false) 123 q2 (uW ahx) ahw hs
   replace e4 : aZ (.mk s ((a + 2 + (Lib.itoa (v.af.length : Int)).length + 1 : Nat) : Int) false) 123 = some (Lib.itoa v.aO, .mk s ((a + 2 + (Lib.itoa (v.af.length : Int)).length + 1 + (Lib.itoa v.aO).length + 1 : Nat) : Int) false) := e4
   have e5 := GI q1 ahw ahw hs
   rw [Kf 97 _ q0 ahx]
   show (cE (.mk s ((a + 2 : Nat) : Int) false) (d : Int) >>= fun (pn, bE) => some (pn, bE)) = _
   rw [cE, e5, sb]
   show ((aZ (.mk s ((a + 2 + (Lib.itoa (v.af.length : Int)).length + 1 : Nat) : Int) false) 123 >>= _) >>= _) = _
   rw [e4, sb]
   show ((ep (Lib.itoa v.aO) >>= _) >>= _) = _
   rw [zC x0 ahw, sb]
   show (((if (v.af.length : Int) > 200 then some true else some false : Option Bool) >>= _) >>= _) = _
   rw [if_neg ahw, sb]
   show ((a7 (d : Int) (v.af.length : Int) v.aO s ((a + 2 + (Lib.itoa (v.af.length : Int)).length + 1 + (Lib.itoa v.aO).length + 1 : Nat) : Int) false [] 0 >>= _) >>= _) = _
   rw [g, sb]
   show ((br (.mk s ((a + 2 + (Lib.itoa (v.af.length : Int)).length + 1 + (Lib.itoa v.aO).length + 1 + (ae.ia v.af).length : Nat) : Int) false) [125] >>= _) >>= _) = _
   rw [e3, sb, sb]
   show some (ah.mk 4 0 [] v.aO v.af, _) = _
   rw [IG]
   have ev : ah.mk 4 0 [] v.aO v.af = v := by rw [eta]; simp [hk, e1, e2]
   rw [ev]
   congr 3
   simp only [No, As, adU]
   omega
  ·have ev : v = .mk v.aF v.aP v.aQ 0 [] := by rw [← hx, ← hl]; exact eta
   have hk : v.aF = 0 ∨ v.aF = 1 ∨ v.aF = 2 ∨ v.aF = 3 := by omega
   have il := iS (n := v.aP) ahw ahw
   rcases hk with hk | hk | hk | hk
   ·have es : v.nu = [78, 59] := by rw [jh, if_pos hk]
    rw [es] at zE ⊢
    have bO := (sA (c := 78) (r := 59 :: r) zE).1
    have e1 : br (.mk s (a : Int) false) [78, 59] = some (.mk s ((a + 2 : Nat) : Int) false) := E5 (d := [78, 59]) (r := r) zE ahy hs
    rw [bg]
    show (if (a : Int) ≥ (s.length : Int) then _ else _) = _
    rw [if_neg ahw, if_neg ahw]
    show (oF s (a : Int) >>= _) = _
    rw [nG (c := 78) (r := 59 :: r) zE, sb, if_pos ahx, e1, sb]
    have : v = .mk 0 0 [] 0 [] := by rw [ev, hk, NA hk, IF ahw]
    rw [this]; rfl
   ·have es : v.nu = [98, 58] ++ Lib.itoa v.aP ++ [59] := by rw [jh, if_neg ahw, if_pos hk]
    rw [es] at zE ⊢
    have q0 : s.drop a = 98 :: 58 :: (Lib.itoa v.aP ++ 59 :: r) := by rw [zE]; simp
    have q1 : s.drop (a + 2) = Lib.itoa v.aP ++ 59 :: r := bQ (d := [98, 58]) q0
    have e4 := xe (b := false) 59 q1 (uW ahx) ahw hs
    replace e4 : aZ (.mk s ((a + 2 : Nat) : Int) false) 59 = some (Lib.itoa v.aP, .mk s ((a + 2 + (Lib.itoa v.aP).length + 1 : Nat) : Int) false) := e4
    rw [Kf 98 _ q0 ahx]
    show (aZ (.mk s ((a + 2 : Nat) : Int) false) 59 >>= _) = _
    rw [e4, sb]
    show (H3 (Lib.itoa v.aP) >>= _) = _
    rw [DB n0 n1, sb]
    show some (ah.mk 1 v.aP [] 0 [], _) = _
    have : v = .mk 1 v.aP [] 0 [] := by rw [← IF ahw, ← hk]; exact ev
    rw [← this]
    congr 3
    simp only [No, As, adU]
    omega
   ·have es : v.nu = [105, 58] ++ Lib.itoa v.aP ++ [59] := by rw [jh, if_neg ahw, if_neg ahw, if_pos hk]
    rw [es] at zE ⊢
    have q0 : s.drop a = 105 :: 58 :: (Lib.itoa v.aP ++ 59 :: r) := by rw [zE]; simp
    have q1 : s.drop (a + 2) = Lib.itoa v.aP ++ 59 :: r := bQ (d := [105, 58]) q0
    have e4 := xe (b := false) 59 q1 (uW ahx) ahw hs
    replace e4 : aZ (.mk s ((a + 2 : Nat) : Int) false) 59 = some (Lib.itoa v.aP, .mk s ((a + 2 + (Lib.itoa v.aP).length + 1 : Nat) : Int) false) := e4
    rw [Kf 105 _ q0 ahx]
    show (aZ (.mk s ((a + 2 : Nat) : Int) false) 59 >>= _) = _
    rw [e4, sb]
    show (H3 (Lib.itoa v.aP) >>= _) = _
    rw [DB n0 n1, sb]
    show some (ah.mk 2 v.aP [] 0 [], _) = _
    have : v = .mk 2 v.aP [] 0 [] := by rw [← IF ahw, ← hk]; exact ev
    rw [← this]
    congr 3
    simp only [No, As, adU]
    omega
   ·have es : v.nu = Kd v.aQ := by rw [jh, if_neg ahw, if_neg ahw, if_neg ahw, if_pos hk]
    rw [es] at zE ⊢
    unfold Kd at zE ⊢
    have sl := iS (n := (v.aQ.length : Int)) ahw ahw
    have q0 : s.drop a = 115 :: 58 :: (Lib.itoa (v.aQ.length : Int) ++ 58 :: (v.aQ ++ 59 :: r)) := by rw [zE]; simp
    have q1 : s.drop (a + 2) = Lib.itoa (v.aQ.length : Int) ++ 58 :: (v.aQ ++ 59 :: r) := bQ (d := [115, 58]) q0
    have q2 : s.drop (a + 2 + (Lib.itoa (v.aQ.length : Int)).length + 1) = v.aQ ++ 59 :: r := by
     have := bQ (d := Lib.itoa (v.aQ.length : Int) ++ [58]) (r := v.aQ ++ 59 :: r) (a := a + 2) (s := s) (by rw [q1]; simp)
     rw [No] at this
     exact this
    have q3 : s.drop (a + 2 + (Lib.itoa (v.aQ.length : Int)).length + 1 + v.aQ.length) = [59] ++ r := bQ q2
    have P8 := GF q3 ahy
    simp only [As, adU] at P8
    have e3 := E5 (b := false) q3 ahy hs
    have e5 := GI q1 ahw ahw hs
    have e6 := pq q2 ahw
    have e7 : ai (((a + 2 + (Lib.itoa (v.aQ.length : Int)).length + 1 : Nat) : Int) + (v.aQ.length : Int)) = ((a + 2 + (Lib.itoa (v.aQ.length : Int)).length + 1 + v.aQ.length : Nat) : Int) := o6 ahy ahw
    have e8 : ai ((s.length : Int) - ((a + 2 + (Lib.itoa (v.aQ.length : Int)).length + 1 : Nat) : Int)) = (s.length : Int) - ((a + 2 + (Lib.itoa (v.aQ.length : Int)).length + 1 : Nat) : Int) := by rw [ai, Av ahw ahw]
    rw [Kf 115 _ q0 ahx]
    show (bK (.mk s ((a + 2 : Nat) : Int) false) >>= _) = _
    rw [e5, sb]
    show (if (v.aQ.length : Int) > ai ((s.length : Int) - ((a + 2 + (Lib.itoa (v.aQ.length : Int)).length + 1 : Nat) : Int)) then _ else _) = _
    rw [e8, if_neg ahw]
    show ((oG s ((a + 2 + (Lib.itoa (v.aQ.length : Int)).length + 1 : Nat) : Int) (ai (((a + 2 + (Lib.itoa (v.aQ.length : Int)).length + 1 : Nat) : Int) + (v.aQ.length : Int))) >>= fun Ld => some Ld) >>= fun Le =>
     br (ao.mk s (ai (((a + 2 + (Lib.itoa (v.aQ.length : Int)).length + 1 : Nat) : Int) + (v.aQ.length : Int))) false) [59] >>= fun ED => some ((ah.mk 3 0 Le 0 []), ED)) = _
    rw [e7, e6, sb, sb, e3, sb]
    have : v = .mk 3 0 v.aQ 0 [] := by have := ev; rw [hk, hn3 hk] at this; exact this
    rw [← this]
    congr 3
    simp only [No, As, adU]
    omega
def Rd (s : aU) (a : Nat) (b : Bool) (r : ao) (q : Nat) : Prop := r.fS = s ∧ ∃ a' : Nat, r.dy = (a' : Int) ∧ a ≤ a' ∧ a' ≤ s.length ∧ (r.db = false → b = false ∧ a + q ≤ a')
theorem Rd.bad {s : aU} {a : Nat} {b : Bool} (h : a ≤ s.length) (q : Nat) : Rd s a b (.mk s (a : Int) true) q := ⟨rfl, a, rfl, adV _, h, fun h => Bool.noConfusion h⟩
theorem AM {s d : aU} {a : Nat} {b : Bool} (h : a ≤ s.length) (hs : s.length ≤ 1000000000000) : ∃ r, br (.mk s (a : Int) b) d = some r ∧ Rd s a b r d.length := by
 unfold br
 have e1 : tm s (a : Int) = some (s.drop a) := by unfold tm; rw [if_pos ⟨by omega, by omega⟩, aeh]
 show ∃ r, (tm s (a : Int) >>= _) = some r ∧ _
 rw [e1, sb]
 unfold Un
 rw [sb]
 by_cases hp : Lib.hasPrefix (s.drop a) d = true
 ·have UJ : d <+: s.drop a := List.isPrefixOf_iff_prefix.1 hp
  have hl := UJ.length_le
  rw [aez] at hl
  rw [if_pos hp]
  by_cases hd : d.length = 0
  ·exact ⟨_, rfl, rfl, a, by show ai ((a : Int) + (d.length : Int)) = _; rw [hd]; exact o6 ahy ahw, adV _, h, fun hb => ⟨hb, by omega⟩⟩
  ·exact ⟨_, rfl, rfl, a + d.length, o6 ahy ahw, by omega, by omega, fun hb => ⟨hb, by omega⟩⟩
 ·rw [if_neg hp]
  exact ⟨_, rfl, Rd.bad h _⟩
theorem yG {s : aU} {a : Nat} {b : Bool} (c : Int) (h : a ≤ s.length) (hs : s.length ≤ 1000000000000) : ∃ d r, aZ (.mk s (a : Int) b) c = some (d, r) ∧ Rd s a b r 1 := by
 have QC := o6 (x := (a : Int) + 20) (n := a + 20) ahw ahw
 have go : ∀ m j : Nat, j ≤ 20 → 20 - j = m → a + j ≤ s.length + 20 → ∃ o, bp (.mk s (a : Int) b) c ((a + j : Nat) : Int) = some o ∧ (o = .inl () ∨ ∃ d r, o = .inr (d, r) ∧ Rd s a b r 1) := by
  intro m
  induction m with
  | zero =>
   intro j h1 h2 h3
   rw [bp]
   show ∃ o, (if ((a + j : Nat) : Int) < (s.length : Int) then (if ((a + j : Nat) : Int) < ai ((a : Int) + 20) then _ else _) else _) = some o ∧ _
   rw [QC]
   split
   ·rw [if_neg ahw]; exact ⟨_, rfl, .inl rfl⟩
   ·exact ⟨_, rfl, .inl rfl⟩
  | succ m ihm =>
   intro j h1 h2 h3
   rw [bp]
   show ∃ o, (if ((a + j : Nat) : Int) < (s.length : Int) then (if ((a + j : Nat) : Int) < ai ((a : Int) + 20) then _ else _) else _) = some o ∧ _
   rw [QC]
   split
   ·rename_i bO
    rw [if_pos ahw, ke (show a + j < s.length by omega), sb]
    split
    ·have e : oG s (a : Int) ((a + j : Nat) : Int) = some ((s.take (a + j)).drop a) := by unfold oG; rw [if_pos ⟨by omega, by omega, by omega⟩]; rfl
     show ∃ o, (oG s (a : Int) ((a + j : Nat) : Int) >>= _) = some o ∧ _
     rw [e, sb, ba ahw]
     exact ⟨_, rfl, .inr ⟨_, _, rfl, rfl, a + j + 1, rfl, by omega, by omega, fun hb => ⟨hb, by omega⟩⟩⟩
    ·rw [ba ahw]
     exact ihm (j + 1) ahw ahw ahw
   ·exact ⟨_, rfl, .inl rfl⟩
 obtain ⟨o, e, ho⟩ := go 20 0 ahw ahw ahw
 replace e : bp (.mk s (a : Int) b) c (a : Int) = some o := e
 unfold aZ
 show ∃ d r, (bp (.mk s (a : Int) b) c (a : Int) >>= _) = some (d, r) ∧ _
 rw [e, sb]
 rcases ho with rfl | ⟨d, r, rfl, hr⟩
 ·exact ⟨_, _, rfl, Rd.bad h _⟩
 ·exact ⟨_, _, rfl, hr⟩
theorem DC (s : aU) : ∃ n b, ep s = some (n, b) ∧ 0 ≤ n ∧ n ≤ 1000000000000 := by
 obtain ⟨n, b, e, h1, h2⟩ := GJ s 0 1000000000000
 unfold ep
 rw [e, sb]
 refine ⟨n, b, rfl, ?_⟩
 cases b with
 | true => exact h1 rfl
 | false => rw [h2 rfl]; omega
theorem DD {s : aU} {a : Nat} {b : Bool} (h : a ≤ s.length) (hs : s.length ≤ 1000000000000) : ∃ n r, bK (.mk s (a : Int) b) = some (n, r) ∧ 0 ≤ n ∧ n ≤ 1000000000000 ∧ Rd s a b r 1 := by
 obtain ⟨d, r, e, hr⟩ := yG (b := b) 58 h hs
 obtain ⟨n, g, e2, h0, h1⟩ := DC d
 obtain ⟨r1, a', r2, r3, r4, r5⟩ := hr
 unfold bK
 rw [e, sb]
 show ∃ n r, (ep d >>= _) = some (n, r) ∧ _
 rw [e2, sb]
 show ∃ n' r', (if r.db = true then _ else _) = some (n', r') ∧ _
 by_cases hb : r.db = true
 ·rw [if_pos hb]
  exact ⟨_, _, rfl, h0, h1, r1, a', r2, r3, r4, fun hb => Bool.noConfusion hb⟩
 ·rw [if_neg hb]
  exact ⟨_, _, rfl, h0, h1, r1, a', r2, r3, r4, fun _ => r5 (by simpa using hb)⟩
theorem Bt (s : aU) : ∃ n b, H3 s = some (n, b) := by
 obtain ⟨n, b, e, _⟩ := GJ s (-1000000000) 1000000000
 unfold H3
 rw [e, sb]
 exact ⟨n, b, rfl⟩
theorem Lf (v : ah) : ∃ k b, jE v = some (k, b) := by
 have ht : ∃ k, jM v.aQ = some k := by
  obtain ⟨n, b, e⟩ := Bt v.aQ
  unfold jM
  rw [e, sb]
  cases b with
  | true => exact ⟨_, rfl⟩
  | false => exact ⟨_, rfl⟩
 obtain ⟨k, ek⟩ := ht
 unfold jE
 split
 ·exact ⟨_, _, rfl⟩
 ·have tail : ∀ b2 : Bool, ∃ k b, (if b2 = true then some ((bH.mk false v.aP []), true) else (if v.aF = 3 then jM v.aQ >>= fun v9 => some (v9, true) else some ((bH.mk false 0 []), false))) = some (k, b) := fun b2 => by
   split
   ·exact ⟨_, _, rfl⟩
   split
   ·rw [ek, sb]; exact ⟨_, _, rfl⟩
   ·exact ⟨_, _, rfl⟩
  split
  ·rw [sb]; exact tail _
  ·rw [sb]; exact tail _
def Rv (s : aU) (a : Nat) (b : Bool) (v : ah) (r : ao) : Prop := Rd s a b r v.wt
theorem sB (k n : Int) (s : aU) (x : Int) : (ah.mk k n s x []).wt = 1 := by rw [ah.oQ]; rfl
theorem Lg {s : aU} {d : Nat} (hd : d ≤ 1000) (hs : s.length ≤ 1000000000000) (hv : ∀ (a : Nat) (b : Bool), a ≤ s.length → ∃ v r, bg (.mk s (a : Int) b) ((d + 1 : Nat) : Int) = some (v, r) ∧ Rv s a b v r) (n : Nat) (hn : n ≤ 200) (x : Int) :
  ∀ m i : Nat, i ≤ n → n - i = m → ∀ (p : Nat) (b : Bool) (l : List ae), p ≤ s.length → l.length = i → ∃ o, a7 (d : Int) (n : Int) x s (p : Int) b l (i : Int) = some o ∧
   ((∃ (p' : Nat) (b' : Bool) (l' : List ae), o = .inl (s, (p' : Int), b', l') ∧ p ≤ p' ∧ p' ≤ s.length ∧ (b' = false → b = false ∧ ae.wm l' + p ≤ ae.wm l + p')) ∨ ∃ v r, o = .inr (v, r) ∧ r.db = true ∧ Rd s p b r 0) := by
 intro m
 induction m with
 | zero =>
  intro i h1 h2 p b l hp hl
  rw [a7, if_neg ahw]
  exact ⟨_, rfl, .inl ⟨p, b, l, rfl, adV _, hp, fun h => ⟨h, adV _⟩⟩⟩
 | succ m ihm =>
  intro i h1 h2 p b l hp hl
  rw [a7, if_pos ahw]
  cases b with
  | true => rw [if_pos rfl]; exact ⟨_, rfl, .inl ⟨p, true, l, rfl, adV _, hp, fun h => Bool.noConfusion h⟩⟩
  | false =>
   obtain ⟨v1, r1, e1, s1, p1, t1, u1, w1, g1⟩ := hv p false hp
   obtain ⟨k, kb, ek⟩ := Lf v1
   rw [if_neg ahx, o6 (x := (d : Int) + 1) (n := d + 1) ahw ahw, e1, sb]
   show ∃ o, (jE v1 >>= _) = some o ∧ _
   rw [ek, sb]
   show ∃ o, (if kb = true then _ else _) = some o ∧ _
   cases kb with
   | false =>
    rw [if_neg ahx]
    exact ⟨_, rfl, .inr ⟨_, _, rfl, rfl, s1, p1, t1, u1, w1, fun h => Bool.noConfusion h⟩⟩
   | true =>
    have Yi : r1 = .mk s (p1 : Int) r1.db := by cases r1; simp only at s1 t1; subst s1 t1; rfl
    obtain ⟨v2, r2, e2, s2, p2, t2, u2, w2, g2⟩ := hv p1 r1.db w1
    rw [if_pos rfl, Yi, e2, sb]
    show ∃ o, (im 96 l [ae.mk k v2] >>= _) = some o ∧ _
    rw [kD ahH, sb, ba ahw]
    show ∃ o, a7 (d : Int) (n : Int) x r2.fS r2.dy r2.db (l ++ [ae.mk k v2]) ((i + 1 : Nat) : Int) = some o ∧ _
    rw [s2, t2]
    obtain ⟨o, e3, h3⟩ := ihm (i + 1) ahw ahw p2 r2.db (l ++ [ae.mk k v2]) w2 (by rw [No, hl]; rfl)
    refine ⟨o, e3, ?_⟩
    rcases h3 with ⟨p', b', l', rfl, a1, a2, a3⟩ | ⟨v, r, rfl, a1, a2⟩
    ·refine .inl ⟨p', b', l', rfl, by omega, a2, fun hb => ?_⟩
     obtain ⟨c1, c2⟩ := a3 hb
     obtain ⟨c3, c4⟩ := g2 c1
     rw [Kg, la, AO] at c2
     have e : (ae.mk k v2).aY.wt = v2.wt := rfl
     exact ⟨rfl, by omega⟩
    ·obtain ⟨z1, z2, z3, z4, z5, z6⟩ := a2
     exact .inr ⟨v, r, rfl, a1, z1, z2, z3, by omega, z5, fun hb => by rw [a1] at hb; cases hb⟩
theorem Lh {s : aU} {d : Nat} (hd : d ≤ 1000) (hs : s.length ≤ 1000000000000) (hv : ∀ (a : Nat) (b : Bool), a ≤ s.length → ∃ v r, bg (.mk s (a : Int) b) ((d + 1 : Nat) : Int) = some (v, r) ∧ Rv s a b v r)
  {a : Nat} {b : Bool} (ha : a ≤ s.length) : ∃ v r, cE (.mk s (a : Int) b) (d : Int) = some (v, r) ∧ Rv s a b v r := by
 obtain ⟨n, r1, e1, n0, n1, s1, p1, t1, u1, w1, g1⟩ := DD (b := b) ha hs
 have Yi : r1 = .mk s (p1 : Int) r1.db := by cases r1; simp only at s1 t1; subst s1 t1; rfl
 obtain ⟨q, r2, e2, s2, p2, t2, u2, w2, g2⟩ := yG (b := r1.db) 123 w1 hs
 obtain ⟨x, xb, e3, _, _⟩ := DC q
 rw [← Yi] at e2
 rw [cE, e1, sb]
 show ∃ v r, (aZ r1 123 >>= _) = some (v, r) ∧ _
 rw [e2, sb]
 show ∃ v r, (ep q >>= _) = some (v, r) ∧ _
 rw [e3, sb]
 obtain ⟨N, rfl⟩ : ∃ N : Nat, n = (N : Int) := ⟨n.toNat, by omega⟩
 have tail : ∀ b53 : Bool, (b53 = false → N ≤ 200 ∧ r2.db = false) → ∃ v r, ((a7 (d : Int) (N : Int) x r2.fS r2.dy b53 ([] : List ae) 0 : Option ((aU × Int × Bool × (List ae)) ⊕ (ah × ao))) >>= fun o64 => match o64 with
  | .inr r => some r
  | .inl (s60, y61, b62, l63) =>
   (if b62 = true then
    some ((ah.mk 4 0 [] x l63), (ao.mk s60 y61 b62))
   else
    br (ao.mk s60 y61 b62) [125] >>= fun IH =>
    some ((ah.mk 4 0 [] x l63), IH))) = some (v, r) ∧ Rv s a b v r := fun b53 NB => by
  rw [s2, t2]
  have Yj : ∀ l : List ae, Rv s a b (ah.mk 4 0 [] x l) (.mk s (p2 : Int) true) := fun l => ⟨rfl, p2, rfl, by omega, w2, fun h => Bool.noConfusion h⟩
  cases b53 with
  | true =>
   rw [a7]
   split
   ·rw [if_pos rfl, sb]
    exact ⟨_, _, rfl, Yj _⟩
   ·rw [sb]
    exact ⟨_, _, rfl, Yj _⟩
  | false =>
   obtain ⟨hN, hr2⟩ := NB rfl
   obtain ⟨h5, h6⟩ := g2 hr2
   obtain ⟨h7, h8⟩ := g1 h5
   obtain ⟨o, e4, ho⟩ := Lg hd hs hv N hN x N 0 ahw ahw p2 false [] w2 rfl
   replace e4 : a7 (d : Int) (N : Int) x s (p2 : Int) false [] 0 = some o := e4
   rw [e4, sb]
   rcases ho with ⟨p', b', l', rfl, a1, a2, a3⟩ | ⟨v, r, rfl, a1, z1, z2, z3, z4, z5, z6⟩
   ·show ∃ v r, (if b' = true then _ else _) = some (v, r) ∧ _
    cases b' with
    | true => rw [if_pos rfl]; exact ⟨_, _, rfl, rfl, p', rfl, by omega, a2, fun h => Bool.noConfusion h⟩
    | false =>
     obtain ⟨_, c2⟩ := a3 rfl
     obtain ⟨r3, e5, s3, p3, t3, u3, w3, g3⟩ := AM (d := [125]) (b := false) a2 hs
     rw [if_neg ahx, e5, sb]
     refine ⟨_, _, rfl, s3, p3, t3, by omega, w3, fun h => ⟨h7, ?_⟩⟩
     have := (g3 h).2
     rw [AO] at c2
     rw [ah.oQ, ah.fm]
     simp only [As, adU] at this
     omega
   ·exact ⟨_, _, rfl, z1, z2, z3, by omega, z5, fun h => by rw [a1] at h; cases h⟩
 show ∃ v r, ((if xb = true then (if (N : Int) > 200 then some true else some r2.db) else some true : Option Bool) >>= _) = some (v, r) ∧ _
 cases xb with
 | false => rw [if_neg ahx, sb]; exact tail true (fun h => Bool.noConfusion h)
 | true =>
  rw [if_pos rfl]
  by_cases hN : (N : Int) > 200
  ·rw [if_pos hN, sb]; exact tail true (fun h => Bool.noConfusion h)
  ·rw [if_neg hN, sb]; exact tail r2.db (fun h => ⟨by omega, h⟩)
theorem Li {s : aU} (hs : s.length ≤ 1000000000000) : ∀ (k d : Nat), d + k = 202 → ∀ (a : Nat) (b : Bool), a ≤ s.length → ∃ v r, bg (.mk s (a : Int) b) (d : Int) = some (v, r) ∧ Rv s a b v r := by
 intro k
 induction k with
 | zero =>
  intro d hd a b ha
  rw [bg]
  show ∃ v r, (if (a : Int) ≥ (s.length : Int) then _ else _) = some (v, r) ∧ _
  split
  ·exact ⟨_, _, rfl, Rd.bad ha _⟩
  ·rw [if_pos ahw]; exact ⟨_, _, rfl, Rd.bad ha _⟩
 | succ k ihk =>
  intro d hd a b ha
  rw [bg]
  show ∃ v r, (if (a : Int) ≥ (s.length : Int) then _ else _) = some (v, r) ∧ _
  split
  ·exact ⟨_, _, rfl, Rd.bad ha _⟩
  rename_i bO
  split
  ·exact ⟨_, _, rfl, Rd.bad ha _⟩
  show ∃ v r, (oF s (a : Int) >>= _) = some (v, r) ∧ _
  rw [ke (show a < s.length by omega), sb]
  generalize s.getD a 0 = c
  split
  ·obtain ⟨r1, e1, s1, p1, t1, u1, w1, g1⟩ := AM (d := [78, 59]) (b := b) ha hs
   rw [e1, sb]
   refine ⟨_, _, rfl, s1, p1, t1, u1, w1, fun h => ⟨(g1 h).1, ?_⟩⟩
   have := (g1 h).2
   rw [sB]
   simp only [As, adU] at this
   omega
  ·obtain ⟨r1, e1, s1, p1, t1, u1, w1, g1⟩ := AM (d := [c, 58]) (b := b) ha hs
   have Yi : r1 = .mk s (p1 : Int) r1.db := by cases r1; simp only at s1 t1; subst s1 t1; rfl
   rw [e1, sb]
   by_cases eD : r1.db = true
   ·rw [if_pos eD]
    exact ⟨_, _, rfl, s1, p1, t1, u1, w1, fun h => by rw [eD] at h; cases h⟩
   rw [if_neg eD]
   have eD : r1.db = false := by simpa using eD
   obtain ⟨hb, NC⟩ := g1 eD
   simp only [As, adU] at NC
   rw [Yi, eD]
   have bad : ∀ (v : ah) (q : Nat), a ≤ q → q ≤ s.length → Rv s a b v (.mk s (q : Int) true) := fun v q h1 h2 => ⟨rfl, q, rfl, h1, h2, fun h => Bool.noConfusion h⟩
   have t2 : ∃ v r, ((if (c.toNat : Int) = 115 then
       bK (.mk s (p1 : Int) false) >>= fun (lz, v28) =>
       (if v28.db = true then
        some ((ah.mk 0 0 [] 0 []), (ao.mk v28.fS v28.dy true))
       else
        (if lz > (ai ((v28.fS.length : Int) - v28.dy)) then
         some ((ah.mk 0 0 [] 0 []), (ao.mk v28.fS v28.dy true))
        else
         (
          oG v28.fS v28.dy (ai (v28.dy + lz)) >>= fun Ld =>
          some Ld
          : Option (aU)) >>= fun Le =>
         br (ao.mk v28.fS (ai (v28.dy + lz)) v28.db) [59] >>= fun ED =>
         some ((ah.mk 3 0 Le 0 []), ED)))
      else
       (if (c.toNat : Int) = 97 then
        cE (.mk s (p1 : Int) false) (d : Int) >>= fun (pn, bE) =>
        some (pn, bE)
       else
        some ((ah.mk 0 0 [] 0 []), (ao.mk s (p1 : Int) true))) : Option (ah × ao)) = some (v, r)) ∧ Rv s a b v r := by
    split
    ·obtain ⟨n, r3, e3, n0, n1, s3, p3, t3, u3, w3, g3⟩ := DD (b := false) w1 hs
     obtain ⟨N, rfl⟩ : ∃ N : Nat, n = (N : Int) := ⟨n.toNat, by omega⟩
     rw [e3, sb]
     show ∃ v r, (if r3.db = true then _ else _) = some (v, r) ∧ _
     by_cases lE : r3.db = true
     ·rw [if_pos lE, s3, t3]; exact ⟨_, _, rfl, bad _ _ ahw w3⟩
     rw [if_neg lE, s3, t3]
     have lE : r3.db = false := by simpa using lE
     have e8 : ai ((s.length : Int) - (p3 : Int)) = (s.length : Int) - (p3 : Int) := by rw [ai, Av ahw ahw]
     rw [e8]
     split
     ·exact ⟨_, _, rfl, bad _ _ ahw w3⟩
     ·rename_i hN
      have e7 : ai ((p3 : Int) + (N : Int)) = ((p3 + N : Nat) : Int) := o6 ahy ahw
      have e6 : oG s (p3 : Int) ((p3 + N : Nat) : Int) = some ((s.take (p3 + N)).drop p3) := by unfold oG; rw [if_pos ⟨by omega, by omega, by omega⟩]; rfl
      obtain ⟨r4, e4, s4, p4, t4, u4, w4, g4⟩ := AM (s := s) (a := p3 + N) (d := [59]) (b := r3.db) ahw hs
      rw [e7, e6, sb, sb, e4, sb]
      refine ⟨_, _, rfl, s4, p4, t4, by omega, w4, fun h => ⟨hb, ?_⟩⟩
      have := (g4 h).2
      rw [sB]
      omega
    ·split
     ·obtain ⟨v, r, e, he⟩ := Lh (d := d) ahw hs (fun a b ha => ihk (d + 1) ahw a b ha) (b := false) w1
      obtain ⟨s5, p5, t5, u5, w5, g5⟩ := he
      rw [e, sb]
      exact ⟨_, _, rfl, s5, p5, t5, by omega, w5, fun h => ⟨hb, by have := (g5 h).2; omega⟩⟩
     ·exact ⟨_, _, rfl, bad _ _ ahw w1⟩
   have t1' : ∃ v r, (aZ (.mk s (p1 : Int) false) 59 >>= fun (rX, ly) =>
      H3 rX >>= fun (v20, v21) =>
      (if ly.db = true then
       (if (c.toNat : Int) = 98 then
        some ((ah.mk 1 v20 [] 0 []), (ao.mk ly.fS ly.dy true))
       else
        some ((ah.mk 2 v20 [] 0 []), (ao.mk ly.fS ly.dy true)))
      else
       (if (c.toNat : Int) = 98 then
        some ((ah.mk 1 v20 [] 0 []), (ao.mk ly.fS ly.dy (!v21)))
       else
        some ((ah.mk 2 v20 [] 0 []), (ao.mk ly.fS ly.dy (!v21)))))) = some (v, r) ∧ Rv s a b v r := by
    obtain ⟨q, r3, e3, s3, p3, t3, u3, w3, g3⟩ := yG (b := false) 59 w1 hs
    obtain ⟨n, nbW, e4⟩ := Bt q
    rw [e3, sb]
    show ∃ v r, (H3 q >>= _) = some (v, r) ∧ _
    rw [e4, sb]
    show ∃ v r, (if r3.db = true then _ else _) = some (v, r) ∧ _
    rw [s3, t3]
    have fin : ∀ (k : Int) (g : Bool), r3.db = false → Rv s a b (.mk k n [] 0 []) (.mk s (p3 : Int) g) := fun k g h => ⟨rfl, p3, rfl, by omega, w3, fun _ => ⟨hb, by rw [sB]; have := (g3 h).2; omega⟩⟩
    by_cases lE : r3.db = true
    ·rw [if_pos lE]
     split
     ·exact ⟨_, _, rfl, bad _ _ ahw w3⟩
     ·exact ⟨_, _, rfl, bad _ _ ahw w3⟩
    ·rw [if_neg lE]
     have lE : r3.db = false := by simpa using lE
     split
     ·exact ⟨_, _, rfl, fin _ _ lE⟩
     ·exact ⟨_, _, rfl, fin _ _ lE⟩
   split
   ·rename_i h98
    rw [sb]
    show ∃ v r, (if ((c.toNat : Int) == 98) = true then _ else _) = some (v, r) ∧ _
    simp only [if_pos h98] at t1'
    split
    ·exact t1'
    ·exact t2
   ·rename_i h98
    rw [sb]
    show ∃ v r, (if ((c.toNat : Int) == 105) = true then _ else _) = some (v, r) ∧ _
    simp only [if_neg h98] at t1'
    split
    ·exact t1'
    ·exact t2
theorem Lj {s : aU} (hs : s.length ≤ 2000000) : ∃ v b, er s = some (v, b) ∧ v.wt ≤ 2000000 ∧ (b = true → kr v = some (s, true)) := by
 obtain ⟨v, r, e, s1, p1, t1, u1, w1, g1⟩ := Li (s := s) ahw 202 0 rfl 0 false (aeo _)
 replace e : bg (.mk s 0 false) 0 = some (v, r) := e
 unfold er
 rw [e, sb]
 show ∃ v' b, (if r.db = true then _ else _) = some (v', b) ∧ _
 have nul : (ah.mk 0 0 [] 0 []).wt ≤ 2000000 := by rw [sB]; omega
 by_cases hb : r.db = true
 ·rw [if_pos hb]; exact ⟨_, _, rfl, nul, fun h => Bool.noConfusion h⟩
 rw [if_neg hb]
 have hb : r.db = false := by simpa using hb
 have hw : v.wt ≤ 2000000 := by have := (g1 hb).2; omega
 split
 ·obtain ⟨g, hg⟩ : ∃ g, g = (if (decide (v.kw ≤ 200) && v.vJ) && v.plain then (v.nu, true) else (([] : aU), false)) := ⟨_, rfl⟩
  have e2 := sy hw
  rw [← hg] at e2
  obtain ⟨t, f⟩ := g
  rw [e2, sb]
  show ∃ v' b, (if f = true then _ else _) = some (v', b) ∧ _
  cases f with
  | false => rw [if_neg ahx]; exact ⟨_, _, rfl, nul, fun h => Bool.noConfusion h⟩
  | true =>
   rw [if_pos rfl]
   by_cases ht : t = s
   ·rw [if_pos ht]; exact ⟨_, _, rfl, hw, fun _ => by rw [e2, ht]⟩
   ·rw [if_neg ht]; exact ⟨_, _, rfl, nul, fun h => Bool.noConfusion h⟩
 ·exact ⟨_, _, rfl, nul, fun h => Bool.noConfusion h⟩
theorem xg : Lib.itoa 1000000001 = ([49, 48, 48, 48, 48, 48, 48, 48, 48, 49] : aU) := by
 unfold Lib.itoa
 rw [if_neg ahx]
 show Lib.decDigits 1000000001 = _
 repeat (rw [lb]; simp only [Nat.reduceDiv, Nat.reduceMod, Nat.reduceEqDiff, if_false, if_true, Nat.reduceAdd])
 rfl
theorem II {n : Int} (h0 : -1000000000 ≤ n) (h1 : n ≤ 1000000001) : (Lib.itoa n).length ≤ 11 := by
 by_cases h : n = 1000000001
 ·rw [h, xg]; decide
 ·exact Bu h0 ahw
theorem ND {s : aU} {n : Int} (h : sp s = some n) : Lib.itoa n = s ∧ -1000000000 ≤ n ∧ n ≤ 1000000000 := by
 rw [← NF] at h
 unfold pw at h
 split at h
 ·cases h
 ·split at h
  ·split at h
   ·rename_i h1
    cases h
    exact h1
   ·cases h
  ·cases h
theorem QD {n : Int} (h0 : -1000000000 ≤ n) (h1 : n ≤ 1000000000) : sp (Lib.itoa n) = some n := by rw [← NF]; exact Kh ahw ahw h0 h1
theorem NG {s : aU} {a : Nat} {c : UInt8} (hs : s.length ≤ 1000000000000) (ha : a ≤ s.length) : ∃ j : Nat, a ≤ j ∧ j ≤ s.length ∧ ji s (a : Int) (c.toNat : Int) (a : Int) = some (j : Int) ∧ (∀ i, a ≤ i → i < j → s.getD i 0 ≠ c) ∧ (j < s.length → s.getD j 0 = c ∨ a + 12 ≤ j) := by
 have QC := o6 (x := (a : Int) + 12) (n := a + 12) ahw ahw
 have go : ∀ m i : Nat, s.length - i = m → a ≤ i → i ≤ s.length → (∀ q, a ≤ q → q < i → s.getD q 0 ≠ c) → ∃ j : Nat, a ≤ j ∧ j ≤ s.length ∧ ji s (a : Int) (c.toNat : Int) (i : Int) = some (j : Int) ∧ (∀ i, a ≤ i → i < j → s.getD i 0 ≠ c) ∧ (j < s.length → s.getD j 0 = c ∨ a + 12 ≤ j) := by
  intro m
  induction m with
  | zero =>
   intro i h1 h2 h3 h4
   rw [ji, if_neg ahw]
   exact ⟨i, h2, h3, rfl, h4, fun h => by omega⟩
  | succ m ihm =>
   intro i h1 h2 h3 h4
   rw [ji, if_pos ahw, ke (show i < s.length by omega), sb]
   by_cases hc : s.getD i 0 = c
   ·rw [if_pos (by rw [hc])]
    exact ⟨i, h2, h3, rfl, h4, fun _ => .inl hc⟩
   ·rw [if_neg (fun h => hc (afl.1 ahw)), QC]
    by_cases h12 : i < a + 12
    ·rw [if_pos ahw, ba ahw]
     exact ihm (i + 1) ahw ahw ahw (fun q h5 h6 => by
      by_cases h7 : q = i
      ·subst h7; exact hc
      ·exact h4 q h5 ahw)
    ·rw [if_neg ahw]
     exact ⟨i, h2, h3, rfl, h4, fun _ => .inr ahw⟩
 exact go _ a rfl (adV _) ha (fun q h1 h2 => by omega)
theorem Bv {s : aU} {a j : Nat} {c : UInt8} (h1 : a ≤ j) (h2 : j < s.length) (hc : s.getD j 0 = c) : s.drop a = (s.take j).drop a ++ c :: s.drop (j + 1) := by
 have e1 : s.drop a = (s.take j ++ s.drop j).drop a := by rw [List.take_append_drop]
 rw [e1, afn (by rw [aeP]; omega), aeg h2]
 congr 2
 rw [← hc, adY, Is h2, afq]
theorem xh {s : aU} {a : Nat} (c : UInt8) (hs : s.length ≤ 1000000000000) (ha : a ≤ s.length) : ∃ n nx, cK s (a : Int) (c.toNat : Int) = some (n, nx) ∧ ((n = 0 ∧ nx = -1) ∨ ∃ r, s.drop a = Lib.itoa n ++ c :: r ∧ nx = ((a + (Lib.itoa n).length + 1 : Nat) : Int) ∧ -1000000000 ≤ n ∧ n ≤ 1000000001) := by
 obtain ⟨j, h1, h2, e, h3, h4⟩ := NG (c := c) hs ha
 unfold cK
 rw [e, sb]
 by_cases hj : j < s.length
 ·rw [if_neg ahw, ke hj, sb]
  by_cases hc : s.getD j 0 = c
  ·have e1 : oG s (a : Int) (j : Int) = some ((s.take j).drop a) := by unfold oG; rw [if_pos ⟨by omega, by omega, by omega⟩]; rfl
   have hl : ((s.take j).drop a).length = j - a := by rw [aez, aeP]; omega
   have hd := Bv h1 hj hc
   rw [if_pos (by rw [hc]), e1, sb, IJ, sb]
   cases UK : sp ((s.take j).drop a) with
   | some n =>
    obtain ⟨g1, g2, g3⟩ := ND UK
    show ∃ n' nx, (if true = true then some (n, ai ((j : Int) + 1)) else _) = some (n', nx) ∧ _
    rw [if_pos rfl, ba ahw]
    refine ⟨_, _, rfl, .inr ⟨_, by rw [g1]; exact hd, ?_, g2, by omega⟩⟩
    rw [g1, hl]
    omega
   | none =>
    show ∃ n' nx, (if false = true then _ else _) = some (n', nx) ∧ _
    rw [if_neg ahx, sb]
    by_cases hm : (s.take j).drop a = ([49, 48, 48, 48, 48, 48, 48, 48, 48, 49] : aU)
    ·rw [if_pos hm, ba ahw]
     refine ⟨_, _, rfl, .inr ⟨_, by rw [xg, ← hm]; exact hd, ?_, by omega, by omega⟩⟩
     rw [xg, ← hm, hl]
     omega
    ·rw [if_neg hm]
     exact ⟨_, _, rfl, .inl ⟨rfl, rfl⟩⟩
  ·rw [if_neg (fun h => hc (afl.1 ahw))]
   exact ⟨_, _, rfl, .inl ⟨rfl, rfl⟩⟩
 ·rw [if_pos ahw]
  exact ⟨_, _, rfl, .inl ⟨rfl, rfl⟩⟩
theorem Bw {s r : aU} {a : Nat} {c : UInt8} {n : Int} (hc : 58 ≤ c.toNat) (h : s.drop a = Lib.itoa n ++ c :: r) (h0 : -1000000000 ≤ n) (h1 : n ≤ 1000000001) (hs : s.length ≤ 1000000000000) : cK s (a : Int) (c.toNat : Int) = some (n, ((a + (Lib.itoa n).length + 1 : Nat) : Int)) := by
 have hL := II h0 h1
 have DA : a + (Lib.itoa n).length + (r.length + 1) = s.length := by
  have := congrArg List.length h
  rw [aez, No, As] at this
  omega
 have QC : ∀ i, i < (Lib.itoa n).length → s.getD (a + i) 0 ≠ c := fun i hi hq => by
  have e1 : s.drop (a + i) = (Lib.itoa n)[i] :: ((Lib.itoa n).drop (i + 1) ++ c :: r) := by
   rw [← List.drop_drop, h, afn ahw, aeg hi]; rfl
  have e2 := (sA e1).2
  have := GG n _ (aee hi)
  rw [← e2, hq] at this
  omega
 have NH := bQ h
 obtain ⟨adM, Yk⟩ := sA NH
 obtain ⟨j, q1, q2, e, q3, q4⟩ := NG (c := c) hs (show a ≤ s.length by omega)
 have hj : j = a + (Lib.itoa n).length := by
  have g1 : ¬ j < a + (Lib.itoa n).length := fun bO => by
   rcases q4 ahw with q | q
   ·have := QC (j - a) ahw
    rw [show a + (j - a) = j by omega] at this
    exact this q
   ·omega
  have g2 : ¬ a + (Lib.itoa n).length < j := fun bO => q3 _ ahw bO Yk
  omega
 subst hj
 unfold cK
 rw [e, sb, if_neg ahw, nG NH, sb, if_pos rfl, pq h ahw, sb, IJ, sb]
 by_cases hm : n = 1000000001
 ·have hn : sp (Lib.itoa n) = none := by
   cases hq : sp (Lib.itoa n) with
   | none => rfl
   | some k =>
    obtain ⟨g1, g2, g3⟩ := ND hq
    have := yH n
    rw [← g1, yH] at this
    injection this with this
    omega
  rw [hn]
  show (if false = true then _ else _) = _
  rw [if_neg ahx, sb, hm, xg, if_pos rfl, o6 (n := a + 10 + 1) ahy ahw]
  rfl
 ·rw [QD h0 ahw]
  show (if true = true then _ else _) = _
  rw [if_pos rfl, ba ahw]
def Rs (s : aU) (a : Nat) (v : ah) (nx : Int) : Prop := nx = -1 ∨ ∃ r, s.drop a = v.nu ++ r ∧ nx = ((a + v.nu.length : Nat) : Int) ∧ v.plain = true ∧ v.wt ≤ v.nu.length
theorem Yl {s : aU} {a : Nat} (h : a + 1 < s.length) : s.drop a = [s.getD a 0, s.getD (a + 1) 0] ++ s.drop (a + 2) := by
 have e : ∀ i, i < s.length → s.drop i = s.getD i 0 :: s.drop (i + 1) := fun i hi => drop_cons hi
 rw [e a ahw, e (a + 1) h]; rfl
theorem E6 {v : ah} (h : 2 ≤ v.aF ∧ v.aF ≤ 3) : oZ (bH.mk (v.aF == 3) v.aP v.aQ) = v.nu := by
 rw [jh, if_neg ahw, if_neg ahw]
 unfold oZ
 by_cases h3 : v.aF = 3
 ·rw [if_pos (by rw [h3]; rfl), if_neg ahw, if_pos h3]
 ·rw [if_neg (by simpa using h3), if_pos ahw]
theorem GK (s : aU) (d x n i : Int) (l : List ae) : cM s d x n (-1) l i = some (.inl (-1, l)) := by
 rw [cM, if_neg (show ¬ ((-1 : Int) ≥ 0) by decide)]
 split <;> rfl
theorem NI {s : aU} {d : Nat} (hd : d ≤ 1000) (hs : s.length ≤ 1000000000000) (hv : ∀ a : Nat, a ≤ s.length → ∃ v nx, dC s (a : Int) ((d + 1 : Nat) : Int) = some (v, nx) ∧ Rs s a v nx) (N : Nat) (hN : N ≤ 200) (x : Int) :
  ∀ m i : Nat, i ≤ N → N - i = m → ∀ (p : Nat) (l : List ae), p ≤ s.length → l.length = i → ∃ o, cM s (d : Int) x (N : Int) (p : Int) l (i : Int) = some o ∧
   ((∃ v, o = .inr (v, -1)) ∨ (∃ l', o = .inl (-1, l')) ∨ ∃ q r, o = .inl (((p + (ae.ia q).length : Nat) : Int), l ++ q) ∧ i + q.length = N ∧ s.drop p = ae.ia q ++ r ∧ ae.mg q = true ∧ ae.wm q ≤ (ae.ia q).length) := by
 intro m
 induction m with
 | zero =>
  intro i h1 h2 p l hp hl
  rw [cM, if_neg ahw]
  refine ⟨_, rfl, .inr (.inr ⟨[], s.drop p, ?_, by simp; omega, by rw [rD]; rfl, Bp, by rw [AO]; omega⟩)⟩
  rw [rD, aeI]; rfl
 | succ m ihm =>
  intro i h1 h2 p l hp hl
  rw [cM, if_pos ahw, if_pos ahw, o6 (x := (d : Int) + 1) (n := d + 1) ahw ahw]
  obtain ⟨v1, n1, e1, g1⟩ := hv p hp
  rw [e1, sb]
  dsimp only
  rcases g1 with rfl | ⟨r1, f1, rfl, f2, f3⟩
  ·rw [if_pos ahx]; exact ⟨_, rfl, .inl ⟨_, rfl⟩⟩
  rw [if_neg ahw, yI, sb]
  have C8 : p + v1.nu.length ≤ s.length := by
   have := congrArg List.length f1
   rw [aez, No] at this
   omega
  by_cases hk : 2 ≤ v1.aF ∧ v1.aF ≤ 3
  ·rw [if_pos (by simpa using hk)]
   obtain ⟨v2, n2, e2, g2⟩ := hv (p + v1.nu.length) C8
   rw [e2, sb]
   dsimp only
   rw [kD ahH, sb, ba ahw]
   rcases g2 with rfl | ⟨r2, k1, rfl, k2, k3⟩
   ·rw [GK]; exact ⟨_, rfl, .inr (.inl ⟨_, rfl⟩)⟩
   have E7 : p + v1.nu.length + v2.nu.length ≤ s.length := by
    have := congrArg List.length k1
    rw [aez, No] at this
    omega
   obtain ⟨o, e3, g3⟩ := ihm (i + 1) ahw ahw (p + v1.nu.length + v2.nu.length) (l ++ [ae.mk (bH.mk (v1.aF == 3) v1.aP v1.aQ) v2]) E7 ahC
   rw [e3]
   refine ⟨o, rfl, ?_⟩
   rcases g3 with g3 | g3 | ⟨q, r, rfl, b1, b2, b3, b4⟩
   ·exact .inl g3
   ·exact .inr (.inl g3)
   ·refine .inr (.inr ⟨ae.mk (bH.mk (v1.aF == 3) v1.aP v1.aQ) v2 :: q, r, ?_, by simp only [As]; omega, ?_, ?_, ?_⟩)
    ·rw [kq]
     simp only [ae.AP, ae.AQ, E6 hk, No, aeG, List.singleton_append]
     congr 3
     omega
    ·rw [kq]
     simp only [ae.AP, ae.AQ, E6 hk, aeG]
     have t1 := bQ f1
     rw [t1] at k1
     have t2 : s.drop (p + v1.nu.length + v2.nu.length) = r2 := bQ (t1.trans k1)
     rw [b2] at t2
     rw [f1, k1, ← t2]
    ·rw [ua]
     simp [k2, b3]
    ·rw [kq, la]
     simp only [ae.AP, ae.AQ, E6 hk, No]
     have := kA v1
     omega
  ·rw [if_neg (by simpa using hk)]
   exact ⟨_, rfl, .inl ⟨_, rfl⟩⟩
theorem E8 (x : Int) (l : List ae) : (ah.mk 4 0 [] x l).nu = [97, 58] ++ Lib.itoa (l.length : Int) ++ [58] ++ Lib.itoa x ++ [123] ++ ae.ia l ++ [125] := by
 rw [jh]
 simp only [ah.lS, ah.fm, ah.mW]
 rfl
theorem NJ {s : aU} (hs : s.length ≤ 1000000000000) : ∀ (k d : Nat), d + k = 202 → ∀ a : Nat, a ≤ s.length → ∃ v nx, dC s (a : Int) (d : Int) = some (v, nx) ∧ Rs s a v nx := by
 have eW : ai ((s.length : Int) - 1) = (s.length : Int) - 1 := by rw [ai, Av ahw ahw]
 intro k
 induction k with
 | zero =>
  intro d hd a ha
  unfold dC
  rw [if_neg (afT _)]
  by_cases h1 : (a : Int) ≥ ai ((s.length : Int) - 1)
  ·rw [if_pos h1]; exact ⟨_, _, rfl, .inl rfl⟩
  ·rw [if_neg h1, if_pos ahw]; exact ⟨_, _, rfl, .inl rfl⟩
 | succ k ihk =>
  intro d hd a ha
  unfold dC
  rw [if_neg (afT _), eW]
  by_cases h1 : (a : Int) ≥ (s.length : Int) - 1
  ·rw [if_pos h1]; exact ⟨_, _, rfl, .inl rfl⟩
  rw [if_neg h1]
  by_cases h2 : (d : Int) > 200
  ·rw [if_pos h2]; exact ⟨_, _, rfl, .inl rfl⟩
  have e2 : ai ((a : Int) + 2) = ((a + 2 : Nat) : Int) := o6 ahy ahw
  have Sp := Yl (s := s) (a := a) ahw
  generalize Ym : s.getD a 0 = c1 at Sp
  generalize hc2 : s.getD (a + 1) 0 = c2 at Sp
  have e3 := pq Sp ahH
  replace e3 : oG s (a : Int) ((a + 2 : Nat) : Int) = some [c1, c2] := e3
  rw [if_neg h2, e2, e3, sb]
  by_cases n78 : [c1, c2] = ([78, 59] : aU)
  ·rw [if_pos n78]
   rw [n78] at Sp
   exact ⟨_, _, rfl, .inr ⟨_, Sp, rfl, by rw [jD]; rfl, by rw [sB]; decide⟩⟩
  rw [if_neg n78]
  have IK : ∀ (kk : Int) (c : UInt8), (∀ n, (ah.mk kk n [] 0 []).nu = [c, 58] ++ Lib.itoa n ++ [59] ∧ (ah.mk kk n [] 0 []).plain = true) → [c1, c2] = [c, 58] → ∀ n nx, (n = 0 ∧ nx = -1 ∨ ∃ r, s.drop (a + 2) = Lib.itoa n ++ 59 :: r ∧ nx = ((a + 2 + (Lib.itoa n).length + 1 : Nat) : Int) ∧ -1000000000 ≤ n ∧ n ≤ 1000000001) → Rs s a (ah.mk kk n [] 0 []) nx := by
   intro kk c hk P9 n nx hn
   rcases hn with ⟨_, rfl⟩ | ⟨r, g1, g2, _, _⟩
   ·exact .inl rfl
   ·refine .inr ⟨r, ?_, ?_, (hk n).2, ?_⟩
    ·rw [Sp, P9, g1, (hk n).1]; simp
    ·rw [g2, (hk n).1]
     simp only [No, As, adU]
     omega
    ·rw [sB, (hk n).1]
     simp only [No, As, adU]
     omega
  by_cases Xb : [c1, c2] = ([98, 58] : aU)
  ·obtain ⟨n, nx, e4, hn⟩ := xh (a := a + 2) 59 hs ahw
   replace e4 : cK s ((a + 2 : Nat) : Int) 59 = some (n, nx) := e4
   rw [if_pos Xb, sb, if_pos (by rw [Xb]; rfl), e4, sb]
   dsimp only
   rw [if_pos Xb, sb]
   exact ⟨_, _, rfl, IK 1 98 (fun n => ⟨by rw [jh]; rfl, by rw [jD]; rfl⟩) Xb n nx hn⟩
  rw [if_neg Xb, sb]
  by_cases n105 : [c1, c2] = ([105, 58] : aU)
  ·obtain ⟨n, nx, e4, hn⟩ := xh (a := a + 2) 59 hs ahw
   replace e4 : cK s ((a + 2 : Nat) : Int) 59 = some (n, nx) := e4
   rw [if_pos (by rw [n105]; rfl), e4, sb]
   dsimp only
   rw [if_neg Xb, sb]
   exact ⟨_, _, rfl, IK 2 105 (fun n => ⟨by rw [jh]; rfl, by rw [jD]; rfl⟩) n105 n nx hn⟩
  rw [if_neg (by simpa using n105)]
  by_cases n115 : [c1, c2] = ([115, 58] : aU)
  ·obtain ⟨n, nx, e4, hn⟩ := xh (a := a + 2) 58 hs ahw
   replace e4 : cK s ((a + 2 : Nat) : Int) 58 = some (n, nx) := e4
   rw [if_pos n115, e4, sb]
   dsimp only
   rcases hn with ⟨_, rfl⟩ | ⟨r, g1, rfl, _, _⟩
   ·rw [if_pos ahx, sb]; exact ⟨_, _, rfl, .inl rfl⟩
   rw [if_neg ahw]
   have Yn : a + 2 + (Lib.itoa n).length + 1 + r.length = s.length := by
    have := congrArg List.length g1
    rw [aez, No, As] at this
    omega
   by_cases NA : n < 0
   ·rw [if_pos NA, sb]; exact ⟨_, _, rfl, .inl rfl⟩
   obtain ⟨M, rfl⟩ : ∃ M : Nat, n = (M : Int) := ⟨n.toNat, by omega⟩
   rw [if_neg NA, show ai ((s.length : Int) - ((a + 2 + (Lib.itoa (M : Int)).length + 1 : Nat) : Int)) = (s.length : Int) - ((a + 2 + (Lib.itoa (M : Int)).length + 1 : Nat) : Int) by rw [ai, Av ahw ahw]]
   by_cases hM : (M : Int) ≥ (s.length : Int) - ((a + 2 + (Lib.itoa (M : Int)).length + 1 : Nat) : Int)
   ·rw [if_pos hM, sb]; exact ⟨_, _, rfl, .inl rfl⟩
   generalize hp : a + 2 + (Lib.itoa (M : Int)).length + 1 = p at hM Yn ⊢
   rw [if_neg hM, o6 (x := (p : Int) + (M : Int)) (n := p + M) ahy ahw, ke (show p + M < s.length by omega), sb]
   by_cases h59 : s.getD (p + M) 0 = 59
   ·have g3 : s.drop p = r := by
     have := bQ (d := Lib.itoa (M : Int) ++ [58]) (r := r) (a := a + 2) (s := s) (by rw [g1]; simp)
     rw [← this]
     congr 1
     simp only [No, As, adU]
     omega
    have g4 : s.drop p = (s.take (p + M)).drop p ++ 59 :: s.drop (p + M + 1) := Bv ahw ahw h59
    have g5 : ((s.take (p + M)).drop p).length = M := by rw [aez, aeP]; omega
    have e6 : oG s (p : Int) ((p + M : Nat) : Int) = some ((s.take (p + M)).drop p) := by unfold oG; rw [if_pos ⟨by omega, by omega, by omega⟩]; rfl
    rw [if_pos (by rw [h59]; rfl), e6, sb, sb, ba ahw]
    have es : (ah.mk 3 0 ((s.take (p + M)).drop p) 0 []).nu = Kd ((s.take (p + M)).drop p) := by rw [jh]; rfl
    have el : (Kd ((s.take (p + M)).drop p)).length = 2 + (Lib.itoa (M : Int)).length + 1 + M + 1 := by
     unfold Kd
     rw [g5]
     simp only [No, As, adU, g5]
    refine ⟨_, _, rfl, .inr ⟨s.drop (p + M + 1), ?_, ?_, by rw [jD]; rfl, by rw [sB, es, el]; omega⟩⟩
    ·rw [es, Sp, n115, g1, ← g3, g4]
     unfold Kd
     rw [g5]
     simp
    ·rw [es, el]
     omega
   ·rw [if_neg (fun h => h59 (afl.1 (by exact Int.ofNat.inj h))), sb]
    exact ⟨_, _, rfl, .inl rfl⟩
  rw [if_neg n115]
  by_cases n97 : [c1, c2] = ([97, 58] : aU)
  ·obtain ⟨n, nx, e4, hn⟩ := xh (a := a + 2) 58 hs ahw
   replace e4 : cK s ((a + 2 : Nat) : Int) 58 = some (n, nx) := e4
   rw [if_pos n97, e4, sb]
   dsimp only
   rw [sb]
   dsimp only
   rcases hn with ⟨_, rfl⟩ | ⟨r, g1, rfl, _, _⟩
   ·rw [if_pos ahx]; exact ⟨_, _, rfl, .inl rfl⟩
   rw [if_neg ahw]
   by_cases NA : n < 0
   ·rw [if_pos NA]; exact ⟨_, _, rfl, .inl rfl⟩
   obtain ⟨M, rfl⟩ : ∃ M : Nat, n = (M : Int) := ⟨n.toNat, by omega⟩
   rw [if_neg NA]
   by_cases hM : (M : Int) > 200
   ·rw [if_pos hM]; exact ⟨_, _, rfl, .inl rfl⟩
   rw [if_neg hM]
   have Yn : a + 2 + (Lib.itoa (M : Int)).length + 1 + r.length = s.length := by
    have := congrArg List.length g1
    rw [aez, No, As] at this
    omega
   have g3 : s.drop (a + 2 + (Lib.itoa (M : Int)).length + 1) = r := by
    have := bQ (d := Lib.itoa (M : Int) ++ [58]) (r := r) (a := a + 2) (s := s) (by rw [g1]; simp)
    rw [← this]
    congr 1
    simp only [No, As, adU]
    omega
   generalize hp : a + 2 + (Lib.itoa (M : Int)).length + 1 = p at Yn g3 ⊢
   obtain ⟨x, nx, e5, hx⟩ := xh (a := p) 123 hs ahw
   replace e5 : cK s (p : Int) 123 = some (x, nx) := e5
   rw [e5, sb]
   dsimp only
   rcases hx with ⟨_, rfl⟩ | ⟨r2, k1, rfl, _, _⟩
   ·rw [GK, sb]
    dsimp only
    rw [if_pos ahx]; exact ⟨_, _, rfl, .inl rfl⟩
   have abL : p + (Lib.itoa x).length + 1 + r2.length = s.length := by
    have := congrArg List.length k1
    rw [aez, No, As] at this
    omega
   have k3 : s.drop (p + (Lib.itoa x).length + 1) = r2 := by
    have := bQ (d := Lib.itoa x ++ [123]) (r := r2) (a := p) (s := s) (by rw [k1]; simp)
    rw [← this]
    congr 1
    simp only [No, As, adU]
    omega
   generalize Mj : p + (Lib.itoa x).length + 1 = p2 at abL k3 ⊢
   obtain ⟨o, e6, ho⟩ := NI (d := d) ahw hs (fun a ha => ihk (d + 1) ahw a ha) M ahw x M 0 ahw ahw p2 [] ahw rfl
   replace e6 : cM s (d : Int) x (M : Int) (p2 : Int) [] 0 = some o := e6
   rw [e6, sb]
   rcases ho with ⟨v, rfl⟩ | ⟨l', rfl⟩ | ⟨q, r3, rfl, b1, b2, b3, b4⟩
   ·exact ⟨_, _, rfl, .inl rfl⟩
   ·dsimp only
    rw [if_pos ahx]; exact ⟨_, _, rfl, .inl rfl⟩
   ·dsimp only
    rw [aeQ, if_neg ahw]
    by_cases NH : ((p2 + (ae.ia q).length : Nat) : Int) ≥ (s.length : Int)
    ·rw [if_pos NH]; exact ⟨_, _, rfl, .inl rfl⟩
    rw [if_neg NH, ke (show p2 + (ae.ia q).length < s.length by omega), sb]
    by_cases UL : s.getD (p2 + (ae.ia q).length) 0 = 125
    ·rw [if_pos (by rw [UL]; rfl), ba ahw]
     have t1 := bQ b2
     have t2 := drop_cons (s := s) (i := p2 + (ae.ia q).length) ahw
     rw [UL, t1] at t2
     have b1 : q.length = M := by omega
     refine ⟨_, _, rfl, .inr ⟨s.drop (p2 + (ae.ia q).length + 1), ?_, ?_, ?_, ?_⟩⟩
     ·rw [E8, b1, Sp, n97, g1, ← g3, k1, ← k3, b2, t2]
      simp
     ·rw [E8, b1]
      simp only [No, As, adU]
      omega
     ·rw [jD]; simpa using b3
     ·rw [ah.oQ, E8]
      simp only [ah.fm, No, As, adU]
      omega
    ·rw [if_neg (fun h => UL (afl.1 (by exact Int.ofNat.inj h)))]
     exact ⟨_, _, rfl, .inl rfl⟩
  ·rw [if_neg n97, sb]
   dsimp only
   rw [if_pos ahx]
   exact ⟨_, _, rfl, .inl rfl⟩
theorem QE (v : ah) : 2 ≤ v.nu.length := by
 rw [jh]
 unfold Kd
 split
 ·simp
 split
 ·simp only [No, As, adU]; omega
 split
 ·simp only [No, As, adU]; omega
 split
 ·simp only [No, As, adU]; omega
 ·simp only [No, As, adU]; omega
theorem UM {k : bH} (h : vk k = true) : 2 ≤ (vx k).aF ∧ (vx k).aF ≤ 3 ∧ bH.mk ((vx k).aF == 3) (vx k).aP (vx k).aQ = k := by
 unfold vx
 rcases uV h with ⟨h1, h2, _⟩ | ⟨h1, _, _, h3⟩
 ·rw [if_pos h1]
  refine ⟨by simp, by simp, ?_⟩
  cases k
  simp only at h1 h2
  subst h1 h2
  rfl
 ·rw [if_neg (by rw [h1]; decide)]
  refine ⟨by simp, by simp, ?_⟩
  cases k
  simp only at h1 h3
  subst h1 h3
  rfl
theorem E9 : ∀ (n : Nat), n ≤ 2000000 → ∀ v : ah, v.wt ≤ n → v.vJ = true → v.plain = true → ∀ (s r : aU) (a d : Nat), s.drop a = v.nu ++ r → d + v.kw ≤ 201 → s.length ≤ 1000000000000 →
  dC s (a : Int) (d : Int) = some (v, ((a + v.nu.length : Nat) : Int))
 | 0, _, v, h, _, _ => by have := kA v; omega
 | n + 1, hn, v, h, hv, hp => by
  intro s r a d zE hdk hs
  have hlen := qY (v := v)
  have hkp := yF v
  have h2 := QE v
  have DA : a + v.nu.length + r.length = s.length := by
   have := congrArg List.length zE
   rw [aez, No] at this
   omega
  have eW : ai ((s.length : Int) - 1) = (s.length : Int) - 1 := by rw [ai, Av ahw ahw]
  have e2 : ai ((a : Int) + 2) = ((a + 2 : Nat) : Int) := o6 ahy ahw
  have hh : ∀ (c1 c2 : UInt8) (t : aU), s.drop a = c1 :: c2 :: t → oG s (a : Int) ((a + 2 : Nat) : Int) = some [c1, c2] := fun c1 c2 t hq => by
   have : s.drop a = [c1, c2] ++ t := hq
   exact pq this ahH
  have eta : v = .mk v.aF v.aP v.aQ v.aO v.af := (ah.eta v).symm
  unfold dC
  rw [if_neg (afT _), eW, if_neg ahw, if_neg ahw, e2]
  rcases sx hv hp with hk | ⟨k0, k1, hl, hx, n0, n1, adR, IF, NA, hn3⟩
  ·-- an array
   obtain ⟨e1, e3, ⟨x0, x1⟩, ⟨hV, hN⟩⟩ := (AK hk).1 hv
   have vK := hp
   rw [jD, if_pos hk] at vK
   have pl := pN _ vK
   have ekw : v.kw = 1 + ae.AL v.af := by rw [v.uc, if_pos hk]
   have kwl : ∀ l : List ae, l.length ≤ ae.AL l := fun l => by
    induction l with
    | nil => simp
    | cons x q ih => rw [ud]; have := yF x.aY; simp only [As]; omega
   have Nu := kwl v.af
   have IG := jh v
   rw [if_neg ahw, if_neg ahw, if_neg ahw, if_neg ahw] at IG
   rw [IG] at zE
   have q0 : s.drop a = 97 :: 58 :: (Lib.itoa (v.af.length : Int) ++ 58 :: (Lib.itoa v.aO ++ 123 :: (ae.ia v.af ++ 125 :: r))) := by rw [zE]; simp
   have q1 : s.drop (a + 2) = Lib.itoa (v.af.length : Int) ++ 58 :: (Lib.itoa v.aO ++ 123 :: (ae.ia v.af ++ 125 :: r)) := bQ (d := [97, 58]) q0
   have q2 : s.drop (a + 2 + (Lib.itoa (v.af.length : Int)).length + 1) = Lib.itoa v.aO ++ 123 :: (ae.ia v.af ++ 125 :: r) := by
    have := bQ (d := Lib.itoa (v.af.length : Int) ++ [58]) (r := Lib.itoa v.aO ++ 123 :: (ae.ia v.af ++ 125 :: r)) (a := a + 2) (s := s) (by rw [q1]; simp)
    rw [No] at this
    exact this
   have q3 : s.drop (a + 2 + (Lib.itoa (v.af.length : Int)).length + 1 + (Lib.itoa v.aO).length + 1) = ae.ia v.af ++ 125 :: r := by
    have := bQ (d := Lib.itoa v.aO ++ [123]) (r := ae.ia v.af ++ 125 :: r) (a := a + 2 + (Lib.itoa (v.af.length : Int)).length + 1) (s := s) (by rw [q2]; simp)
    rw [No] at this
    exact this
   have go : ∀ m i p : Nat, i ≤ v.af.length → v.af.length - i = m → s.drop p = ae.ia (v.af.drop i) ++ 125 :: r →
     cM s (d : Int) v.aO (v.af.length : Int) (p : Int) (v.af.take i) (i : Int) = some (.inl (((p + (ae.ia (v.af.drop i)).length : Nat) : Int), v.af)) := by
    intro m
    induction m with
    | zero =>
     intro i p h1 h2 h3
     have : i = v.af.length := by omega
     rw [cM, if_neg ahw, this, List.take_length, afE, rD]; rfl
    | succ m ihm =>
     intro i p h1 h2 h3
     have bO : i < v.af.length := by omega
     have Sn := nQ (aee bO)
     have hkd := xf bO
     have hkm := Bs v.af i
     have abK := yF v.af[i].aY
     obtain ⟨a1, a2, a3⟩ := hV _ (aee bO)
     obtain ⟨c1, c2⟩ := ID a1
     obtain ⟨z1, z2, z3⟩ := UM a1
     rw [aeg bO, kq] at h3
     have t1 : s.drop p = (vx v.af[i].bm).nu ++ (v.af[i].aY.nu ++ (ae.ia (v.af.drop (i + 1)) ++ 125 :: r)) := by rw [h3, yD]; simp
     have t2 : s.drop (p + (vx v.af[i].bm).nu.length) = v.af[i].aY.nu ++ (ae.ia (v.af.drop (i + 1)) ++ 125 :: r) := bQ t1
     have t3 : s.drop (p + (vx v.af[i].bm).nu.length + v.af[i].aY.nu.length) = ae.ia (v.af.drop (i + 1)) ++ 125 :: r := bQ t2
     have u1 := E9 n ahw (vx v.af[i].bm) (by rw [Nt]; omega) c1 c2 s _ p (d + 1) t1 (by rw [So]; omega) hs
     have u2 := E9 n ahw v.af[i].aY ahw a3 (pl _ (aee bO)) s _ _ (d + 1) t2 ahw hs
     rw [cM, if_pos ahw, if_pos ahw, o6 (x := (d : Int) + 1) (n := d + 1) ahw ahw, u1, sb]
     dsimp only
     rw [if_neg ahw, yI, sb, if_pos (by simpa using ⟨z1, z2⟩), u2, sb]
     dsimp only
     rw [z3, kD (by rw [aeP]; simp only [As, adU]; omega), sb, ae.eta, afi bO, ba ahw]
     have := ihm (i + 1) _ ahw ahw t3
     rw [this, aeg bO, kq, yD]
     simp only [No]
     congr 4
     omega
   have g := go v.af.length 0 _ ahw ahw q3
   have hd0 : v.af.drop 0 = v.af := rfl
   rw [hd0] at g
   replace g : cM s (d : Int) v.aO (v.af.length : Int) ((a + 2 + (Lib.itoa (v.af.length : Int)).length + 1 + (Lib.itoa v.aO).length + 1 : Nat) : Int) [] 0 = some (.inl (((a + 2 + (Lib.itoa (v.af.length : Int)).length + 1 + (Lib.itoa v.aO).length + 1 + (ae.ia v.af).length : Nat) : Int), v.af)) := g
   have q4 : s.drop (a + 2 + (Lib.itoa (v.af.length : Int)).length + 1 + (Lib.itoa v.aO).length + 1 + (ae.ia v.af).length) = 125 :: r := bQ q3
   have q5 := (sA q4).1
   have e4 := Bw ahx q2 ahw x1 hs
   replace e4 : cK s ((a + 2 + (Lib.itoa (v.af.length : Int)).length + 1 : Nat) : Int) 123 = some (v.aO, ((a + 2 + (Lib.itoa (v.af.length : Int)).length + 1 + (Lib.itoa v.aO).length + 1 : Nat) : Int)) := e4
   have e5 := Bw ahx q1 ahw ahw hs
   replace e5 : cK s ((a + 2 : Nat) : Int) 58 = some ((v.af.length : Int), ((a + 2 + (Lib.itoa (v.af.length : Int)).length + 1 : Nat) : Int)) := e5
   rw [hh _ _ _ q0, sb, if_neg ahx, if_neg ahx, sb, if_neg ahx, if_neg ahx, if_pos ahx, e5, sb]
   dsimp only
   rw [sb]
   dsimp only
   rw [if_neg ahw, if_neg ahw, if_neg ahw, e4, sb]
   dsimp only
   rw [g, sb]
   dsimp only
   rw [if_neg ahw, if_neg ahw, nG q4, sb, if_pos ahx, ba ahw]
   have ev : ah.mk 4 0 [] v.aO v.af = v := by rw [eta]; simp [hk, e1, e3]
   rw [ev, IG]
   congr 3
   simp only [No, As, adU]
   omega
  ·have ev : v = .mk v.aF v.aP v.aQ 0 [] := by rw [← hx, ← hl]; exact eta
   have hk : v.aF = 0 ∨ v.aF = 1 ∨ v.aF = 2 ∨ v.aF = 3 := by omega
   rcases hk with hk | hk | hk | hk
   ·have es : v.nu = [78, 59] := by rw [jh, if_pos hk]
    rw [es] at zE ⊢
    rw [hh 78 59 r zE, sb, if_pos ahx]
    have : v = .mk 0 0 [] 0 [] := by rw [ev, hk, NA hk, IF ahw]
    rw [this]; rfl
   ·have es : v.nu = [98, 58] ++ Lib.itoa v.aP ++ [59] := by rw [jh, if_neg ahw, if_pos hk]
    rw [es] at zE ⊢
    have q0 : s.drop a = 98 :: 58 :: (Lib.itoa v.aP ++ 59 :: r) := by rw [zE]; simp
    have q1 : s.drop (a + 2) = Lib.itoa v.aP ++ 59 :: r := bQ (d := [98, 58]) q0
    have e4 := Bw ahx q1 n0 ahw hs
    replace e4 : cK s ((a + 2 : Nat) : Int) 59 = some (v.aP, ((a + 2 + (Lib.itoa v.aP).length + 1 : Nat) : Int)) := e4
    rw [hh _ _ _ q0, sb, if_neg ahx, if_pos ahx, sb, if_pos ahx, e4, sb]
    dsimp only
    rw [if_pos ahx, sb]
    dsimp only
    have : v = .mk 1 v.aP [] 0 [] := by rw [← IF ahw, ← hk]; exact ev
    rw [← this]
    congr 3
    simp only [No, As, adU]
    omega
   ·have es : v.nu = [105, 58] ++ Lib.itoa v.aP ++ [59] := by rw [jh, if_neg ahw, if_neg ahw, if_pos hk]
    rw [es] at zE ⊢
    have q0 : s.drop a = 105 :: 58 :: (Lib.itoa v.aP ++ 59 :: r) := by rw [zE]; simp
    have q1 : s.drop (a + 2) = Lib.itoa v.aP ++ 59 :: r := bQ (d := [105, 58]) q0
    have e4 := Bw ahx q1 n0 ahw hs
    replace e4 : cK s ((a + 2 : Nat) : Int) 59 = some (v.aP, ((a + 2 + (Lib.itoa v.aP).length + 1 : Nat) : Int)) := e4
    rw [hh _ _ _ q0, sb, if_neg ahx, if_neg ahx, sb, if_pos ahx, e4, sb]
    dsimp only
    rw [if_neg ahx, sb]
    dsimp only
    have : v = .mk 2 v.aP [] 0 [] := by rw [← IF ahw, ← hk]; exact ev
    rw [← this]
    congr 3
    simp only [No, As, adU]
    omega
   ·have es : v.nu = Kd v.aQ := by rw [jh, if_neg ahw, if_neg ahw, if_neg ahw, if_pos hk]
    rw [es] at zE ⊢
    unfold Kd at zE ⊢
    have q0 : s.drop a = 115 :: 58 :: (Lib.itoa (v.aQ.length : Int) ++ 58 :: (v.aQ ++ 59 :: r)) := by rw [zE]; simp
    have q1 : s.drop (a + 2) = Lib.itoa (v.aQ.length : Int) ++ 58 :: (v.aQ ++ 59 :: r) := bQ (d := [115, 58]) q0
    have q2 : s.drop (a + 2 + (Lib.itoa (v.aQ.length : Int)).length + 1) = v.aQ ++ 59 :: r := by
     have := bQ (d := Lib.itoa (v.aQ.length : Int) ++ [58]) (r := v.aQ ++ 59 :: r) (a := a + 2) (s := s) (by rw [q1]; simp)
     rw [No] at this
     exact this
    have q3 : s.drop (a + 2 + (Lib.itoa (v.aQ.length : Int)).length + 1 + v.aQ.length) = 59 :: r := bQ q2
    have P8 := (sA q3).1
    have e5 := Bw ahx q1 ahw ahw hs
    replace e5 : cK s ((a + 2 : Nat) : Int) 58 = some ((v.aQ.length : Int), ((a + 2 + (Lib.itoa (v.aQ.length : Int)).length + 1 : Nat) : Int)) := e5
    have e6 := pq q2 ahw
    have e7 : ai (((a + 2 + (Lib.itoa (v.aQ.length : Int)).length + 1 : Nat) : Int) + (v.aQ.length : Int)) = ((a + 2 + (Lib.itoa (v.aQ.length : Int)).length + 1 + v.aQ.length : Nat) : Int) := o6 ahy ahw
    have e8 : ai ((s.length : Int) - ((a + 2 + (Lib.itoa (v.aQ.length : Int)).length + 1 : Nat) : Int)) = (s.length : Int) - ((a + 2 + (Lib.itoa (v.aQ.length : Int)).length + 1 : Nat) : Int) := by rw [ai, Av ahw ahw]
    rw [hh _ _ _ q0, sb, if_neg ahx, if_neg ahx, sb, if_neg ahx, if_pos ahx, e5, sb]
    dsimp only
    rw [if_neg ahw, if_neg ahw, e8, if_neg ahw, e7, nG q3, sb, if_pos ahx, e6, sb, sb]
    dsimp only
    rw [ba ahw]
    have : v = .mk 3 0 v.aQ 0 [] := by have := ev; rw [hk, hn3 hk] at this; exact this
    rw [← this]
    congr 3
    simp only [No, As, adU]
    omega
theorem Sq : ∀ (f : Nat) (y : Int) (s : aU), 0 ≤ y → y ≤ 9223372036854775807 → y < 10 ^ f → s.length + f ≤ 1000 → ∃ r, iG y s = some r ∧ r.length ≤ s.length + f
 | 0, y, s, h0, hm, h1, h2 => by
  rw [iG, if_neg ahw]; exact ⟨s, rfl, by omega⟩
 | f + 1, y, s, h0, hm, h1, h2 => by
  rw [iG]
  by_cases h : y > 0
  ·have h3 : y.tdiv 10 = y / 10 := Int.tdiv_eq_ediv_of_nonneg h0
   rw [Int.pow_succ] at h1
   have hb : ai (y.tdiv 10) = y / 10 := by rw [h3]; exact Av ahw ahw
   have e : nz ([UInt8.ofNat (IntKind.u8.wrap (ai (48 + (y.tmod 10)))).toNat] : List UInt8) s = some ([UInt8.ofNat (IntKind.u8.wrap (ai (48 + (y.tmod 10)))).toNat] ++ s) := if_pos ahC
   rw [if_pos h, e, sb, hb]
   obtain ⟨r, e2, h4⟩ := Sq f (y / 10) ([UInt8.ofNat (IntKind.u8.wrap (ai (48 + (y.tmod 10)))).toNat] ++ s) ahw ahw ahw ahC
   exact ⟨r, e2, by simp at h4; omega⟩
  ·rw [if_neg h]; exact ⟨s, rfl, by omega⟩
def GL (k : Int) : aU := (aR k).getD []
theorem kB (k : Int) (h : k ≤ 9223372036854775807) : aR k = some (GL k) := by
 suffices ∃ s, aR k = some s by obtain ⟨s, e⟩ := this; rw [GL, e]; rfl
 unfold aR
 by_cases hk : k ≤ 0
 ·rw [if_pos hk]; exact ⟨_, rfl⟩
 ·rw [if_neg hk]
  obtain ⟨r, e, hr⟩ := Sq 19 k [] ahw h ahw ahy
  rw [e, sb]
  have : nz [109] r = some ([109] ++ r) := if_pos (by simp at hr ⊢; omega)
  rw [this]; exact ⟨_, rfl⟩
theorem GM {l : List ae} {i : Nat} (h : i < l.length) : ae.wm (l.drop i) = l[i].aY.wt + ae.wm (l.drop (i + 1)) := by rw [aeg h, la]
theorem DE : ∀ (n : Nat) (l : List ae), ae.wm l ≤ n → ∀ k : Nat, k + 7 * ae.wm l ≤ 1000000000 → ∃ (k' : Nat) (l' : List ae), ij l (k : Int) = some ((k' : Int), l') ∧ l'.length = l.length ∧ k ≤ k' ∧ k' ≤ k + 7 * ae.wm l ∧ ik l' (k : Int) = some (k' : Int)
 | n, l, h => by
  intro k hk
  have hlen := Fa l
  have go : ∀ m i : Nat, i ≤ l.length → l.length - i = m → ∀ (P : List ae) (k : Nat), P.length = i → k + 7 * ae.wm (l.drop i) ≤ 1000000000 →
    ∃ (k' : Nat) (R : List ae), eU l (P ++ l.drop i) (k : Int) (i : Int) = some ((k' : Int), P ++ R) ∧ R.length = l.length - i ∧ k ≤ k' ∧ k' ≤ k + 7 * ae.wm (l.drop i) ∧ ∀ Q : List ae, Q.length = i → eV (Q ++ R) (k : Int) (i : Int) = some (.inl (k' : Int)) := by
   intro m
   induction m with
   | zero =>
    intro i h1 h2 P k hP hk
    have hi : i = l.length := by omega
    rw [eU, if_neg ahw, hi, afE]
    refine ⟨k, [], rfl, by simp, adV _, by omega, fun Q hQ => ?_⟩
    rw [eV, if_neg ahC]
   | succ m ihm =>
    intro i h1 h2 P k hP hk
    have bO : i < l.length := by omega
    have hd := GM bO
    have hwp := kA l[i].aY
    have hwe := l[i].aY.oQ
    have hwm : ae.wm (l.drop i) ≤ ae.wm l := by
     have hq : ∀ (l : List ae) (i : Nat), ae.wm (l.drop i) ≤ ae.wm l := by
      intro l
      induction l with
      | nil => intro i; simp
      | cons e r ih =>
       intro i
       cases i with
       | zero => exact adV _
       | succ i => rw [List.drop_succ_cons, la]; have := ih i; omega
     exact hq l i
    have w1 : ai ((k : Int) + 1) = ((k + 1 : Nat) : Int) := ba ahw
    have w2 : ai (((k + 1 : Nat) : Int) + 1) = ((k + 2 : Nat) : Int) := ba ahw
    have w3 : ai (((k + 2 : Nat) : Int) + 1) = ((k + 3 : Nat) : Int) := ba ahw
    have w4 : ai (((k + 3 : Nat) : Int) + 1) = ((k + 4 : Nat) : Int) := ba ahw
    have w5 : ai (((k + 4 : Nat) : Int) + 1) = ((k + 5 : Nat) : Int) := ba ahw
    have w6 : ai (((k + 5 : Nat) : Int) + 1) = ((k + 6 : Nat) : Int) := ba ahw
    have w7 : ai (((k + 6 : Nat) : Int) + 1) = ((k + 7 : Nat) : Int) := ba ahw
    obtain ⟨k1, l1, e1, g0, g1, g2, g3⟩ := DE (n - 1) l[i].aY.af ahw (k + 7) ahw
    have hx : idx (P ++ l.drop i) (i : Int) = some l[i] := by
     rw [cC (by rw [No, aez]; omega), afg ahw]
     simp [hP]
    obtain ⟨en, hen⟩ : ∃ en, en = ae.mk (bH.mk (((k : Int).tmod 3) == 0) ((k + 1 : Nat) : Int) (GL ((k + 2 : Nat) : Int))) (ah.mk ((k + 3 : Nat) : Int) ((k + 4 : Nat) : Int) (GL ((k + 5 : Nat) : Int)) ((k + 6 : Nat) : Int) l1) := ⟨_, rfl⟩
    have UN : (P ++ l.drop i).set i en = (P ++ [en]) ++ l.drop (i + 1) := by
     rw [List.set_append, if_neg ahw, show i - P.length = 0 by omega, aeG]
     congr 1
     rw [aeg bO]; rfl
    obtain ⟨k', R, f1, f2, f3, f4, f5⟩ := ihm (i + 1) ahw ahw (P ++ [en]) k1 (by simp [hP]) ahw
    refine ⟨k', en :: R, ?_, by simp; omega, by omega, by omega, fun Q hQ => ?_⟩
    ·rw [eU, if_pos ahw, hx, sb]
     simp only [w1, w2, w3, w4, w5, w6, w7, kB _ (show ((k + 2 : Nat) : Int) ≤ 9223372036854775807 by omega), kB _ (show ((k + 5 : Nat) : Int) ≤ 9223372036854775807 by omega), sb, e1, aeh, ← hen, UN]
     rw [ba ahw, f1]
     simp
    ·have hy : idx (Q ++ en :: R) (i : Int) = some en := by
      rw [cC (by rw [No, As]; omega), afg ahw]
      simp [hQ]
     have f6 := f5 (Q ++ [en]) (by simp [hQ])
     rw [eV, if_pos ahC]
     simp only [hy, sb, w1, w2, w3, w4, w5, w6, w7, kB _ (show ((k + 2 : Nat) : Int) ≤ 9223372036854775807 by omega), kB _ (show ((k + 5 : Nat) : Int) ≤ 9223372036854775807 by omega)]
     rw [hen] at f6 ⊢
     simp only [ae.AP, ae.AQ, ah.lS, ah.uT, ah.uU, ah.mW, ah.fm, if_true, g3, sb]
     rw [if_neg ahw, ba ahw]
     simpa using f6
  obtain ⟨k', R, e1, e2, e3, e4, e5⟩ := go l.length 0 ahw ahw [] k rfl (by rw [afp]; exact hk)
  rw [afp] at e1 e4
  replace e1 : eU l l (k : Int) 0 = some ((k' : Int), R) := e1
  replace e5 : eV R (k : Int) 0 = some (.inl (k' : Int)) := e5 [] rfl
  refine ⟨k', R, ?_, by omega, e3, e4, ?_⟩
  ·rw [ij, e1, sb]
  ·rw [ik, e5, sb]
termination_by n l => ae.wm l
decreasing_by
 have hwe := l[i].aY.oQ
 have hm := Fb l _ (aee bO)
 omega
theorem NK (k : bH) : rz k k = some true := by unfold rz; rw [if_pos rfl, if_pos rfl, if_pos rfl]
theorem GN : ∀ (n : Nat), n ≤ 2000000 → ∀ v : ah, v.wt ≤ n → kN v v = some true
 | 0, _, v, h => by have := kA v; omega
 | n + 1, hn, v, h => by
  have hlen := qY (v := v)
  have go : ∀ m i : Nat, i ≤ v.af.length → v.af.length - i = m → gE v.af v.af (i : Int) = some (.inl ()) := by
   intro m
   induction m with
   | zero => intro i h1 h2; rw [gE, if_neg ahw]
   | succ m ihm =>
    intro i h1 h2
    have bO : i < v.af.length := by omega
    have Sn := nQ (aee bO)
    have e1 : qt v.af[i] v.af[i] = some true := by
     rw [qt, NK, sb, if_pos rfl, GN n ahw _ ahw, sb, if_pos rfl]
    rw [gE, if_pos ahw, cC bO, sb, sb, e1, sb, if_pos rfl, ba ahw]
    exact ihm (i + 1) ahw ahw
  have e := go v.af.length 0 ahw ahw
  replace e : gE v.af v.af 0 = some (.inl ()) := e
  rw [kN, if_pos rfl, if_pos rfl, if_pos rfl, if_pos rfl, sf, if_pos rfl, e]
  rfl
theorem IM {v : ah} (hv : v.wt ≤ 2000000) : m22 v = some (decide (v.kw ≤ 200) && v.vJ) := by
 obtain ⟨r, e3, g1, g2, g3⟩ := GO 2000000 (adV _) v hv 200 ahw ahw
 unfold m22
 rw [e3, sb, GP 2000000 (adV _) v hv]
 by_cases h : v.kw ≤ 200
 ·rw [if_pos (by have := g2 ahw; omega), sb, decide_eq_true h]; rfl
 ·rw [if_neg (by have := g3 ahw; omega), decide_eq_false h]; rfl
theorem GQ {s : aU} {v : ah} (h : er s = some (v, false)) : v = .mk 0 0 [] 0 [] := by
 unfold er at h
 obtain ⟨⟨v1, v2⟩, h1, h⟩ := bd h
 dsimp only at h
 by_cases c1 : v2.db = true
 ·rw [if_pos c1] at h; cases h; rfl
 rw [if_neg c1] at h
 by_cases c2 : v2.dy = (s.length : Int)
 ·rw [if_pos c2] at h
  obtain ⟨⟨v8, v9⟩, h2, h⟩ := bd h
  dsimp only at h
  by_cases c3 : v9 = true
  ·rw [if_pos c3] at h
   by_cases c4 : v8 = s
   ·rw [if_pos c4] at h; cases h
   ·rw [if_neg c4] at h; cases h; rfl
  ·rw [if_neg c3] at h; cases h; rfl
 ·rw [if_neg c2] at h; cases h; rfl
theorem IP {s : aU} (hs : s.length ≤ 2000000) : ∃ v b, er s = some (v, b) ∧ iK s = some (v, b) ∧ v.wt ≤ 2000000 := by
 obtain ⟨v, b, e1, hw, h1⟩ := Lj hs
 refine ⟨v, b, e1, ?_, hw⟩
 obtain ⟨w, nx, e2, h2⟩ := NJ (s := s) ahw 202 0 rfl 0 (aeo _)
 replace e2 : dC s 0 0 = some (w, nx) := e2
 cases b with
 | true =>
  have h3 := h1 rfl
  rw [sy hw] at h3
  by_cases hc : ((decide (v.kw ≤ 200) && v.vJ) && v.plain) = true
  ·rw [if_pos hc] at h3
   simp only [so, decide_eq_true_eq] at hc
   obtain ⟨⟨Ym, hc2⟩, hc3⟩ := hc
   have h4 : v.nu = s := by cases h3; rfl
   have e3 := E9 _ (adV _) v hw hc2 hc3 s [] 0 0 (by rw [h4]; simp) ahw ahw
   replace e3 : dC s 0 0 = some (v, ((0 + v.nu.length : Nat) : Int)) := e3
   unfold iK
   rw [e3, sb]
   dsimp only
   rw [if_pos (by rw [h4]; simp), IM hw, sb, if_pos (by simp [Ym, hc2])]
  ·rw [if_neg hc] at h3; cases h3
 | false =>
  have hn := GQ e1
  subst hn
  unfold iK
  rw [e2, sb]
  dsimp only
  by_cases hx : nx = (s.length : Int)
  ·rw [if_pos hx]
   rcases h2 with rfl | ⟨r, g1, g2, g3, g4⟩
   ·omega
   have hr : s = w.nu := by
    have h5 : s = w.nu ++ r := by simpa using g1
    have h6 := congrArg List.length h5
    rw [No] at h6
    have h7 : r = [] := aeN ahw
    rw [h7, aeI] at h5
    exact h5
   have hww : w.wt ≤ 2000000 := by rw [hr] at hs; omega
   rw [IM hww, sb]
   by_cases hc : (decide (w.kw ≤ 200) && w.vJ) = true
   ·exfalso
    have UO := hc
    simp only [so, decide_eq_true_eq] at UO
    have e4 := Ny _ (adV _) w hww UO.2 g3 s [] 0 0 (by rw [afp, aeI]; exact hr) ahw ahw
    replace e4 : bg (.mk s 0 false) 0 = some (w, .mk s ((0 + w.nu.length : Nat) : Int) false) := e4
    unfold er at e1
    rw [e4, sb] at e1
    dsimp only at e1
    rw [if_neg ahx, if_pos (by rw [hr]; simp), sy hww, if_pos (by rw [hc, g3]; rfl), sb] at e1
    dsimp only at e1
    rw [if_pos rfl, if_pos hr.symm] at e1
    cases e1
   ·rw [if_neg hc]
  ·rw [if_neg hx]
theorem ue (a b c : Int) : zu a b c = some (decide (b ≤ a ∧ a ≤ c)) := by
 unfold zu
 by_cases h : b ≤ a
 ·rw [if_pos h]; congr 1; simp; omega
 ·rw [if_neg h]; congr 1; symm; rw [decide_eq_false_iff_not]; omega
theorem qw (a b c : Int) : wh a b c = some (decide (b ≤ a ∧ a ≤ c)) := by
 unfold wh
 by_cases h : a ≥ b
 ·rw [if_pos h]; congr 1; simp; omega
 ·rw [if_neg h]; congr 1; symm; rw [decide_eq_false_iff_not]; omega
def isLet (b : UInt8) : Bool := decide (65 ≤ b.toNat ∧ b.toNat ≤ 90) || decide (97 ≤ b.toNat ∧ b.toNat ≤ 122)
def Bx (b : UInt8) : Bool := decide (48 ≤ b.toNat ∧ b.toNat ≤ 57)
theorem UP (b : UInt8) : mQ (b.toNat : Int) = some (isLet b) := by
 unfold mQ isLet
 by_cases h : (b.toNat : Int) ≥ 65
 ·rw [if_pos h]
  by_cases h2 : (b.toNat : Int) ≤ 90
  ·rw [if_pos h2]; congr 1; symm; simp; omega
  ·rw [if_neg h2]
   by_cases h3 : (b.toNat : Int) ≥ 97
   ·rw [if_pos h3]; congr 1; rw [aeA]; simp; omega
   ·rw [if_neg h3]; congr 1; symm; simp; omega
 ·rw [if_neg h, if_neg ahw]; congr 1; symm; simp; omega
theorem UQ (b : UInt8) : n9 (b.toNat : Int) = some (Bx b) := by
 unfold n9 Bx
 by_cases h : (b.toNat : Int) ≥ 48
 ·rw [if_pos h]; congr 1; rw [aeA]; simp; omega
 ·rw [if_neg h]; congr 1; symm; simp; omega
theorem wb (b : UInt8) : ai (b.toNat : Int) = (b.toNat : Int) := by
 have := b.toNat_lt
 exact Av ahw ahw
theorem QF (b : UInt8) : lQ (b.toNat : Int) = some (isLet b || decide (b.toNat = 95)) := by
 unfold lQ isLet
 rw [wb, qw, sb]
 by_cases h : (97 : Int) ≤ (b.toNat : Int) ∧ (b.toNat : Int) ≤ 122
 ·rw [if_pos ahC]; congr 1; symm; simp; omega
 ·rw [if_neg ahC, qw, sb]
  by_cases h2 : (65 : Int) ≤ (b.toNat : Int) ∧ (b.toNat : Int) ≤ 90
  ·rw [if_pos ahC]; congr 1; symm; simp; omega
  ·rw [if_neg ahC]; congr 1; rw [aeA]; simp; omega
theorem QG (b : UInt8) : mR (b.toNat : Int) = some (Bx b) := by
 unfold mR Bx
 rw [wb, qw, sb]
 congr 1; rw [aeA]; simp; omega
def uf (s : aU) : Nat → Nat → Nat
 | 0, i => i
 | f + 1, i => if i < s.length then (if isLet (s.getD i 0) || decide ((s.getD i 0).toNat = 95) || (decide (0 < i) && Bx (s.getD i 0)) then uf s f (i + 1) else i) else i
theorem GR (s : aU) (hs : s.length < 9223372036854775807) : ∀ (f i : Nat), s.length ≤ i + f → i ≤ s.length → eX s (i : Int) = some ((uf s (f + 1) i : Nat) : Int)
 | f, i, h, hi => by
  rw [eX, uf]
  by_cases hc : i < s.length
  ·rw [if_pos ahw, if_pos hc, ke hc, sb, UP, sb, ba ahw]
   obtain ⟨g, rfl⟩ : ∃ g, f = g + 1 := ⟨f - 1, by omega⟩
   have ih := GR s hs g (i + 1) ahw ahw
   cases hl : isLet (s.getD i 0)
   ·rw [if_neg ahy, sb]
    by_cases h5 : (s.getD i 0).toNat = 95
    ·rw [if_pos ahw, ih, if_pos (by simp only [h5, eq_self, decide_true, Bool.or_true, afS])]
    ·rw [if_neg ahw]
     by_cases h0 : 0 < i
     ·rw [if_pos ahw, sb, UQ, sb]
      cases hd : Bx (s.getD i 0)
      ·rw [if_neg ahy, if_neg (by simp only [h5, decide_false, Bool.or_false, afH, afB]; simp)]
      ·rw [if_pos rfl, ih, if_pos (by simp only [h0, decide_true, aeT, Bool.or_true])]
     ·rw [if_neg ahw, if_neg (by simp only [h5, h0, decide_false, afd, Bool.or_false]; simp)]
   ·rw [if_pos rfl, ih, if_pos ahy]
  ·rw [if_neg ahw, if_neg hc]
theorem GS (s : aU) (hs : s.length < 9223372036854775807) : ∀ (f i : Nat), s.length ≤ i + f → i ≤ s.length → jA s 0 (i : Int) = some ((uf s (f + 1) i : Nat) : Int)
 | f, i, h, hi => by
  rw [jA, uf]
  by_cases hc : i < s.length
  ·rw [if_pos ahw, if_pos hc, ke hc, sb, QF, sb, ba ahw]
   obtain ⟨g, rfl⟩ : ∃ g, f = g + 1 := ⟨f - 1, by omega⟩
   have ih := GS s hs g (i + 1) ahw ahw
   cases hl : (isLet (s.getD i 0) || decide ((s.getD i 0).toNat = 95))
   ·rw [if_neg ahy]
    by_cases h0 : 0 < i
    ·rw [if_pos ahw, sb, QG, sb]
     cases hd : Bx (s.getD i 0)
     ·rw [if_neg ahy, if_neg ahy]
     ·rw [if_pos rfl, ih, if_pos (by simp [h0])]
    ·rw [if_neg ahw, if_neg (by simp [h0])]
   ·rw [if_pos rfl, ih, if_pos ahy]
  ·rw [if_neg ahw, if_neg hc]
theorem Lk (s : aU) : ∃ b, pG s = some b ∧ pI s = some b := by
 unfold pG pI
 by_cases h : s.length ≤ 20
 ·rw [if_pos ahw]
  have e1 : kV s = some ((uf s (s.length + 1) 0 : Nat) : Int) := by
   unfold kV
   have := GR s ahw s.length 0 ahw ahw
   rw [show ((0 : Nat) : Int) = 0 from rfl] at this
   rw [this, sb]
  have e2 : oa s 0 = some ((uf s (s.length + 1) 0 : Nat) : Int) := by
   unfold oa
   have := GS s ahw s.length 0 ahw ahw
   rw [show ((0 : Nat) : Int) = 0 from rfl] at this
   rw [this, sb]
  rw [e1, sb, e2]
  cases s with
  | nil => exact ⟨_, rfl, rfl⟩
  | cons c r =>
   rw [if_pos (show ((c :: r).length : Int) ≥ 1 by simp; omega), if_pos (show ((c :: r).length : Int) ≤ 20 by omega), sb]
   by_cases he : uf (c :: r) ((c :: r).length + 1) 0 = (c :: r).length
   ·rw [if_pos ahw]
    refine ⟨_, rfl, ?_⟩
    congr 1
    simp only [beq_iff_eq, he]
    simp
   ·rw [if_neg ahw]
    refine ⟨_, rfl, ?_⟩
    congr 1
    rw [beq_eq_false_iff_ne]
    omega
 ·rw [if_neg ahw]
  refine ⟨_, rfl, ?_⟩
  rw [if_pos ahw, if_neg ahw]
set_option maxRecDepth 100000
def Aw : List aU := [[101, 99, 104, 111], [105, 102], [101, 108, 115, 101], [119, 104, 105, 108, 101], [102, 111, 114, 101, 97, 99, 104], [97, 115], [98, 114, 101, 97, 107], [99, 111, 110, 116, 105, 110, 117, 101], [114, 101, 116, 117, 114, 110], [103, 108, 111, 98, 97, 108], [117, 110, 115, 101, 116], [116, 104, 114, 111, 119], [116, 114, 121], [99, 97, 116, 99, 104], [102, 105, 110, 97, 108, 108, 121], [121, 105, 101, 108, 100], [105, 110, 99, 108, 117, 100, 101], [102, 117, 110, 99, 116, 105, 111, 110], [99, 108, 97, 115, 115], [116, 114, 97, 105, 116], [101, 120, 116, 101, 110, 100, 115], [117, 115, 101], [112, 114, 105, 118, 97, 116, 101], [115, 116, 97, 116, 105, 99], [110, 101, 119], [116, 114, 117, 101], [102, 97, 108, 115, 101], [110, 117, 108, 108]]
theorem Ki (s : aU) : ∀ (f k : Nat), Aw.length ≤ k + f → iP s (k : Int) = some (if (Aw.drop k).any (fun x => decide (s = x)) then .inr true else .inl ())
 | f, k, h => by
  rw [iP]
  change (if (k : Int) < (Aw.length : Int) then idx Aw (k : Int) >>= _ else _) = _
  by_cases hc : k < Aw.length
  ·have hl : Aw.length = 28 := rfl
   rw [if_pos ahw, cC hc, sb, ba ahw, aeg hc, List.any_cons]
   by_cases he : Aw[k] = s
   ·rw [if_pos he, if_pos (by rw [← he]; simp)]
   ·obtain ⟨g, rfl⟩ : ∃ g, f = g + 1 := ⟨f - 1, by omega⟩
    rw [if_neg he, Ki s g (k + 1) ahw, decide_eq_false (fun h => he h.symm), afB]
  ·rw [if_neg ahw, afA ahw]; rfl
theorem dz {s x : aU} {b : Bool} {z : Option Bool} (h : z = some b) : (if s = x then some true else z) = some (decide (s = x) || b) := by
 subst h
 by_cases h : s = x
 ·rw [if_pos h, decide_eq_true h, afS]
 ·rw [if_neg h, decide_eq_false h, afB]
theorem QH (s : aU) : kX s = some (Aw.any fun x => decide (s = x)) := by
 unfold kX
 have := Ki s Aw.length 0 ahw
 rw [show ((0 : Nat) : Int) = 0 from rfl, afp] at this
 rw [this, sb]
 cases hc : Aw.any (fun x => decide (s = x))
 ·rfl
 ·rfl
theorem QI (s : aU) : kW s = some (Aw.any fun x => decide (s = x)) := by
 have e : Aw.any (fun x => decide (s = x)) = (decide (s = ([101, 99, 104, 111] : aU)) || (decide (s = ([105, 102] : aU)) || (decide (s = ([101, 108, 115, 101] : aU)) || (decide (s = ([119, 104, 105, 108, 101] : aU)) || (decide (s = ([102, 111, 114, 101, 97, 99, 104] : aU)) || (decide (s = ([97, 115] : aU)) || (decide (s = ([98, 114, 101, 97, 107] : aU)) || (decide (s = ([99, 111, 110, 116, 105, 110, 117, 101] : aU)) || (decide (s = ([114, 101, 116, 117, 114, 110] : aU)) || (decide (s = ([103, 108, 111, 98, 97, 108] : aU)) || (decide (s = ([117, 110, 115, 101, 116] : aU)) || (decide (s = ([116, 104, 114, 111, 119] : aU)) || (decide (s = ([116, 114, 121] : aU)) || (decide (s = ([99, 97, 116, 99, 104] : aU)) || (decide (s = ([102, 105, 110, 97, 108, 108, 121] : aU)) || (decide (s = ([121, 105, 101, 108, 100] : aU)) || (decide (s = ([105, 110, 99, 108, 117, 100, 101] : aU)) || (decide (s = ([102, 117, 110, 99, 116, 105, 111, 110] : aU)) || (decide (s = ([99, 108, 97, 115, 115] : aU)) || (decide (s = ([116, 114, 97, 105, 116] : aU)) || (decide (s = ([101, 120, 116, 101, 110, 100, 115] : aU)) || (decide (s = ([117, 115, 101] : aU)) || (decide (s = ([112, 114, 105, 118, 97, 116, 101] : aU)) || (decide (s = ([115, 116, 97, 116, 105, 99] : aU)) || (decide (s = ([110, 101, 119] : aU)) || (decide (s = ([116, 114, 117, 101] : aU)) || (decide (s = ([102, 97, 108, 115, 101] : aU)) || (decide (s = ([110, 117, 108, 108] : aU)) || false)))))))))))))))))))))))))))) := rfl
 rw [e]
 unfold kW
 exact (dz (dz (dz (dz (dz (dz (dz (dz (dz (dz (dz (dz (dz (dz (dz (dz (dz (dz (dz (dz (dz (dz (dz (dz (dz (dz (dz (dz rfl))))))))))))))))))))))))))))
theorem AR (s : aU) : ∃ b, eY s = some b ∧ gT s = some b := by
 obtain ⟨b, h1, h2⟩ := Lk s
 unfold eY gT
 rw [h1, h2, sb, sb, QI, QH]
 cases b
 ·exact ⟨_, rfl, rfl⟩
 ·exact ⟨_, rfl, rfl⟩
theorem Fc {α β : Type} {x : Option α} {f : α → Option β} (h1 : ∃ a, x = some a) (h2 : ∀ a, ∃ b, f a = some b) : ∃ b, (x >>= f) = some b := by
 obtain ⟨a, rfl⟩ := h1
 exact h2 a
theorem zG {α : Type} {c : Prop} [Decidable c] {x y : Option α} (h1 : ∃ a, x = some a) (h2 : ∃ a, y = some a) : ∃ a, (if c then x else y) = some a := by
 by_cases h : c
 ·rw [if_pos h]; exact h1
 ·rw [if_neg h]; exact h2
theorem UR (n : Int) : ∃ b, cU n = some b := by
 unfold cU
 repeat first | exact ⟨_, rfl⟩ | refine zG ?_ ?_
theorem QJ (n : Int) : ∃ b, mv n = some b := by
 unfold mv
 repeat first | exact ⟨_, rfl⟩ | refine zG ?_ ?_
theorem QK (n : Int) : ∃ b, jL n = some b := by
 unfold jL
 repeat first | exact ⟨_, rfl⟩ | refine zG ?_ ?_ | refine Fc ?_ (fun _ => ?_)
theorem US (n : Int) : ∃ b, iQ n = some b := by
 unfold iQ
 repeat first | exact ⟨_, rfl⟩ | refine zG ?_ ?_
theorem UT (n : Int) : ∃ b, dj n = some b := by
 unfold dj
 repeat first | exact ⟨_, rfl⟩ | refine zG ?_ ?_
theorem QL (x : aL) : ∃ b, iR x = some b := by
 unfold iR
 repeat first | exact ⟨_, rfl⟩ | refine zG ?_ ?_ | refine Fc ?_ (fun _ => ?_)
theorem UU (x : aL) : ∃ b, fO x = some b := by
 unfold fO
 repeat first | exact ⟨_, rfl⟩ | refine zG ?_ ?_ | refine Fc ?_ (fun _ => ?_)
def DF (n : Int) : Bool := (cU n).getD false
def fin (n : Int) : Bool := (iQ n).getD false
def Xc (n : Int) : Int := (dj n).getD 0
def IQ (x : aL) : Int := (iR x).getD 0
def Xd (x : aL) : Int := (fO x).getD 0
theorem UW (n : Int) : cU n = some (DF n) := by obtain ⟨b, h⟩ := UR n; rw [DF, h]; rfl
theorem Yo (n : Int) : iQ n = some (fin n) := by obtain ⟨b, h⟩ := US n; rw [fin, h]; rfl
theorem UX (n : Int) : dj n = some (Xc n) := by obtain ⟨b, h⟩ := UT n; rw [Xc, h]; rfl
theorem Sr (x : aL) : iR x = some (IQ x) := by obtain ⟨b, h⟩ := QL x; rw [IQ, h]; rfl
theorem Yp (x : aL) : fO x = some (Xd x) := by obtain ⟨b, h⟩ := UU x; rw [Xd, h]; rfl
theorem Yq (n : Int) : eO n = some (DF n) := (show eO n = cU n by unfold eO cU; rfl).trans (UW n)
theorem abM (n : Int) : kY n = some (fin n) := (show kY n = iQ n by unfold kY iQ; rfl).trans (Yo n)
theorem abN (n : Int) : fF n = some (Xc n) := (show fF n = dj n by unfold fF dj; rfl).trans (UX n)
theorem Yr (x : aL) : mr x = some (IQ x) := (show mr x = iR x by unfold mr iR; rfl).trans (Sr x)
theorem abO (x : aL) : jf x = some (Xd x) := (show jf x = fO x by unfold jf fO; rfl).trans (Yp x)
set_option maxHeartbeats 16000000 in
theorem GU (x : aL) (a b : Int) : ∃ v, km x a b = some v ∧ nF x a b = some v := by
 obtain ⟨n, A, B, S, T⟩ := x
 obtain ⟨gs, e1, e2⟩ := AR S
 obtain ⟨gt, e3, e4⟩ := AR T
 by_cases hn : 1 ≤ n ∧ n ≤ 56
 ·obtain ⟨k, rfl⟩ : ∃ k : Nat, n = (k : Int) := ⟨n.toNat, by omega⟩
  have hk : k ≤ 56 := by omega
  have h1 : 1 ≤ k := by omega
  clear hn
  have hc : k = 1 ∨ k = 2 ∨ k = 3 ∨ k = 4 ∨ k = 5 ∨ k = 6 ∨ k = 7 ∨ k = 8 ∨ k = 9 ∨ k = 10 ∨ k = 11 ∨ k = 12 ∨ k = 13 ∨ k = 14 ∨ k = 15 ∨ k = 16 ∨ k = 17 ∨ k = 18 ∨ k = 19 ∨ k = 20 ∨ k = 21 ∨ k = 22 ∨ k = 23 ∨ k = 24 ∨ k = 25 ∨ k = 26 ∨ k = 27 ∨ k = 28 ∨ k = 29 ∨ k = 30 ∨ k = 31 ∨ k = 32 ∨ k = 33 ∨ k = 34 ∨ k = 35 ∨ k = 36 ∨ k = 37 ∨ k = 38 ∨ k = 39 ∨ k = 40 ∨ k = 41 ∨ k = 42 ∨ k = 43 ∨ k = 44 ∨ k = 45 ∨ k = 46 ∨ k = 47 ∨ k = 48 ∨ k = 49 ∨ k = 50 ∨ k = 51 ∨ k = 52 ∨ k = 53 ∨ k = 54 ∨ k = 55 ∨ k = 56 := by omega
  clear hk h1
  rcases hc with rfl | rfl | rfl | rfl | rfl | rfl | rfl | rfl | rfl | rfl | rfl | rfl | rfl | rfl | rfl | rfl | rfl | rfl | rfl | rfl | rfl | rfl | rfl | rfl | rfl | rfl | rfl | rfl | rfl | rfl | rfl | rfl | rfl | rfl | rfl | rfl | rfl | rfl | rfl | rfl | rfl | rfl | rfl | rfl | rfl | rfl | rfl | rfl | rfl | rfl | rfl | rfl | rfl | rfl | rfl | rfl
  all_goals
   simp only [km, nF, oc, mS, oW, pL, cU, eO, mv, jL, ue, qw, e1, e2, e3, e4, sb]
   simp [sb]
   repeat' split
   all_goals simp_all
   all_goals (try omega)
   all_goals (by_cases hT : T = [] <;> by_cases h1 : A < a <;> by_cases h2 : B < a <;> by_cases h3 : A < b <;> first | (simp_all; done) | omega | (simp_all; omega))
 ·refine ⟨false, ?_, ?_⟩
  ·unfold km oc
   rw [ue, sb, sb, if_neg (by simpa using hn)]
  ·have key : ∀ {α : Type} {X : Option α} {f : α → Option Bool}, (∃ a, X = some a) → (∀ a, f a = some false) → (X >>= f) = some false := fun {α X f} h1 h2 => by
    obtain ⟨a, rfl⟩ := h1
    exact h2 a
   have UY := QK n
   have DA := QJ n
   have htg : ∃ b, eO n = some b := ⟨_, Yq n⟩
   have NL : ∀ a b c, ∃ v, wh a b c = some v := fun a b c => ⟨_, qw a b c⟩
   unfold nF
   refine key ?_ (fun _ => key ?_ (fun _ => key ?_ (fun _ => key ?_ (fun _ => key ?_ (fun _ => key ?_ (fun _ => ?_))))))
   iterate 6 (repeat first | exact ⟨_, rfl⟩ | exact ⟨_, e2⟩ | exact ⟨_, e4⟩ | exact UY | exact DA | exact htg | exact NL _ _ _ | refine zG ?_ ?_ | refine Fc ?_ (fun _ => ?_))
   rw [qw, sb, if_neg (by simpa using hn)]
def gI (l : List Int) (i : Nat) : Int := l.getD i 0
theorem sC {l : List Int} {i : Nat} (h : i < l.length) : idx l (i : Int) = some (gI l i) := by
 rw [cC h, gI, adY, Is h]; rfl
theorem DG {l : List Int} {i : Nat} (h : i < l.length) : gI l i = l[i] := by
 rw [gI, adY, Is h]; rfl
theorem ug {l : List Int} {a i : Nat} {b : Int} : gI (l.set a b) i = if a = i ∧ a < l.length then b else gI l i := by
 rw [gI, gI, adY, adY, afo]
 by_cases h : a = i
 ·subst h
  rw [if_pos rfl]
  by_cases h2 : a < l.length
  ·rw [if_pos h2, if_pos ⟨rfl, h2⟩]; rfl
  ·rw [if_neg h2, if_neg (fun h => h2 h.2), aev ahw]
 ·rw [if_neg h, if_neg (fun h2 => h h2.1)]
def neg (l : List Int) : Nat := l.countP (fun x => decide (x < 0))
theorem NM (l : List Int) : neg l ≤ l.length := List.countP_le_length
theorem QM {l : List Int} {a : Nat} {b : Int} (ha : a < l.length) (h1 : gI l a < 0) (hb : 0 ≤ b) : neg (l.set a b) + 1 = neg l := by
 rw [DG ha] at h1
 have hp : 0 < neg l := List.countP_pos_iff.2 ⟨l[a], aee ha, by simpa using h1⟩
 unfold neg at hp ⊢
 rw [List.countP_set ha, if_pos ahW, if_neg ahC]
 omega
section
variable (code : List aL)
inductive R : Nat → Int → Prop
 | zero : R 0 0
 | next {i : Nat} {h : Int} (hr : R i h) (hi : i < code.length) (hf : fin (code[i]).a8 = false) : R (i + 1) (ai (h + Xd code[i]))
 | jump {i : Nat} {h : Int} (hr : R i h) (hi : i < code.length) (ht : DF (code[i]).a8 = true) : R (code[i]).fA.toNat (ai (h + Xc (code[i]).a8))
def uX : Prop := (∀ i h, R code i h → ∃ hi : i < code.length, 0 ≤ h ∧ h ≤ 500 ∧ IQ code[i] ≤ h) ∧ ∀ i h h', R code i h → R code i h' → h = h'
def Ys (out : List Int) : Prop := out.length = code.length ∧ ∀ i, i < code.length → (gI out i = -1 ∨ R code i (gI out i)) ∧ ∀ h, R code i h → gI out i = h
theorem Ys.uniq {a b : List Int} (ha : Ys code a) (hb : Ys code b) : a = b := by
 refine afP (ha.1.trans hb.1.symm) fun i h1 h2 => ?_
 have hi : i < code.length := by rw [← ha.1]; exact h1
 rw [← DG h1, ← DG h2]
 obtain ⟨a1, a2⟩ := ha.2 i hi
 obtain ⟨b1, b2⟩ := hb.2 i hi
 rcases a1 with a1 | a1
 ·rcases b1 with b1 | b1
  ·rw [a1, b1]
  ·exact a2 _ b1
 ·exact (b2 _ a1).symm
structure Part (out : List Int) : Prop where
 len : out.length = code.length
 val : ∀ i, i < code.length → gI out i = -1 ∨ (0 ≤ gI out i ∧ R code i (gI out i))
 zero : 0 < code.length → gI out 0 = 0
 le : ∀ i, i < code.length → gI out i ≤ 500
def GV (out : List Int) (i : Nat) (hi : i < code.length) : Prop :=
 IQ code[i] ≤ gI out i ∧ gI out i ≤ 500 ∧
 (fin (code[i]).a8 = false → i + 1 < code.length ∧ 0 ≤ gI out (i + 1) ∧ gI out (i + 1) = ai (gI out i + Xd code[i])) ∧
 (DF (code[i]).a8 = true → (code[i]).fA.toNat < code.length ∧ 0 ≤ gI out (code[i]).fA.toNat ∧ gI out (code[i]).fA.toNat = ai (gI out i + Xc (code[i]).a8))
def Ext (out iU : List Int) : Prop := iU.length = out.length ∧ ∀ i, 0 ≤ gI out i → gI iU i = gI out i
theorem Ext.refl (out : List Int) : Ext out out := ⟨rfl, fun _ _ => rfl⟩
theorem Ext.trans {a b c : List Int} (h1 : Ext a b) (h2 : Ext b c) : Ext a c := ⟨h2.1.trans h1.1, fun i hi => (h2.2 i (by rw [h1.2 i hi]; exact hi)).trans (h1.2 i hi)⟩
theorem GV.ext {out iU : List Int} {i : Nat} {hi : i < code.length} (h : GV code out i hi) (h0 : 0 ≤ gI out i) (he : Ext out iU) : GV code iU i hi := by
 obtain ⟨h1, h2, h3, h4⟩ := h
 have e := he.2 i h0
 refine ⟨by rw [e]; exact h1, by rw [e]; exact h2, fun hf => ?_, fun ht => ?_⟩
 ·obtain ⟨a, b, c⟩ := h3 hf
  rw [e, he.2 _ b]
  exact ⟨a, b, c⟩
 ·obtain ⟨a, b, c⟩ := h4 ht
  rw [e, he.2 _ b]
  exact ⟨a, b, c⟩
theorem Fe {out : List Int} (hp : Part code out) (hd : ∀ i (hi : i < code.length), 0 ≤ gI out i → GV code out i hi) (h0 : 0 < code.length) : uX code ∧ Ys code out := by
 have key : ∀ i h, R code i h → ∃ hi : i < code.length, gI out i = h ∧ 0 ≤ h := fun i h hr => by
  induction hr with
  | zero => exact ⟨h0, hp.zero h0, Int.le_refl _⟩
  | next hr hi hf ih =>
   obtain ⟨_, e, hh⟩ := ih
   obtain ⟨_, _, h3, _⟩ := hd _ hi (by rw [e]; exact hh)
   obtain ⟨a, b, c⟩ := h3 hf
   rw [e] at c
   exact ⟨a, c, by rw [← c]; exact b⟩
  | jump hr hi ht ih =>
   obtain ⟨_, e, hh⟩ := ih
   obtain ⟨_, _, _, h4⟩ := hd _ hi (by rw [e]; exact hh)
   obtain ⟨a, b, c⟩ := h4 ht
   rw [e] at c
   exact ⟨a, c, by rw [← c]; exact b⟩
 refine ⟨⟨fun i h hr => ?_, fun i h h' hr hr' => ?_⟩, hp.len, fun i hi => ⟨(hp.val i hi).imp id (·.2), fun h hr => (key i h hr).2.1⟩⟩
 ·obtain ⟨hi, e, hh⟩ := key i h hr
  obtain ⟨h1, h2, _⟩ := hd i hi (by rw [e]; exact hh)
  rw [e] at h1 h2
  exact ⟨hi, hh, h2, h1⟩
 ·rw [← (key i h hr).2.1, (key i h' hr').2.1]
def iv (out : List Int) (a : Nat) (b : Int) : Prop := out.length ≤ a ∨ ¬(0 ≤ b ∧ b ≤ 500) ∨ (0 ≤ gI out a ∧ gI out a ≠ b)
instance (out : List Int) (a : Nat) (b : Int) : Decidable (iv out a b) := by unfold iv; exact inferInstance
theorem zH {out : List Int} {a : Nat} {b : Int} (hp : Part code out) (hr : R code a b) (h : iv out a b) : ¬ uX code := fun hg => by
 obtain ⟨hi, h1, h2, _⟩ := hg.1 a b hr
 rcases h with h | h | ⟨h, h3⟩
 ·rw [hp.len] at h; omega
 ·exact h ⟨h1, h2⟩
 ·rcases hp.val a hi with q | ⟨_, q⟩
  ·omega
  ·exact h3 (hg.2 a _ _ q hr)
theorem given {out : List Int} {a : Nat} {b : Int} (hp : Part code out) (hr : R code a b) (h : ¬ iv out a b) : a < code.length ∧ 0 ≤ b ∧ b ≤ 500 ∧ Part code (out.set a b) ∧ Ext out (out.set a b) ∧ gI (out.set a b) a = b ∧
  (∀ i, 0 ≤ gI (out.set a b) i → 0 ≤ gI out i ∨ i = a) ∧ (gI out a < 0 → neg (out.set a b) + 1 = neg out) ∧ (¬ gI out a < 0 → out.set a b = out) := by
 have h1 : ¬ out.length ≤ a := fun x => h (.inl x)
 have h2 : 0 ≤ b ∧ b ≤ 500 := afK.1 (fun x => h (.inr (.inl x)))
 have h3 : 0 ≤ gI out a → gI out a = b := fun x => afK.1 (fun y => h (.inr (.inr ⟨x, y⟩)))
 have bO : a < out.length := by omega
 have hac : a < code.length := by rw [← hp.len]; exact bO
 have he : Ext out (out.set a b) := ⟨aeZ, fun i hi => by
  rw [ug]
  by_cases hai : a = i ∧ a < out.length
  ·obtain ⟨rfl, _⟩ := hai
   rw [if_pos ⟨rfl, bO⟩]
   exact (h3 hi).symm
  ·rw [if_neg hai]⟩
 refine ⟨hac, h2.1, h2.2, ⟨by rw [aeZ]; exact hp.len, fun i hi => ?_, fun h0 => ?_, fun i hi => ?_⟩, he, by rw [ug, if_pos ⟨rfl, bO⟩], fun i hi => ?_, fun hn => QM bO hn h2.1, fun hn => ?_⟩
 ·rw [ug]
  by_cases hai : a = i ∧ a < out.length
  ·obtain ⟨rfl, _⟩ := hai
   rw [if_pos ⟨rfl, bO⟩]
   exact .inr ⟨h2.1, hr⟩
  ·rw [if_neg hai]; exact hp.val i hi
 ·have := hp.zero h0
  rw [he.2 0 ahw]; exact this
 ·rw [ug]
  by_cases hai : a = i ∧ a < out.length
  ·rw [if_pos hai]; exact h2.2
  ·rw [if_neg hai]; exact hp.le i hi
 ·rw [ug] at hi
  by_cases hai : a = i ∧ a < out.length
  ·exact .inr hai.1.symm
  ·rw [if_neg hai] at hi; exact .inl hi
 ·have : gI out a = b := h3 ahw
  rw [← this, DG bO]
  exact List.set_getElem_self bO
end
theorem Yt {out : List Int} (a : Nat) (b : Int) : fW out (a : Int) b = some (if iv out a b then (false, false, out) else (decide (gI out a < 0), true, out.set a b)) := by
 unfold fW
 by_cases h1 : out.length ≤ a
 ·rw [if_pos ahw, sb, if_pos (show iv out a b from (.inl h1))]
 ·have bO : a < out.length := by omega
  rw [if_neg ahw, qw, sb]
  by_cases h2 : 0 ≤ b ∧ b ≤ 500
  ·rw [if_pos ahO, sC bO, sb]
   by_cases h3 : gI out a ≥ 0
   ·rw [if_pos h3, sb]
    by_cases h4 : gI out a = b
    ·rw [if_pos h4, sb, sb, sb, if_neg (show ¬ iv out a b by intro h; rcases h with h | h | h; exact h1 h; exact h h2; exact h.2 h4)]; rfl
    ·rw [if_neg h4, sb, if_pos (show iv out a b from (.inr (.inr ⟨h3, h4⟩)))]
   ·rw [if_neg h3, sb, sb, sb, if_neg (show ¬ iv out a b by intro h; rcases h with h | h | h; exact h1 h; exact h h2; exact h3 h.1)]; rfl
  ·rw [if_neg ahO, sb, if_pos (show iv out a b from (.inr (.inl h2)))]
theorem Yu {out work : List Int} (a : Nat) (b : Int) (hw : work.length < 1000000000) : dL (a : Int) b out work = some (if iv out a b then (false, out, work) else if gI out a < 0 then (true, out.set a b, work ++ [(a : Int)]) else (true, out, work)) := by
 unfold dL
 by_cases h1 : out.length ≤ a
 ·rw [if_pos ahw, sb, if_pos (show iv out a b from (.inl h1))]
 ·have bO : a < out.length := by omega
  rw [if_neg ahw, ue, sb]
  have Ll : ∀ hc : ¬ iv out a b, (idx out (a : Int) >>= fun vu =>
   (if vu < 0 then
    idx out (a : Int) >>= fun aX =>
    im 8 work ([(a : Int)] : List Int) >>= fun Xe =>
    some (true, (out.set (a : Int).toNat b), Xe)
   else
    some (true, out, work))) = some (if iv out a b then (false, out, work) else if gI out a < 0 then (true, out.set a b, work ++ [(a : Int)]) else (true, out, work)) := fun hc => by
   rw [if_neg hc, sC bO, sb]
   by_cases h5 : gI out a < 0
   ·rw [if_pos h5, sb, kD ahC, sb, if_pos h5]; rfl
   ·rw [if_neg h5, if_neg h5]
  by_cases h2 : 0 ≤ b ∧ b ≤ 500
  ·rw [if_pos ahO]
   rw [sC bO, sb]
   by_cases h3 : gI out a ≥ 0
   ·rw [if_pos h3, sb]
    by_cases h4 : gI out a = b
    ·rw [if_pos h4, sb, ← sC bO]
     exact Ll (by intro h; rcases h with h | h | h; exact h1 h; exact h h2; exact h.2 h4)
    ·rw [if_neg h4, sb, if_pos (show iv out a b from (.inr (.inr ⟨h3, h4⟩)))]
   ·rw [if_neg h3, sb, ← sC bO]
    exact Ll (by intro h; rcases h with h | h | h; exact h1 h; exact h h2; exact h3 h.1)
  ·rw [if_neg ahO, sb, if_pos (show iv out a b from (.inr (.inl h2)))]
structure abP (code : List aL) (out work : List Int) (a : Nat) (b : Int) (iU pO : List Int) : Prop where
 part : Part code iU
 ext : Ext out iU
 at_ : gI iU a = b
 lt : a < code.length
 lo : 0 ≤ b
 hi : b ≤ 500
 new : ∀ i, 0 ≤ gI iU i → 0 ≤ gI out i ∨ (i : Int) ∈ pO
 sub : ∀ x, x ∈ work → x ∈ pO
 mem : ∀ x, x ∈ pO → x ∈ work ∨ x = (a : Int)
 mu : 2 * neg iU + pO.length ≤ 2 * neg out + work.length
theorem NN {code : List aL} {out work : List Int} {a : Nat} {b : Int} (hp : Part code out) (hr : R code a b) (hw : work.length < 1000000000) :
  (dL (a : Int) b out work = some (false, out, work) ∧ ¬ uX code) ∨ ∃ iU pO, dL (a : Int) b out work = some (true, iU, pO) ∧ abP code out work a b iU pO := by
 rw [Yu a b hw]
 by_cases h : iv out a b
 ·rw [if_pos h]; exact .inl ⟨rfl, zH code hp hr h⟩
 ·obtain ⟨h1, h2, h3, h4, h5, h6, h7, h8, h9⟩ := given code hp hr h
  rw [if_neg h]
  right
  by_cases hn : gI out a < 0
  ·rw [if_pos hn]
   refine ⟨_, _, rfl, h4, h5, h6, h1, h2, h3, fun i hi => (h7 i hi).imp id (fun e => by subst e; simp), fun x hx => by simp [hx], fun x hx => by simpa using hx, ?_⟩
   have := h8 hn
   simp only [No, As, adU]
   omega
  ·rw [if_neg hn]
   have e := h9 hn
   rw [e] at h4 h5 h6 h7
   exact ⟨_, _, rfl, h4, h5, h6, h1, h2, h3, fun i hi => .inl hi, fun x hx => hx, fun x hx => .inl hx, adV _⟩
structure Inv (code : List aL) (out work : List Int) : Prop where
 part : Part code out
 ok : ∀ x, x ∈ work → ∃ i : Nat, x = (i : Int) ∧ i < code.length ∧ 0 ≤ gI out i
 done : ∀ i (hi : i < code.length), 0 ≤ gI out i → (i : Int) ∈ work ∨ GV code out i hi
def NP (code : List aL) (o : (List Int) ⊕ (List Int × Bool)) : Prop :=
 (o = .inr ([], false) ∧ ¬ uX code) ∨ ∃ iU, o = .inl iU ∧ Part code iU ∧ ∀ i (hi : i < code.length), 0 ≤ gI iU i → GV code iU i hi
theorem IS (l : List Int) (h : 0 < l.length) : ∃ w x, l = w ++ [x] := by
 rcases List.eq_nil_or_concat l with rfl | ⟨w, x, rfl⟩
 ·simp at h
 ·exact ⟨w, x, by simp⟩
theorem Yv (a0 : aC) (hn : a0.ax.length ≤ 2000000) (hA : ∀ i (hi : i < a0.ax.length), DF (a0.ax[i]).a8 = true → 0 ≤ (a0.ax[i]).fA) :
  ∀ (M : Nat) (out work : List Int), 2 * neg out + work.length ≤ M → M ≤ 100000000 → Inv a0.ax out work → ∃ o, cJ a0 out work = some o ∧ NP a0.ax o := by
 intro M
 induction M with
 | zero =>
  intro out work hm _ hv
  have : work.length = 0 := by omega
  rw [cJ, if_neg ahw]
  have hw : work = [] := aeN this
  subst hw
  exact ⟨_, rfl, .inr ⟨out, rfl, hv.part, fun i hi h => (hv.done i hi h).resolve_left ahy⟩⟩
 | succ M ih =>
  intro out work hm hM hv
  rw [cJ]
  by_cases h0 : 0 < work.length
  ·rw [if_pos ahw]
   obtain ⟨w, x, rfl⟩ := IS work h0
   have hl : (w ++ [x]).length = w.length + 1 := by simp
   have e1 : ai (((w ++ [x]).length : Int) - 1) = (w.length : Int) := Kj ahw ahw
   rw [e1, cC ahw, sb]
   have e2 : (w ++ [x])[w.length]'ahw = x := by simp
   rw [e2]
   have e3 : Se (w ++ [x]) (w.length : Int) = some w := by
    unfold Se
    rw [if_pos ⟨by omega, by omega⟩]
    simp
   rw [e3, sb, sb]
   obtain ⟨i, rfl, hi, hg⟩ := hv.ok x ahy
   have hlen := hv.part.len
   rw [cC hi, sb, sC ahw, sb, Sr, sb]
   have hR : R a0.ax i (gI out i) := by
    rcases hv.part.val i hi with h | ⟨_, h⟩
    ·omega
    ·exact h
   have hwl : w.length < 100000000 := by omega
   have last : ∀ iU pO, Part a0.ax iU → Ext out iU → (∀ j, 0 ≤ gI iU j → 0 ≤ gI out j ∨ (j : Int) ∈ pO) → (∀ y, y ∈ w → y ∈ pO) → (∀ y, y ∈ pO → y ∈ w ∨ ∃ j : Nat, y = (j : Int) ∧ j < a0.ax.length ∧ 0 ≤ gI iU j) →
     2 * neg iU + pO.length ≤ 2 * neg out + w.length → GV a0.ax iU i hi → ∃ o, cJ a0 iU pO = some o ∧ NP a0.ax o := by
    intro iU pO q1 q2 q3 q4 q5 q6 q7
    refine ih iU pO ahw ahw ⟨q1, fun y hy => ?_, fun j hj h => ?_⟩
    ·rcases q5 y hy with h | h
     ·obtain ⟨j, r1, r2, r3⟩ := hv.ok y (by simp [h])
      exact ⟨j, r1, r2, by rw [q2.2 j r3]; exact r3⟩
     ·exact h
    ·rcases q3 j h with h1 | h1
     ·rcases hv.done j hj h1 with h2 | h2
      ·simp only [aea, aeW] at h2
       rcases h2 with h2 | h2
       ·exact .inl (q4 _ h2)
       ·have : j = i := by omega
        subst this
        exact .inr q7
      ·exact .inr (h2.ext _ h1 q2)
     ·exact .inl h1
   by_cases hneed : IQ a0.ax[i] > gI out i
   ·rw [if_pos hneed]
    exact ⟨_, rfl, .inl ⟨rfl, fun hg => by obtain ⟨_, _, _, h⟩ := hg.1 _ _ hR; omega⟩⟩
   rw [if_neg hneed, Yo, sb]
   have h5 : gI out i ≤ 500 := hv.part.le i hi
   cases hf : fin (a0.ax[i]).a8
   ·rw [if_neg ahy, Yp, sb, ba ahw]
    rcases NN hv.part (.next hR hi hf) ahw (work := w) with ⟨e, hb⟩ | ⟨abQ, Ss, e, g1⟩
    ·rw [e, sb]
     exact ⟨_, rfl, .inl ⟨rfl, hb⟩⟩
    ·rw [e, sb]
     dsimp only
     rw [if_pos rfl, UW, sb]
     have d1 := g1.ext.2 i hg
     cases ht : DF (a0.ax[i]).a8
     ·rw [if_neg ahy]
      refine last abQ Ss g1.part g1.ext g1.new g1.sub (fun y hy => (g1.mem y hy).imp id (fun e => ⟨_, e, g1.lt, by rw [g1.at_]; exact g1.lo⟩)) g1.mu ⟨by rw [d1]; omega, by rw [d1]; exact h5, fun _ => ⟨g1.lt, by rw [g1.at_]; exact g1.lo, by rw [g1.at_, d1]⟩, fun h => by rw [ht] at h; cases h⟩
     ·rw [if_pos rfl, UX, sb]
      have ea : (a0.ax[i]).fA = (((a0.ax[i]).fA.toNat : Nat) : Int) := by have := hA i hi ht; omega
      rcases NN g1.part (.jump hR hi ht) (by have := g1.mu; have := NM out; omega) (work := Ss) with ⟨e, hb⟩ | ⟨UZ, NQ, e, g2⟩
      ·rw [← ea] at e
       rw [e, sb]
       exact ⟨_, rfl, .inl ⟨rfl, hb⟩⟩
      ·rw [← ea] at e
       rw [e, sb]
       dsimp only
       rw [if_pos rfl]
       have d2 := g2.ext.2 i (by rw [d1]; exact hg)
       have m1 := g1.mu
       have m2 := g2.mu
       refine last UZ NQ g2.part (g1.ext.trans g2.ext) (fun j hj => ?_) (fun y hy => g2.sub _ (g1.sub _ hy)) (fun y hy => ?_) ahw ⟨by rw [d2, d1]; omega, by rw [d2, d1]; exact h5, fun _ => ⟨g1.lt, ?_, ?_⟩, fun _ => ⟨g2.lt, by rw [g2.at_]; exact g2.lo, by rw [g2.at_, d2, d1]⟩⟩
       ·rcases g2.new j hj with h | h
        ·rcases g1.new j h with h | h
         ·exact .inl h
         ·exact .inr (g2.sub _ h)
        ·exact .inr h
       ·rcases g2.mem y hy with h | h
        ·rcases g1.mem y h with h | h
         ·exact .inl h
         ·refine .inr ⟨_, h, g1.lt, ?_⟩
          rw [g2.ext.2 _ (by rw [g1.at_]; exact g1.lo), g1.at_]; exact g1.lo
        ·exact .inr ⟨_, h, g2.lt, by rw [g2.at_]; exact g2.lo⟩
       ·rw [g2.ext.2 _ (by rw [g1.at_]; exact g1.lo), g1.at_]; exact g1.lo
       ·rw [g2.ext.2 _ (by rw [g1.at_]; exact g1.lo), g1.at_, d2, d1]
   ·rw [if_pos rfl, UW, sb]
    cases ht : DF (a0.ax[i]).a8
    ·rw [if_neg ahy]
     exact last out w hv.part (Ext.refl _) (fun j h => .inl h) (fun y hy => hy) (fun y hy => .inl hy) (adV _) ⟨by omega, h5, (fun h => by rw [hf] at h; cases h), (fun h => by rw [ht] at h; cases h)⟩
    ·rw [if_pos rfl, UX, sb]
     have ea : (a0.ax[i]).fA = (((a0.ax[i]).fA.toNat : Nat) : Int) := by have := hA i hi ht; omega
     rcases NN hv.part (.jump hR hi ht) ahw (work := w) with ⟨e, hb⟩ | ⟨UZ, NQ, e, g2⟩
     ·rw [← ea] at e
      rw [e, sb]
      exact ⟨_, rfl, .inl ⟨rfl, hb⟩⟩
     ·rw [← ea] at e
      rw [e, sb]
      dsimp only
      rw [if_pos rfl]
      have d2 := g2.ext.2 i hg
      exact last UZ NQ g2.part g2.ext g2.new g2.sub (fun y hy => (g2.mem y hy).imp id (fun e => ⟨_, e, g2.lt, by rw [g2.at_]; exact g2.lo⟩)) g2.mu ⟨by rw [d2]; omega, by rw [d2]; exact h5, (fun h => by rw [hf] at h; cases h), fun _ => ⟨g2.lt, by rw [g2.at_]; exact g2.lo, by rw [g2.at_, d2]⟩⟩
  ·rw [if_neg ahw]
   have hw : work = [] := aeN ahw
   subst hw
   exact ⟨_, rfl, .inr ⟨out, rfl, hv.part, fun i hi h => (hv.done i hi h).resolve_left ahy⟩⟩
end Go.Am
