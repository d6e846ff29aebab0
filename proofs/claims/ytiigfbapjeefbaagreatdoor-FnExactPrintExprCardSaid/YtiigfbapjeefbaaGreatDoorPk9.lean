/- Texts of the proof, joined and shortened. -/
import Derived.Test.YtiigfbapjeefbaaGreatDoorPk8
set_option linter.unusedVariables false
set_option linter.unusedSimpArgs false
set_option maxRecDepth 100000
namespace Go.Am
open Go Go.RowKit Go.Proofs
theorem vj (m : Int) (h1 : 1 ≤ m) (h2 : m ≤ 15) : (A7 m).length ≤ 3 := by
 obtain ⟨k, rfl⟩ : ∃ k : Nat, m = (k : Int) := ⟨m.toNat, by omega⟩
 have h3 : k ≤ 15 := by omega
 have h4 : 1 ≤ k := by omega
 match k, h3, h4 with
 | 1, _, _ => decide
 | 2, _, _ => decide
 | 3, _, _ => decide
 | 4, _, _ => decide
 | 5, _, _ => decide
 | 6, _, _ => decide
 | 7, _, _ => decide
 | 8, _, _ => decide
 | 9, _, _ => decide
 | 10, _, _ => decide
 | 11, _, _ => decide
 | 12, _, _ => decide
 | 13, _, _ => decide
 | 14, _, _ => decide
 | 15, _, _ => decide
 | 0, _, h => omega
 | k + 16, h, _ => omega
theorem Ku (t : ar) : (qt t).length ≤ 2 * t.length + 2 := by
 have := rE t
 simp only [qt, An, an, mg]; omega
theorem Zj (t : ar) : 1 ≤ (qt t).length := by
 simp only [qt, An, an, mg]; omega
section
variable {X Y : ae → ar}
theorem du (n : ae) (k : Int) : (mL X n k).length ≤ (X n).length + 2 := by
 unfold mL
 split
 ·simp only [An, an, mg]; omega
 ·omega
theorem Kv (n : ae) (k : Int) (h : 1 ≤ (X n).length) : 1 ≤ (mL X n k).length := by
 unfold mL
 split
 ·simp only [An, an, mg]; omega
 ·omega
def Bd (X : ae → ar) (x : ae) : Prop := 1 ≤ (X x).length ∧ (X x).length + 24 ≤ 4194304 * sz x
theorem Kw : ∀ (l : List ae) (f : Bool), (∀ x ∈ l, Bd X x) → (jn X f l).length ≤ 4194304 * ij l
 | [], f, _ => by simp [jn]
 | x :: r, f, h => by
  have h1 := Kw r false (fun y hy => h y atZ)
  have h2 := (h x atv).2
  have h3 := du (X := X) x 1
  rw [jn, ij]
  cases f <;> simp only [cond_true, cond_false, An, an, mg] <;> omega
theorem pE (l : List ae) (h : ∀ x ∈ l, Bd X x) : (iU X l).length ≤ 4194304 * ij l + 2 := by
 have := Kw l true h
 simp only [iU, An, an, mg]; omega
theorem Zk (x : ae) (h : ∀ y ∈ x.ah, Bd X y) : (Zi X x).length + 20 ≤ 4194304 * sz x := by
 have hs := me x
 unfold Zi
 generalize x.ah = ks at *
 match ks, h, hs with
 | [], _, _ => simp; omega
 | [a], h, hs =>
  have h2 := (h a atv).2
  have h3 := du (X := X) a 1
  simp only [ij] at hs
  show (mL X a 1).length + 20 ≤ _
  omega
 | a :: b :: r, h, hs =>
  have h2 := (h a atv).2
  have h3 := du (X := X) a 1
  have h4 := (h b atv).2
  have h5 := du (X := X) b 1
  simp only [ij] at hs
  show (mL X a 1 ++ [32, 61, 62, 32] ++ mL X b 1).length + 20 ≤ _
  simp only [An, an, mg]
  omega
theorem D8 : ∀ (l : List ae) (f : Bool), (∀ x ∈ l, ∀ y ∈ x.ah, Bd X y) → (vi X f l).length ≤ 4194304 * ij l
 | [], f, _ => by simp [vi]
 | x :: r, f, h => by
  have h1 := D8 r false (fun y hy => h y atZ)
  have h2 := Zk x (h x atv)
  rw [vi, ij]
  cases f <;> simp only [cond_true, cond_false, An, an, mg] <;> omega
theorem yT (k : Int) : ∀ (l : List ae) (f : Bool), (∀ x ∈ l, x.aj.length ≤ 1048576) → (uh k f l).length ≤ 1048584 * ij l
 | [], f, _ => by simp [uh]
 | x :: r, f, h => by
  have h0 := yT k r f (fun y hy => h y atZ)
  have h1 := yT k r false (fun y hy => h y atZ)
  have h2 := h x atv
  have h3 := mz x
  rw [uh, ij]
  cases (x.ai == k)
  ·simp only [cond_false]; omega
  ·cases f <;> cases (x.aD == 1) <;> simp only [cond_true, cond_false, An, an, mg] <;> omega
theorem vk (k : Int) (z : ae) (hz : (z.ai == k) = false) : ∀ (l : List ae) (f : Bool), uh k f (l ++ [z]) = uh k f l
 | [], f => by simp [uh, hz]
 | x :: r, f => by
  rw [aqR, uh, uh, vk k z hz r, vk k z hz r]
theorem yU : ∀ (l : List ae) (z : ae), ij (l ++ [z]) = ij l + sz z
 | [], z => by simp [ij]
 | x :: r, z => by rw [aqR, ij, ij, yU r z]; omega
theorem qy (k : Int) (l : List ae) (z : ae) (hz : (z.ai == k) = false) (h : ∀ x ∈ l, x.aj.length ≤ 1048576) : (params (l ++ [z]) k).length ≤ 1048584 * ij l + 2 := by
 have := yT k l true h
 rw [params, vk k z hz]
 simp only [An, an, mg]; omega
theorem xG : ∀ (l : List ae), (∀ x ∈ l, Bd Y x) → (l.flatMap (fun x => Y x ++ [32])).length ≤ 4194304 * ij l
 | [], _ => by simp
 | x :: r, h => by
  have h1 := xG r (fun y hy => h y atZ)
  have h2 := (h x atv).2
  rw [arD, ij]
  simp only [An, an, mg]; omega
theorem bI {l : List ae} {P : ae → Bool} (h : l.all P = true) : ∀ x ∈ l, P x = true := by simpa using h
theorem Zl {k m : Int} {t : ar} {ks : List ae} {s : ar} (h : PX X Y k m t ks s) (ht : t.length ≤ 1048576) (hk : ∀ x ∈ ks, x.aj.length ≤ 1048576)
  (hX : ∀ x ∈ ks, vE x = true → Bd X x) (hX2 : ∀ x ∈ ks, ∀ y ∈ x.ah, vE y = true → Bd X y) (hY : ∀ x ∈ ks, vQ x = true → Bd Y x) : 1 ≤ s.length ∧ s.length + 24 ≤ 4194304 * (1 + ij ks) := by
 cases h
 case num h0 h1 => have := J4 m h0 h1; omega
 case txt h0 => have := Ku t; have := Zj t; omega
 case cst h0 h1 =>
  unfold OI
  by_cases q : m = 0
  ·simp [q]; omega
  ·by_cases q2 : m = 1 <;> simp [q, q2] <;> omega
 case var => simp; omega
 case arr h =>
  have h1 := D8 (X := X) ks true (fun x hx y hy => by
   have h3 := bI h x hx
   simp only [A4, As] at h3
   exact hX2 x hx y hy (bI h3.2.2.2.2 y hy))
  simp only [An, an, mg]; omega
 case ref a =>
  have h1 := hk a atv
  have := mz a
  simp only [ij, An, an, mg]; omega
 case call h =>
  have h1 := pE (X := X) ks (fun x hx => hX x hx (bI h x hx))
  have h2 : 1 ≤ (iU X ks).length := by simp [iU]
  simp only [An, an, mg]; omega
 case stat h =>
  have h1 := pE (X := X) ks (fun x hx => hX x hx (bI h x hx))
  have h2 : 1 ≤ (iU X ks).length := by simp [iU]
  simp only [An, an, mg]; omega
 case new h =>
  have h1 := pE (X := X) ks (fun x hx => hX x hx (bI h x hx))
  simp only [An, an, mg]; omega
 case OJ a r ha h h8 =>
  have h1 := pE (X := X) r (fun x hx => hX x atG (bI h x hx))
  have h2 := hX a atv ha
  unfold Bd at h2
  simp only [ij, An, an, mg]; omega
 case dyn a r ha h h8 =>
  have h1 := pE (X := X) r (fun x hx => hX x atG (bI h x hx))
  have h2 := hX a atv ha
  have h3 := du (X := X) a 12
  have h4 := Kv a 12 h2.1
  unfold Bd at h2
  simp only [ij, An, an, mg]; omega
 case met a r ha h =>
  have h1 := pE (X := X) r (fun x hx => hX x atG (bI h x hx))
  have h2 := hX a atv ha
  have h3 := du (X := X) a 12
  unfold Bd at h2
  simp only [ij, An, an, mg]; omega
 case kX l z hu sL nu hz =>
  have h1 := qy 24 l z (by rw [nu]; rfl) (fun x hx => hk x atG)
  have h2 := hY z atv (jS hz)
  unfold Bd at h2
  rw [yU]
  simp only [An, an, mg]; omega
 case OK l z hu sL nu hz =>
  have h1 := qy 24 l z (by rw [nu]; rfl) (fun x hx => hk x atG)
  have h3 := qy 25 l z (by rw [nu]; rfl) (fun x hx => hk x atG)
  have h2 := hY z atv (jS hz)
  unfold Bd at h2
  rw [yU]
  simp only [An, an, mg]; omega
 case un a ha h0 h1 =>
  have h2 := hX a atv ha
  have h3 := du (X := X) a 11
  have h4 := Kv a 11 h2.1
  have h5 : (unW m).length = 1 := by unfold unW; split <;> rfl
  unfold Bd at h2
  simp only [ij, An, h5]; omega
 case fld a ha =>
  have h2 := hX a atv ha
  have h3 := du (X := X) a 12
  unfold Bd at h2
  simp only [ij, An, an, mg]; omega
 case bin a b ha hb h0 h1 =>
  have h2 := hX a atv ha
  have h3 := hX b atv hb
  have h4 := du (X := X) a (mA m)
  have h5 := du (X := X) b (mA m + 1)
  have h6 := vj m h0 h1
  unfold Bd at h2 h3
  simp only [two, ij, An, an, mg]; omega
 case cond a b c ha hb hc =>
  have h2 := hX a atv ha
  have h3 := hX b atv hb
  have h7 := hX c atv hc
  have h4 := du (X := X) a 3
  have h5 := du (X := X) b 1
  have h6 := du (X := X) c 2
  unfold Bd at h2 h3 h7
  simp only [two, ij, An, an, mg]; omega
 all_goals
  rename_i a b ha hb
  have h2 := hX a atv ha
  have h3 := hX b atv hb
  have g1 := du (X := X) a 4
  have g2 := du (X := X) a 5
  have g3 := du (X := X) a 12
  have g4 := du (X := X) b 1
  have g5 := du (X := X) b 3
  have g6 := du (X := X) b 5
  have g7 := du (X := X) b 6
  unfold Bd at h2 h3
  simp only [two, ij, An, an, mg]; omega
theorem Zm {k m : Int} {t : ar} {ks : List ae} {s : ar} (h : PS X Y k m t ks s) (ht : t.length ≤ 1048576) (hk : ∀ x ∈ ks, x.aj.length ≤ 1048576)
  (hX : ∀ x ∈ ks, vE x = true → Bd X x) (hY : ∀ x ∈ ks, vQ x = true → Bd Y x) : 1 ≤ s.length ∧ s.length + 24 ≤ 4194304 * (1 + ij ks) := by
 cases h
 case vh h =>
  have h1 := xG (Y := Y) ks (fun x hx => hY x hx (jS (bI h x hx)))
  simp only [An, an, mg]; omega
 case inc h0 =>
  have := Ku t
  simp only [ij, An, an, mg]; omega
 case if2 a b ha hb kb =>
  have h2 := hX a atv ha
  have h3 := hY b atv (jS hb)
  have g1 := du (X := X) a 1
  unfold Bd at h2 h3
  simp only [ij, An, an, mg]; omega
 case if3 a b c ha hb kb hc kc =>
  have h2 := hX a atv ha
  have h3 := hY b atv (jS hb)
  have h4 := hY c atv (jS hc)
  have g1 := du (X := X) a 1
  unfold Bd at h2 h3 h4
  simp only [ij, An, an, mg]; omega
 case whl a b ha hb kb =>
  have h2 := hX a atv ha
  have h3 := hY b atv (jS hb)
  have g1 := du (X := X) a 1
  unfold Bd at h2 h3
  simp only [ij, An, an, mg]; omega
 case fe3 a b c ha hc kc =>
  have h2 := hX a atv ha
  have h3 := hY c atv (jS hc)
  have h4 := hk b atv
  have h5 := mz b
  have g1 := du (X := X) a 1
  unfold Bd at h2 h3
  simp only [ij, An, an, mg]; omega
 case fe4 a b c d ha hd kd =>
  have h2 := hX a atv ha
  have h3 := hY d atv (jS hd)
  have h4 := hk b atv
  have h5 := mz b
  have h6 := hk c atv
  have h7 := mz c
  have g1 := du (X := X) a 1
  unfold Bd at h2 h3
  simp only [ij, An, an, mg]; omega
 case yl2 a b ha hb =>
  have h2 := hX a atv ha
  have h3 := hX b atv hb
  have h4 := hk a atv
  have g1 := du (X := X) b 1
  unfold Bd at h2 h3
  simp only [ij, An, an, mg]; omega
 case CA a b ha ka hb =>
  have h2 := hY a atv (jS ha)
  have h3 := hY b atv (Ks hb)
  unfold Bd at h2 h3
  simp only [ij, An, an, mg]; omega
 case CB a b ha ka hb =>
  have h2 := hY a atv (jS ha)
  have h3 := hY b atv (Kt hb)
  unfold Bd at h2 h3
  simp only [ij, An, an, mg]; omega
 case A6 a b c ha ka hb hc =>
  have h2 := hY a atv (jS ha)
  have h3 := hY b atv (Ks hb)
  have h4 := hY c atv (Kt hc)
  unfold Bd at h2 h3 h4
  simp only [ij, An, an, mg]; omega
 case cat a b ha ka hb kb =>
  have h2 := hX a atv ha
  have h3 := hY b atv (jS hb)
  have h4 := hk a atv
  unfold Bd at h2 h3
  simp only [ij, An, an, mg]; omega
 case fin a ha ka =>
  have h2 := hY a atv (jS ha)
  unfold Bd at h2
  simp only [ij, An, an, mg]; omega
 case htm => simp only [ij, An, an, mg]; omega
 case glb => simp only [ij, An, an, mg]; omega
 case brk => simp [ij]
 case cont => simp [ij]
 case Kq => simp [ij]
 all_goals
  rename_i a ha
  have h2 := hX a atv ha
  have g1 := du (X := X) a 1
  have g3 := du (X := X) a 12
  unfold Bd at h2
  simp only [ij, An, an, mg]; omega
end
set_option maxRecDepth 100000
theorem aL {a b : ar} (h : a.length + b.length ≤ 4611686018427387904) : aH a b = some (a ++ b) := if_pos h
theorem aiS (n : ae) : jW n = some (lvl n) := by
 unfold jW lvl
 generalize n.ai = k
 have yQ : db n.aD = some (mA n.aD) := by
  unfold mA db
  repeat' split
  all_goals rfl
 rw [yQ]
 by_cases Kf : k = 15
 ·subst Kf; rfl
 by_cases Kg : k = 16
 ·subst Kg; rfl
 by_cases Ou : k = 17
 ·subst Ou; rfl
 by_cases Ke : k = 14
 ·subst Ke; rfl
 by_cases Fe : k = 13
 ·subst Fe; rfl
 by_cases Fc : k = 12
 ·subst Fc; rfl
 by_cases Fb : k = 11
 ·subst Fb; rfl
 by_cases yQ : k = 10
 ·subst yQ; rfl
 by_cases h9 : k = 9
 ·subst h9; rfl
 rw [if_neg Kf, if_neg Kg, if_neg (show ¬ (k = 15 ∨ k = 16 ∨ k = 17) by omega), beq_eq_false_iff_ne.2 Ou, sb]
 rw [if_neg atB, if_neg Ke, if_neg Ke, if_neg Fe, if_neg Fe, if_neg Fc, if_neg Fc, if_neg Fb, if_neg Fb, if_neg yQ, if_neg yQ, if_neg h9, if_neg h9]
section
variable {X Y : ae → ar}
def OX (X : ae → ar) (x : ae) : Prop := dR x = some (X x) ∧ (X x).length ≤ 1099511627776
def OY (Y : ae → ar) (x : ae) : Prop := bB x = some (Y x) ∧ (Y x).length ≤ 1099511627776
theorem oe {x : ae} (h : OX X x) (k : Int) : bO x k = some (mL X x k) := by
 obtain ⟨h1, h2⟩ := h
 rw [bO, aiS, sb, h1, sb, sb, aL atE, sb, aL aty, sb, mL]
 split <;> rfl
theorem aiT (ks : List ae) (c : Nat) (h : ∀ x ∈ ks.drop c, OX X x) (hl : ks.length ≤ 1048576) : ∀ (f i : Nat) (s : ar), ks.length ≤ i + f → c ≤ i → s.length + (jn X (decide (i = c)) (ks.drop i)).length ≤ 1099511627776 →
  e9 ks (c : Int) s (i : Int) = some (s ++ jn X (decide (i = c)) (ks.drop i))
 | f, i, s, hf, hc, hb => by
  rw [e9]
  by_cases hi : i < ks.length
  ·obtain ⟨g, rfl⟩ : ∃ g, f = g + 1 := ⟨f - 1, by omega⟩
   have hd := aqX hi
   have hx : OX X ks[i] := h _ (by
    rw [show ks.drop c = (ks.drop c) from rfl]
    exact arW.2 ⟨i - c, by simp; omega, by simp [show c + (i - c) = i by omega]⟩)
   have oB : decide (i + 1 = c) = false := decide_eq_false att
   have IH : ∀ u : ar, u.length + (jn X false (ks.drop (i + 1))).length ≤ 1099511627776 → e9 ks (c : Int) u ((i + 1 : Nat) : Int) = some (u ++ jn X false (ks.drop (i + 1))) := fun u ns => by
    rw [aiT ks c h hl g (i + 1) u att att aua, oB]
   rw [hd, jn] at hb
   rw [if_pos att, bC hi, bU att, hd, jn]
   by_cases he : i = c
   ·rw [decide_eq_true he] at hb ⊢
    simp only [cond_true, An, an, mg] at hb
    rw [if_neg att]
    simp (disch := first | omega | (simp only [An, an, mg]; omega)) only [aL, sb, oe hx, IH, cond_true, amb, aqQ, aqR]
   ·rw [decide_eq_false he] at hb ⊢
    simp only [cond_false, An, an, mg] at hb
    rw [if_pos att]
    simp (disch := first | omega | (simp only [An, an, mg]; omega)) only [aL, sb, oe hx, IH, cond_false, amb, aqQ, aqR]
  ·rw [if_neg att, aqU att]; simp [jn]
theorem Kx (ks : List ae) (c : Nat) (h : ∀ x ∈ ks.drop c, OX X x) (hl : ks.length ≤ 1048576) (hb : (iU X (ks.drop c)).length ≤ 1099511627776) : eJ ks (c : Int) = some (iU X (ks.drop c)) := by
 have kr := hb
 simp only [iU, An, an, mg] at hb
 have h0 := aiT ks c h hl ks.length c [] att att atx
 rw [decide_eq_true rfl] at h0
 rw [eJ, h0, sb, aqQ, aL atE, sb, aL aty]
 rfl
theorem Ky (ks : List ae) (k : Int) (hl : ks.length ≤ 1048576) : ∀ (f i : Nat) (s : ar), ks.length ≤ i + f → s.length + (uh k (s == ([] : ar)) (ks.drop i)).length ≤ 1099511627776 →
  cQ ks k s (i : Int) = some (s ++ uh k (s == ([] : ar)) (ks.drop i))
 | f, i, s, hf, hb => by
  rw [cQ]
  by_cases hi : i < ks.length
  ·obtain ⟨g, rfl⟩ : ∃ g, f = g + 1 := ⟨f - 1, by omega⟩
   have hd := aqX hi
   rw [hd, uh] at hb
   rw [if_pos att, bC hi, sb, bU att, hd, uh]
   generalize ks[i] = x at hb
   by_cases hk : x.ai = k
   ·rw [if_pos hk, hk, asi, cond_true]
    rw [hk, asi, cond_true] at hb
    have IH : ∀ u : ar, u ≠ [] → u.length + (uh k false (ks.drop (i + 1))).length ≤ 1099511627776 → cQ ks k u ((i + 1 : Nat) : Int) = some (u ++ uh k false (ks.drop (i + 1))) := fun u hu ns => by
     have e1 : (u == ([] : ar)) = false := beq_eq_false_iff_ne.2 hu
     rw [Ky ks k hl g (i + 1) u att (by rw [e1]; exact ns), e1]
    by_cases hs : s = ([] : ar) <;> by_cases hn : x.aD = 1
    all_goals
     first | rw [hs] at hb ⊢ | skip
     first | rw [if_pos rfl] | rw [if_neg hs]
     first | rw [hn] at hb ⊢ | rw [beq_eq_false_iff_ne.2 hn] at hb ⊢
     first | rw [show (([] : ar) == ([] : ar)) = true from rfl] at hb ⊢ | rw [beq_eq_false_iff_ne.2 hs] at hb ⊢
     simp only [cond_true, cond_false, asi, An, an, mg] at hb
     simp (disch := first | omega | (simp only [An, an, mg]; omega) | simp) only [aL, sb, IH, hn, if_true, if_false, cond_true, cond_false, asi, amb, aqQ, aqR]
   ·rw [if_neg hk, beq_eq_false_iff_ne.2 hk, cond_false]
    rw [beq_eq_false_iff_ne.2 hk, cond_false] at hb
    exact Ky ks k hl g (i + 1) s att hb
  ·rw [if_neg att, aqU att]; simp [uh]
theorem vl (ks : List ae) (k : Int) (hl : ks.length ≤ 1048576) (hb : (params ks k).length ≤ 1099511627776) : gg ks k = some (params ks k) := by
 have h0 := Ky ks k hl ks.length 0 [] att (by rw [ara]; simp only [params, An, an, mg] at hb; rw [show (([] : ar) == ([] : ar)) = true from rfl]; simp only [mg]; omega)
 rw [show ((0 : Nat) : Int) = 0 from rfl, ara, aqQ, show (([] : ar) == ([] : ar)) = true from rfl] at h0
 simp only [params, An, an, mg] at hb
 unfold gg
 rw [h0]
 simp (disch := first | omega | (simp only [An, an, mg]; omega)) only [aL, sb, params]
theorem TP (n : ae) (h : ∀ x ∈ n.ah, ∀ y ∈ x.ah, OX X y) (hp : ∀ x ∈ n.ah, 1 ≤ (x.ah.length : Int) ∧ (x.ah.length : Int) ≤ 2) (hl : n.ah.length ≤ 1048576) : ∀ (f i : Nat) (s : ar), n.ah.length ≤ i + f → s.length + (vi X (decide (i = 0)) (n.ah.drop i)).length ≤ 1099511627776 →
  dS n s (i : Int) = some (s ++ vi X (decide (i = 0)) (n.ah.drop i))
 | f, i, s, hf, hb => by
  rw [dS]
  by_cases hi : i < n.ah.length
  ·obtain ⟨g, rfl⟩ : ∃ g, f = g + 1 := ⟨f - 1, by omega⟩
   have hd := aqX hi
   have hx := h _ (arb hi)
   have Fh := hp _ (arb hi)
   have oB : decide (i + 1 = 0) = false := decide_eq_false att
   have IH : ∀ u : ar, u.length + (vi X false (n.ah.drop (i + 1))).length ≤ 1099511627776 → dS n u ((i + 1 : Nat) : Int) = some (u ++ vi X false (n.ah.drop (i + 1))) := fun u ns => by
    rw [TP n h hp hl g (i + 1) u att aua, oB]
   rw [hd, vi, Zi] at hb
   rw [if_pos att, bC hi, bU att, hd, vi, Zi]
   generalize n.ah[i] = x at *
   generalize wH : x.ah = ks at *
   rcases ks with _ | ⟨a, _ | ⟨b, _ | ⟨c, r⟩⟩⟩
   ·simp at Fh
   ·have ha := hx a atv
    by_cases he : i = 0
    ·rw [decide_eq_true he] at hb ⊢
     simp only [cond_true, An, an, mg] at hb
     rw [if_neg att]
     simp (disch := first | omega | (simp only [An, an, mg]; omega)) only [aL, sb, oe ha, aW, wH, IH, cond_true, amb, aqQ, aqR, an, mg]
     rw [if_neg atB]
    ·rw [decide_eq_false he] at hb ⊢
     simp only [cond_false, An, an, mg] at hb
     rw [if_pos att]
     simp (disch := first | omega | (simp only [An, an, mg]; omega)) only [aL, sb, oe ha, aW, wH, IH, cond_false, amb, aqQ, aqR, an, mg]
     rw [if_neg atB]
   ·have ha := hx a atv
    have nv := hx b atv
    by_cases he : i = 0
    ·rw [decide_eq_true he] at hb ⊢
     simp only [cond_true, An, an, mg] at hb
     rw [if_neg att]
     simp (disch := first | omega | (simp only [An, an, mg]; omega)) only [aL, sb, oe ha, oe nv, aW, eK, wH, IH, cond_true, amb, aqQ, aqR, an, mg]
     rw [if_pos atB]
    ·rw [decide_eq_false he] at hb ⊢
     simp only [cond_false, An, an, mg] at hb
     rw [if_pos att]
     simp (disch := first | omega | (simp only [An, an, mg]; omega)) only [aL, sb, oe ha, oe nv, aW, eK, wH, IH, cond_false, amb, aqQ, aqR, an, mg]
     rw [if_pos atB]
   ·simp at Fh; omega
  ·rw [if_neg att, aqU att]; simp [vi]
def mf (Y : ae → ar) (l : List ae) : ar := l.flatMap fun x => bif x.ai == 52 then [] else Y x ++ [32]
theorem Kz (l : List ae) (h : ∀ x ∈ l, ¬ x.ai = 52 → OY Y x) (hl : l.length ≤ 1048576) : ∀ (f i : Nat) (s : ar), l.length ≤ i + f → s.length + (mf Y (l.drop i)).length ≤ 1099511627776 →
  fe l s (i : Int) = some (s ++ mf Y (l.drop i))
 | f, i, s, hf, hb => by
  rw [fe]
  by_cases hi : i < l.length
  ·obtain ⟨g, rfl⟩ : ∃ g, f = g + 1 := ⟨f - 1, by omega⟩
   have hd := aqX hi
   have hx := h _ (arb hi)
   have IH : ∀ u : ar, u.length + (mf Y (l.drop (i + 1))).length ≤ 1099511627776 → fe l u ((i + 1 : Nat) : Int) = some (u ++ mf Y (l.drop (i + 1))) := fun u ns => Kz l h hl g (i + 1) u att ns
   rw [hd, mf, arD] at hb
   change s.length + ((bif l[i].ai == 52 then [] else Y l[i] ++ [32]) ++ mf Y (l.drop (i + 1))).length ≤ _ at hb
   rw [if_pos att, bC hi, bU att, hd, mf, arD]
   change _ = some (s ++ ((bif l[i].ai == 52 then [] else Y l[i] ++ [32]) ++ mf Y (l.drop (i + 1))))
   generalize l[i] = x at *
   by_cases hk : x.ai = 52
   ·rw [hk] at hb ⊢
    simp only [asi, cond_true, aqQ] at hb ⊢
    rw [sb, if_pos hk, IH s hb]
   ·rw [beq_eq_false_iff_ne.2 hk] at hb ⊢
    simp only [cond_false, An, an, mg] at hb
    rw [sb, if_neg hk]
    simp (disch := first | omega | (simp only [An, an, mg]; omega)) only [aL, sb, (hx hk).1, IH, cond_false, amb, aqQ, aqR]
  ·rw [if_neg att, aqU att]; simp [mf]
theorem KA (l : List ae) (h : ∀ x ∈ l, ¬ x.ai = 52) : mf Y l = l.flatMap fun x => Y x ++ [32] := by
 induction l with
 | nil => rfl
 | cons x r ih =>
  have := ih (fun y hy => h y atZ)
  rw [mf] at this ⊢
  rw [arD, arD, this, beq_eq_false_iff_ne.2 (h x atv)]; rfl
end
set_option maxRecDepth 100000
theorem CC (m : Int) : db m = some (mA m) ∧ 6 ≤ mA m ∧ mA m ≤ 10 := by
 unfold mA db
 repeat' split
 all_goals exact ⟨rfl, by decide, by decide⟩
theorem Zn (m : Int) (h1 : 1 ≤ m) (h2 : m ≤ 15) : jb m = some (A7 m) := by
 obtain ⟨s, e, _⟩ := sOp m h1 h2
 rw [A7, e]; rfl
theorem aiU (m : Int) (h1 : 0 ≤ m) (h2 : m ≤ 2) : ko ([[110, 117, 108, 108], [102, 97, 108, 115, 101], [116, 114, 117, 101]] : List ar) m = some (OI m) := by
 rcases (by omega : m = 0 ∨ m = 1 ∨ m = 2) with h | h | h <;> subst h <;> rfl
theorem aoZ (m : Int) (h1 : 1 ≤ m) (h2 : m ≤ 2) : ko ([[], [33], [45]] : List ar) m = some (unW m) := by
 rcases (by omega : m = 1 ∨ m = 2) with h | h <;> subst h <;> rfl
theorem A8 (a : Bool) : ∀ (l : List ae) (b : Bool), ve a b l = true → (b = true ∨ ∃ x ∈ l, x.ai = 25) → l ≠ [] → ∃ l' w, l = l' ++ [w] ∧ w.ai = 25
 | [], b, _, _, h => absurd rfl h
 | [x], b, hu, he, _ => by
  refine ⟨[], x, rfl, ?_⟩
  simp only [ve, As, arC, beq_iff_eq] at hu
  rcases hu.1 with h | h
  ·exact h.1
  ·rcases he with q | ⟨y, q1, q2⟩
   ·simp [q] at h
   ·simp at q1; subst q1; exact q2
 | x :: y :: r, b, hu, he, _ => by
  rw [ve] at hu
  simp only [As] at hu
  obtain ⟨l', w, h1, h2⟩ := A8 a (y :: r) _ hu.2.2.2.2 (by
   rcases he with q | ⟨z, q1, q2⟩
   ·left; simp [q]
   ·rcases aqY.1 q1 with q3 | q3
    ·left; rw [← q3, q2]; simp
    ·right; exact ⟨z, q3, q2⟩) atv
  exact ⟨x :: l', w, by rw [h1]; rfl, h2⟩
section
variable {X Y : ae → ar}
theorem aiV (n a b : ae) (r : List ae) (i : Int) (s : ar) (j : Int) (hk : n.ah = a :: b :: r) (ha : OX X a) (hb : OX X b) (hl : (two X a i s b j).length ≤ 1099511627776) : eh n i s j = some (two X a i s b j) := by
 simp only [two, An] at hl
 rw [eh, hk]
 simp (disch := first | omega | (simp only [An, an, mg]; omega)) only [aW, eK, sb, oe ha, oe hb, aL, two]
set_option maxHeartbeats 4000000 in
theorem OL (n : ae) {s : ar} (h : PX X Y n.ai n.aD n.aj n.ah s) (hw : wt n ≤ 1048576) (hs : s.length ≤ 1099511627776)
  (HX : ∀ x ∈ n.ah, vE x = true → OX X x) (HX2 : ∀ x ∈ n.ah, ∀ y ∈ x.ah, vE y = true → OX X y) (HY : ∀ x ∈ n.ah, vQ x = true → OY Y x) : dR n = some s := by
 have hl := (OC hw).2
 have hT : ∀ a b r i s j, n.ah = a :: b :: r → OX X a → OX X b → (two X a i s b j).length ≤ 1099511627776 → eh n i s j = some (two X a i s b j) := fun a b r i s j => aiV n a b r i s j
 have hL : n.ah.all (A4 vE) = true → (vi X true n.ah).length ≤ 1099511627776 → dS n [] 0 = some (vi X true n.ah) := fun h1 h2 => by
  have := TP n (X := X) (fun x hx y hy => by
   have h3 := bI h1 x hx
   simp only [A4, As] at h3
   exact HX2 x hx y hy (bI h3.2.2.2.2 y hy)) (fun x hx => by
   have h3 := bI h1 x hx
   simp only [A4, As] at h3
   exact of_decide_eq_true h3.2.2.2.1) hl n.ah.length 0 [] att (by rw [ara]; simpa using h2)
  rw [show ((0 : Nat) : Int) = 0 from rfl, ara] at this
  exact this
 rw [dR]
 have mB : ∀ ks : List ae, ks.length ≤ 1048576 → (∀ x ∈ ks, OX X x) → (iU X ks).length ≤ 1099511627776 → eJ ks 0 = some (iU X ks) := fun ks hl h hb => by
  have := Kx (X := X) ks 0 h hl hb; exact this
 have hj1 : ∀ (a : ae) (ks : List ae), (a :: ks).length ≤ 1048576 → (∀ x ∈ ks, OX X x) → (iU X ks).length ≤ 1099511627776 → eJ (a :: ks) 1 = some (iU X ks) := fun a ks hl h hb => by
  have := Kx (X := X) (a :: ks) 1 h hl hb; exact this
 generalize n.ah = ks at *
 generalize n.aj = t at *
 generalize n.aD = m at *
 generalize n.ai = k at *
 cases h
 case num h0 h1 => rw [if_pos rfl, Y8 m att att]; rfl
 case txt h0 => rw [if_neg atB, if_pos rfl, sQ t att]; rfl
 case cst h0 h1 => rw [if_neg atB, if_neg atB, if_pos rfl, aiU m h0 h1]; rfl
 case var =>
  simp only [An, an, mg] at hs
  simp (disch := first | omega | (simp only [An, an, mg]; omega)) only [Int.reduceEq, if_true, if_false, sb, aL]
 case arr h =>
  simp only [An, an, mg] at hs
  rw [hL h att]
  simp (disch := first | omega | (simp only [An, an, mg]; omega)) only [Int.reduceEq, if_true, if_false, sb, aL]
 case ref a =>
  simp only [An, an, mg] at hs
  simp (disch := first | omega | (simp only [An, an, mg]; omega)) only [Int.reduceEq, if_true, if_false, sb, aL, aW]
 case call h =>
  simp only [An, an, mg] at hs
  have e := mB ks hl (fun x hx => HX x hx (bI h x hx)) att
  simp (disch := first | omega | (simp only [An, an, mg]; omega)) only [Int.reduceEq, if_true, if_false, sb, aL, e]
 case stat h =>
  simp only [An, an, mg] at hs
  have e := mB ks hl (fun x hx => HX x hx (bI h x hx)) att
  simp (disch := first | omega | (simp only [An, an, mg]; omega)) only [Int.reduceEq, if_true, if_false, sb, aL, e]
 case new h =>
  simp only [An, an, mg] at hs
  have e := mB ks hl (fun x hx => HX x hx (bI h x hx)) att
  simp (disch := first | omega | (simp only [An, an, mg]; omega)) only [Int.reduceEq, if_true, if_false, sb, aL, e]
 case OJ a r ha h h8 =>
  simp only [An, an, mg] at hs
  have e := hj1 a r hl (fun x hx => HX x atG (bI h x hx)) att
  have e2 := (HX a atv ha).1
  simp (disch := first | omega | (simp only [An, an, mg]; omega)) only [Int.reduceEq, if_true, if_false, sb, aL, e, aW, h8, e2]
 case dyn a r ha h h8 =>
  simp only [An, an, mg] at hs
  have e := hj1 a r hl (fun x hx => HX x atG (bI h x hx)) att
  have e2 := oe (HX a atv ha) 12
  simp (disch := first | omega | (simp only [An, an, mg]; omega)) only [Int.reduceEq, if_true, if_false, sb, aL, e, aW, h8, e2]
 case met a r ha h =>
  simp only [An, an, mg] at hs
  have e := hj1 a r hl (fun x hx => HX x atG (bI h x hx)) att
  have e2 := oe (HX a atv ha) 12
  simp (disch := first | omega | (simp only [An, an, mg]; omega)) only [Int.reduceEq, if_true, if_false, sb, aL, e, aW, e2]
 case kX l z hu sL nu hz =>
  simp only [An, an, mg] at hs
  have e := vl (l ++ [z]) 24 hl att
  have e2 := (HY z atv (jS hz)).1
  have e3 : aT (((l ++ [z]).length : Int) - 1) = (l.length : Int) := kL atv (by simp at hl; omega)
  rcases asj l with h5 | ⟨l', w, h5⟩
  ·subst h5
   rw [aqQ] at *
   simp only [mg] at e3
   simp (disch := first | omega | (simp only [An, an, mg]; omega)) only [Int.reduceEq, if_true, if_false, sb, aL, e, e3]
   rw [if_neg (show ¬ (([z] : List ae).length : Int) > 1 by simp)]
   simp (disch := first | omega | (simp only [An, an, mg]; omega)) only [sb, aL, show (((0 : Nat) : Int)) = 0 from rfl, aW, e2]
  ·rw [asl] at h5
   have e4 : aT (((l ++ [z]).length : Int) - 2) = (l'.length : Int) := kL (by rw [h5]; simp <;> omega) (by rw [h5] at hl; simp at hl; omega)
   have e5 : idx (l ++ [z]) (l'.length : Int) = some w := by rw [h5, bC (by simp <;> omega)]; simp
   have e6 : ¬ w.ai = 25 := fun q => sL ⟨w, by rw [h5]; simp, q⟩
   have e7 : ((l ++ [z]).length : Int) > 1 := by rw [h5]; simp <;> omega
   simp (disch := first | omega | (simp only [An, an, mg]; omega)) only [Int.reduceEq, if_true, if_false, sb, aL, e, e3, e4, e5, e6, oP, e2]
   rw [if_pos e7]; rfl
 case OK l z hu sL nu hz =>
  simp only [An, an, mg] at hs
  have e := vl (l ++ [z]) 24 hl att
  have e8 := vl (l ++ [z]) 25 hl att
  have e2 := (HY z atv (jS hz)).1
  have e3 : aT (((l ++ [z]).length : Int) - 1) = (l.length : Int) := kL atv (by simp at hl; omega)
  obtain ⟨l', w, h5, e6⟩ := A8 true l false hu (.inr sL) (by obtain ⟨x, q, _⟩ := sL; intro q2; rw [q2] at q; cases q)
  have e4 : aT (((l ++ [z]).length : Int) - 2) = (l'.length : Int) := kL (by rw [h5]; simp <;> omega) (by rw [h5] at hl; simp at hl; omega)
  have e5 : idx (l ++ [z]) (l'.length : Int) = some w := by rw [h5, bC (by simp <;> omega)]; simp
  have e7 : ((l ++ [z]).length : Int) > 1 := by rw [h5]; simp <;> omega
  simp (disch := first | omega | (simp only [An, an, mg]; omega)) only [Int.reduceEq, if_true, if_false, sb, aL, e, e3, e4, e5, e6, e8, oP, e2]
  rw [if_pos e7]; rfl
 case un a ha h0 h1 =>
  simp only [An, an, mg] at hs
  have e2 := oe (HX a atv ha) 11
  simp (disch := first | omega | (simp only [An, an, mg]; omega)) only [Int.reduceEq, if_true, if_false, sb, aL, aW, e2, aoZ m h0 h1]
 case fld a ha =>
  simp only [An, an, mg] at hs
  have e2 := oe (HX a atv ha) 12
  simp (disch := first | omega | (simp only [An, an, mg]; omega)) only [Int.reduceEq, if_true, if_false, sb, aL, aW, e2]
 case bin a b ha hb h0 h1 =>
  obtain ⟨e1, e2, e3⟩ := CC m
  have e4 : aT (mA m + 1) = mA m + 1 := Oj att att
  have e5 := hT a b [] (mA m) ([32] ++ A7 m ++ [32]) (mA m + 1) rfl (HX a atv ha) (HX b atv hb) hs
  have e6 := vj m h0 h1
  simp only [Int.reduceEq, if_true, if_false]
  rw [e1, sb, Zn m h0 h1, sb, aL atE, sb, aL aty, sb, sb, e4, e5]; rfl
 case cond a b c ha hb hc =>
  simp only [An, an, mg] at hs
  have e5 := hT a b [c] 3 [32, 63, 32] 1 rfl (HX a atv ha) (HX b atv hb) att
  have e6 := oe (HX c atv hc) 2
  simp (disch := first | omega | (simp only [An, an, mg]; omega)) only [Int.reduceEq, if_true, if_false, sb, aL, lb, e5, e6]
 case ix a b ha hb =>
  simp only [An, an, mg] at hs
  have e5 := hT a b [] 12 [91] 1 rfl (HX a atv ha) (HX b atv hb) att
  simp (disch := first | omega | (simp only [An, an, mg]; omega)) only [Int.reduceEq, if_true, if_false, sb, aL, lb, e5]
 all_goals
  rename_i a b ha hb
  have e5 := fun i s j => hT a b [] i s j rfl (HX a atv ha) (HX b atv hb)
  rw [e5 _ _ _ hs]
  simp only [Int.reduceEq, if_true, if_false, sb]
end
set_option maxRecDepth 100000
theorem jf {a : ae} (hw : wt a ≤ 1048576) (h : vE a = true) : 1 ≤ a.ai ∧ a.ai ≤ 23 := by
 have := Kp hw h
 clear h hw
 generalize a.ai = k at *
 generalize a.aD = m at *
 generalize a.aj = t at *
 generalize a.ah = ks at *
 cases this <;> omega
theorem D9 {a : ae} (hw : wt a ≤ 1048576) (h : vS a = true) : 31 ≤ a.ai ∧ a.ai ≤ 48 := by
 have := Kr hw h
 clear h hw
 generalize a.ai = k at *
 generalize a.aD = m at *
 generalize a.aj = t at *
 generalize a.ah = ks at *
 cases this <;> omega
theorem aiW {a : ae} (h : a.ai ≤ 23) : cy a = some true := by
 unfold cy
 rw [if_pos att]
 congr 1
 rw [bne_iff_ne]; omega
theorem aiX {a : ae} (h : 31 ≤ a.ai) : cy a = some false := by
 unfold cy
 rw [if_neg att]
section
variable {X Y : ae → ar}
theorem mU {a : ae} {r : List ae} (h : OX X a) (hk : a.ai ≤ 23) : (if ((a :: r).length : Int) > 0 then idx (a :: r) 0 >>= fun uT => cy uT >>= fun wO => (if wO = true then idx (a :: r) 0 >>= fun uU => bO uU 1 >>= fun wP => some wP else some []) else some []) = some (mL X a 1) := by
 rw [if_pos atz, aW, sb, aiW hk, sb, if_pos rfl, sb, oe h]; rfl
theorem A9 {a : ae} {r : List ae} (hk : 31 ≤ a.ai) : (if ((a :: r).length : Int) > 0 then idx (a :: r) 0 >>= fun uT => cy uT >>= fun wO => (if wO = true then idx (a :: r) 0 >>= fun uU => bO uU 1 >>= fun wP => some wP else some []) else some []) = some [] := by
 rw [if_pos atz, aW, sb, aiX hk, sb, if_neg atB]
theorem xH : (if ((([] : List ae).length : Nat) : Int) > 0 then idx ([] : List ae) 0 >>= fun uT => cy uT >>= fun wO => (if wO = true then idx ([] : List ae) 0 >>= fun uU => bO uU 1 >>= fun wP => some wP else some []) else some []) = some [] := rfl
theorem aiY (n a b : ae) (s : ar) (hk : n.ah = [a, b]) (hb : OY Y b) (hl : s.length + (Y b).length ≤ 1099511627776) : bQ n s 1 = some (s ++ Y b) := by
 rw [bQ, hk, if_pos atv, eK, sb, hb.1, sb, aL att, sb, show aT ((1 : Int) + 1) = 2 from rfl, bQ, hk, if_neg atv]
theorem aiZ (n a b c : ae) (s : ar) (hk : n.ah = [a, b, c]) (hb : OY Y b) (hc : OY Y c) (hl : s.length + (Y b).length + (Y c).length ≤ 1099511627776) : bQ n s 1 = some (s ++ Y b ++ Y c) := by
 rw [bQ, hk, if_pos atv, eK, sb, hb.1, sb, aL att, sb, show aT ((1 : Int) + 1) = 2 from rfl, bQ, hk, if_pos atv, lb, sb, hc.1, sb, aL (by rw [An]; omega), sb,
  show aT ((2 : Int) + 1) = 3 from rfl, bQ, hk, if_neg atv]
theorem KB (l : List ae) (h : ∀ x ∈ l, ¬ x.ai = 52 → OY Y x) (hl : l.length ≤ 1048576) (hb : (mf Y l).length ≤ 1099511627776) : gI l = some (mf Y l) := by
 have := Kz l h hl l.length 0 [] att (by rw [ara, mg]; omega)
 rw [show ((0 : Nat) : Int) = 0 from rfl, ara, aqQ] at this
 rw [gI, this]; rfl
set_option maxHeartbeats 4000000 in
theorem OM (n : ae) {s : ar} (h : PS X Y n.ai n.aD n.aj n.ah s) (hw : wt n ≤ 1048576) (hs : s.length ≤ 1099511627776)
  (HX : ∀ x ∈ n.ah, vE x = true → OX X x) (HY : ∀ x ∈ n.ah, vQ x = true → OY Y x) : bB n = some s := by
 have hl := (OC hw).2
 have CD := wk hw
 have hT2 : ∀ a b s, n.ah = [a, b] → OY Y b → s.length + (Y b).length ≤ 1099511627776 → bQ n s 1 = some (s ++ Y b) := fun a b s => aiY n a b s
 have hT3 : ∀ a b c s, n.ah = [a, b, c] → OY Y b → OY Y c → s.length + (Y b).length + (Y c).length ≤ 1099511627776 → bQ n s 1 = some (s ++ Y b ++ Y c) := fun a b c s => aiZ n a b c s
 rw [bB]
 generalize n.ah = ks at *
 generalize n.aj = t at *
 generalize n.aD = m at *
 generalize n.ai = k at *
 cases h
 case htm =>
  rw [xH, sb]
  simp only [An, an, mg] at hs
  simp (disch := first | omega | (simp only [An, an, mg]; omega)) only [Int.reduceEq, if_true, if_false, sb, aL, sb]
 case glb =>
  rw [xH, sb]
  simp only [An, an, mg] at hs
  simp (disch := first | omega | (simp only [An, an, mg]; omega)) only [Int.reduceEq, if_true, if_false, sb, aL, sb]
 case brk =>
  rw [xH, sb]
  simp (disch := first | omega | (simp only [An, an, mg]; omega)) only [Int.reduceEq, if_true, if_false, sb, aL, sb]
 case cont =>
  rw [xH, sb]
  simp (disch := first | omega | (simp only [An, an, mg]; omega)) only [Int.reduceEq, if_true, if_false, sb, aL, sb]
 case Kq =>
  rw [xH, sb]
  simp (disch := first | omega | (simp only [An, an, mg]; omega)) only [Int.reduceEq, if_true, if_false, sb, aL, mg, show (((0 : Nat) : Int)) = 0 from rfl]
 case inc h0 =>
  rw [xH, sb]
  simp only [An, an, mg] at hs
  have e := sQ t att
  simp (disch := first | omega | (simp only [An, an, mg]; omega)) only [Int.reduceEq, if_true, if_false, sb, aL, e]
 case OD a ha =>
  have ea := HX a atv ha
  have ui := (jf (CD a atv) ha).2
  rw [mU ea ui, sb]
  simp only [An, an, mg] at hs
  simp (disch := first | omega | (simp only [An, an, mg]; omega)) only [Int.reduceEq, if_true, if_false, sb, aL, sb]
 case expr a ha =>
  have ea := HX a atv ha
  have ui := (jf (CD a atv) ha).2
  rw [mU ea ui, sb]
  simp only [An, an, mg] at hs
  simp (disch := first | omega | (simp only [An, an, mg]; omega)) only [Int.reduceEq, if_true, if_false, sb, aL, sb]
 case thr a ha =>
  have ea := HX a atv ha
  have ui := (jf (CD a atv) ha).2
  rw [mU ea ui, sb]
  simp only [An, an, mg] at hs
  simp (disch := first | omega | (simp only [An, an, mg]; omega)) only [Int.reduceEq, if_true, if_false, sb, aL, sb]
 case OE a ha =>
  have ea := HX a atv ha
  have ui := (jf (CD a atv) ha).2
  rw [mU ea ui, sb]
  simp only [An, an, mg] at hs
  have q : ¬ ((([a] : List ae).length : Int) = 0) := by simp
  simp (disch := first | omega | (simp only [An, an, mg]; omega)) only [Int.reduceEq, if_true, if_false, sb, aL, q]
 case yl1 a ha =>
  have ea := HX a atv ha
  have ui := (jf (CD a atv) ha).2
  rw [mU ea ui, sb]
  simp only [An, an, mg] at hs
  have q : ¬ ((([a] : List ae).length : Int) = 2) := by simp
  simp (disch := first | omega | (simp only [An, an, mg]; omega)) only [Int.reduceEq, if_true, if_false, sb, aL, q]
 case uns a ha =>
  have ea := HX a atv ha
  have ui := (jf (CD a atv) ha).2
  rw [mU ea ui, sb]
  simp only [An, an, mg] at hs
  have e2 := oe ea 12
  simp (disch := first | omega | (simp only [An, an, mg]; omega)) only [Int.reduceEq, if_true, if_false, sb, aL, aW, e2]
 case if2 a b ha hb kb =>
  have ea := HX a atv ha
  have ui := (jf (CD a atv) ha).2
  rw [mU ea ui, sb]
  have yb := (HY b atv (jS hb)).1
  simp only [An, an, mg] at hs
  have q : ¬ ((([a, b] : List ae).length : Int) = 3) := by simp
  simp (disch := first | omega | (simp only [An, an, mg]; omega)) only [Int.reduceEq, if_true, if_false, sb, aL, eK, yb, q]
 case if3 a b c ha hb kb hc kc =>
  have ea := HX a atv ha
  have ui := (jf (CD a atv) ha).2
  rw [mU ea ui, sb]
  have yb := (HY b atv (jS hb)).1
  have yc := (HY c atv (jS hc)).1
  simp only [An, an, mg] at hs
  have q : ((([a, b, c] : List ae).length : Int) = 3) := by simp
  simp (disch := first | omega | (simp only [An, an, mg]; omega)) only [Int.reduceEq, if_true, if_false, sb, aL, eK, lb, yb, yc, q]
 case whl a b ha hb kb =>
  have ea := HX a atv ha
  have ui := (jf (CD a atv) ha).2
  rw [mU ea ui, sb]
  have yb := (HY b atv (jS hb)).1
  simp only [An, an, mg] at hs
  simp (disch := first | omega | (simp only [An, an, mg]; omega)) only [Int.reduceEq, if_true, if_false, sb, aL, eK, yb]
 case fe3 a b c ha hc kc =>
  have ea := HX a atv ha
  have ui := (jf (CD a atv) ha).2
  rw [mU ea ui, sb]
  have yc := (HY c atv (jS hc)).1
  simp only [An, an, mg] at hs
  have q : ¬ ((([a, b, c] : List ae).length : Int) = 4) := by simp
  have q2 : aT ((([a, b, c] : List ae).length : Int) - 1) = 2 := rfl
  simp (disch := first | omega | (simp only [An, an, mg]; omega)) only [Int.reduceEq, if_true, if_false, sb, aL, eK, lb, yc, q, q2]
 case fe4 a b c d ha hd kd =>
  have ea := HX a atv ha
  have ui := (jf (CD a atv) ha).2
  rw [mU ea ui, sb]
  have yd := (HY d atv (jS hd)).1
  simp only [An, an, mg] at hs
  have q : ((([a, b, c, d] : List ae).length : Int) = 4) := by simp
  have q2 : aT ((([a, b, c, d] : List ae).length : Int) - 1) = 3 := rfl
  simp (disch := first | omega | (simp only [An, an, mg]; omega)) only [Int.reduceEq, if_true, if_false, sb, aL, q2, eK, lb, Kb, yd]
  rw [if_pos q]; rfl
 case yl2 a b ha hb =>
  have ea := HX a atv ha
  have ui := (jf (CD a atv) ha).2
  rw [mU ea ui, sb]
  simp only [An, an, mg] at hs
  have e2 := oe (HX b atv hb) 1
  have q : ((([a, b] : List ae).length : Int) = 2) := by simp
  simp (disch := first | omega | (simp only [An, an, mg]; omega)) only [Int.reduceEq, if_true, if_false, sb, aL, aW, eK, e2]
  rw [if_pos q]; rfl
 case vh h =>
  have hp : (if (ks.length : Int) > 0 then idx ks 0 >>= fun uT => cy uT >>= fun wO => (if wO = true then idx ks 0 >>= fun uU => bO uU 1 >>= fun wP => some wP else some []) else some []) = some [] := by
   rcases ks with _ | ⟨a, r⟩
   ·rfl
   ·exact A9 (D9 (CD a atv) (bI h a atv)).1
  rw [hp, sb]
  simp only [An, an, mg] at hs
  have h52 : ∀ x ∈ ks, ¬ x.ai = 52 := fun x hx => by have := D9 (CD x hx) (bI h x hx); omega
  have e := KA (Y := Y) ks h52
  have e2 := KB (Y := Y) ks (fun x hx _ => HY x hx (jS (bI h x hx))) hl (by rw [e]; omega)
  rw [e] at e2
  simp (disch := first | omega | (simp only [An, an, mg]; omega)) only [Int.reduceEq, if_true, if_false, sb, aL, e2]
 case CA a b ha ka hb =>
  have ya := (HY a atv (jS ha)).1
  rw [A9 att, sb]
  simp only [An, an, mg] at hs
  have e := hT2 a b ([116, 114, 121, 32] ++ Y a) rfl (HY b atv (Ks hb)) aty
  simp (disch := first | omega | (simp only [An, an, mg]; omega)) only [Int.reduceEq, if_true, if_false, sb, aL, aW, ya, e]
 case CB a b ha ka hb =>
  have ya := (HY a atv (jS ha)).1
  rw [A9 att, sb]
  simp only [An, an, mg] at hs
  have e := hT2 a b ([116, 114, 121, 32] ++ Y a) rfl (HY b atv (Kt hb)) aty
  simp (disch := first | omega | (simp only [An, an, mg]; omega)) only [Int.reduceEq, if_true, if_false, sb, aL, aW, ya, e]
 case A6 a b c ha ka hb hc =>
  have ya := (HY a atv (jS ha)).1
  rw [A9 att, sb]
  simp only [An, an, mg] at hs
  have e := hT3 a b c ([116, 114, 121, 32] ++ Y a) rfl (HY b atv (Ks hb)) (HY c atv (Kt hc)) aty
  simp (disch := first | omega | (simp only [An, an, mg]; omega)) only [Int.reduceEq, if_true, if_false, sb, aL, aW, ya, e]
 case cat a b ha ka hb kb =>
  have ea := HX a atv ha
  have ui := (jf (CD a atv) ha).2
  rw [mU ea ui, sb]
  have yb := (HY b atv (jS hb)).1
  simp only [An, an, mg] at hs
  simp (disch := first | omega | (simp only [An, an, mg]; omega)) only [Int.reduceEq, if_true, if_false, sb, aL, aW, eK, yb]
 case fin a ha ka =>
  have ya := (HY a atv (jS ha)).1
  rw [A9 att, sb]
  simp only [An, an, mg] at hs
  simp (disch := first | omega | (simp only [An, an, mg]; omega)) only [Int.reduceEq, if_true, if_false, sb, aL, aW, ya]
end
set_option maxRecDepth 100000
def tX (n : ae) : ar := (dR n).getD []
def tY (n : ae) : ar := (bB n).getD []
theorem Ea : ∀ (N : Nat) (n : ae), sz n < N → wt n ≤ 1048576 → sz n ≤ 600 → (vE n = true → OX tX n ∧ Bd tX n ∧ PX tX tY n.ai n.aD n.aj n.ah (tX n)) ∧ (vQ n = true → OY tY n ∧ Bd tY n ∧ PS tX tY n.ai n.aD n.aj n.ah (tY n))
 | 0, n, h, _, _ => by omega
 | N + 1, n, h, hw, h6 => by
  have hk : ∀ x ∈ n.ah, _ := fun x hx => Ea N x atH atS atH
  have nu : ∀ x ∈ n.ah, ∀ y ∈ x.ah, _ := fun x hx y hy => Ea N y atF atI atF
  have ht := (OC hw).1
  have Ow : ∀ x ∈ n.ah, x.aj.length ≤ 1048576 := fun x hx => (OC (wk hw x hx)).1
  have hs := me n
  refine ⟨fun hv => ?_, fun hv => ?_⟩
  ·obtain ⟨s, hp⟩ := aiQ tX tY (Kp hw hv)
   have hl := Zl hp ht Ow (fun x hx q => ((hk x hx).1 q).2.1) (fun x hx y hy q => ((nu x hx y hy).1 q).2.1) (fun x hx q => ((hk x hx).2 q).2.1)
   have e := OL n hp hw att (fun x hx q => ((hk x hx).1 q).1) (fun x hx y hy q => ((nu x hx y hy).1 q).1) (fun x hx q => ((hk x hx).2 q).1)
   have e2 : tX n = s := by rw [tX, e]; rfl
   exact ⟨⟨by rw [e, e2], by rw [e2]; omega⟩, ⟨by rw [e2]; omega, by rw [e2]; omega⟩, by rw [e2]; exact hp⟩
  ·obtain ⟨s, hp⟩ := aiR tX tY (Zh hw hv)
   have hl := Zm hp ht Ow (fun x hx q => ((hk x hx).1 q).2.1) (fun x hx q => ((hk x hx).2 q).2.1)
   have e := OM n hp hw att (fun x hx q => ((hk x hx).1 q).1) (fun x hx q => ((hk x hx).2 q).1)
   have e2 : tY n = s := by rw [tY, e]; rfl
   exact ⟨⟨by rw [e, e2], by rw [e2]; omega⟩, ⟨by rw [e2]; omega, by rw [e2]; omega⟩, by rw [e2]; exact hp⟩
theorem pX {n : ae} (hw : wt n ≤ 1048576) (h6 : sz n ≤ 600) (hv : vE n = true) : OX tX n ∧ Bd tX n ∧ PX tX tY n.ai n.aD n.aj n.ah (tX n) := (Ea _ n (arH _) hw h6).1 hv
theorem pY {n : ae} (hw : wt n ≤ 1048576) (h6 : sz n ≤ 600) (hv : vQ n = true) : OY tY n ∧ Bd tY n ∧ PS tX tY n.ai n.aD n.aj n.ah (tY n) := (Ea _ n (arH _) hw h6).2 hv
def pfx (m : Int) : ar := (if m = 1 ∨ m = 3 then [112, 114, 105, 118, 97, 116, 101, 32] else []) ++ (if m = 2 ∨ m = 3 then [115, 116, 97, 116, 105, 99, 32] else [])
inductive PD : Int → Int → ar → List ae → ar → Prop
 | fn (k m : Int) (t : ar) (l : List ae) (z : ae) (hk : k = 49 ∨ k = 55) (h0 : 0 ≤ m) (h1 : m ≤ 3) (hu : ve false false l = true) (kz : z.ai = 48) (hz : vS z = true) : PD k m t (l ++ [z]) (pfx m ++ [102, 117, 110, 99, 116, 105, 111, 110, 32] ++ t ++ params (l ++ [z]) 24 ++ [32] ++ tY z)
 | use (t : ar) : PD 53 0 t [] ([117, 115, 101, 32] ++ t ++ [59])
 | prop (m : Int) (t : ar) (a : ae) (h0 : 0 ≤ m) (h1 : m ≤ 1) (ha : vE a = true) : PD 54 m t [a] (pfx m ++ [36] ++ t ++ [32, 61, 32] ++ tX a ++ [59])
set_option maxRecDepth 100000
def ext (ks : List ae) : ar := match ks with | x :: _ => (if x.ai = 52 then [32, 101, 120, 116, 101, 110, 100, 115, 32] ++ x.aj else []) | [] => []
def ao0 (n : ae) : ar := (if n.ai = 50 then [99, 108, 97, 115, 115, 32] else [116, 114, 97, 105, 116, 32]) ++ n.aj ++ ext n.ah ++ [32, 123, 32] ++ mf tY n.ah ++ [125]
inductive Top (n : ae) : Prop
 | st (h : vS n = true)
 | fn (hk : n.ai = 49) (hn : n.aD = 0) (h : PD n.ai n.aD n.aj n.ah (tY n))
 | cl (hk : n.ai = 50 ∨ n.ai = 51) (hn : n.aD = 0) (h : cOK (n.ai == 50) true false n.ah = true) (e : tY n = ao0 n)
set_option maxRecDepth 100000
abbrev PP (p : ar) : av := av.mk (aF.mk () p)
theorem KC (ss : List ar) (hl : ss.length ≤ 1048576) : ∀ (f i : Nat) (p : ar), ss.length ≤ i + f → p.length + (ss.drop i).flatten.length ≤ 140737488355328 → ef ss p (i : Int) = some (PP (p ++ (ss.drop i).flatten))
 | f, i, p, hf, hb => by
  rw [ef]
  by_cases hi : i < ss.length
  ·obtain ⟨g, rfl⟩ : ∃ g, f = g + 1 := ⟨f - 1, by omega⟩
   have hd := aqX hi
   rw [hd, List.flatten_cons, An] at hb
   rw [if_pos att, bC hi, sb, eE, if_pos (by simp only; omega), sb, bU att]
   show ef ss (p ++ ss[i]) ((i + 1 : Nat) : Int) = _
   rw [KC ss hl g (i + 1) (p ++ ss[i]) att (by rw [An]; omega), hd, List.flatten_cons, amb]
  ·rw [if_neg att, aqU att]; simp
theorem put_eq {ss : List ar} {p : ar} (hl : ss.length ≤ 1048576) (hb : p.length + ss.flatten.length ≤ 140737488355328) : ao (PP p) ss = some (PP (p ++ ss.flatten)) := by
 have := KC ss hl ss.length 0 p att (by rw [ara]; exact hb)
 rw [show ((0 : Nat) : Int) = 0 from rfl, ara] at this
 exact this
theorem dj {a p : ar} (hb : p.length + a.length ≤ 140737488355328) : ao (PP p) [a] = some (PP (p ++ a)) := by
 rw [put_eq atv atT]; simp
theorem gX {a b p : ar} (hb : p.length + (a.length + b.length) ≤ 140737488355328) : ao (PP p) [a, b] = some (PP (p ++ (a ++ b))) := by
 rw [put_eq atv atT]; simp
theorem ik {a b c p : ar} (hb : p.length + (a.length + (b.length + c.length)) ≤ 140737488355328) : ao (PP p) [a, b, c] = some (PP (p ++ (a ++ (b ++ c)))) := by
 rw [put_eq atv atT]; simp
theorem il {a b c d p : ar} (hb : p.length + (a.length + (b.length + (c.length + d.length))) ≤ 140737488355328) : ao (PP p) [a, b, c, d] = some (PP (p ++ (a ++ (b ++ (c ++ d))))) := by
 rw [put_eq atv atT]; simp
theorem ao1 {a b c d e p : ar} (hb : p.length + (a.length + (b.length + (c.length + (d.length + e.length)))) ≤ 140737488355328) : ao (PP p) [a, b, c, d, e] = some (PP (p ++ (a ++ (b ++ (c ++ (d ++ e)))))) := by
 rw [put_eq atv atT]; simp
theorem KD (m : Int) (h1 : 1 ≤ m) (h2 : m ≤ 15) : jM m = some (mA m) ∧ j6 m = some (A7 m) := by
 obtain ⟨s, e1, e2, k, e3, e4, _⟩ := sOp m h1 h2
 refine ⟨?_, ?_⟩
 ·rw [e4, mA, e3]; rfl
 ·rw [e2, A7, e1]; rfl
theorem ai0 (n : ae) (h : n.ai = 10 → 1 ≤ n.aD ∧ n.aD ≤ 15) : kO n = some (lvl n) := by
 unfold kO lvl
 generalize n.ai = k at *
 by_cases Kf : k = 15
 ·subst Kf; rfl
 by_cases Kg : k = 16
 ·subst Kg; rfl
 by_cases Ou : k = 17
 ·subst Ou; rfl
 by_cases Ke : k = 14
 ·subst Ke; rfl
 by_cases Fe : k = 13
 ·subst Fe; rfl
 by_cases Fc : k = 12
 ·subst Fc; rfl
 by_cases Fb : k = 11
 ·subst Fb; rfl
 by_cases yQ : k = 10
 ·rw [(KD n.aD (h yQ).1 (h yQ).2).1]; subst yQ; rfl
 by_cases h9 : k = 9
 ·subst h9; rfl
 rw [if_neg Kf, if_neg Kg, if_neg (show ¬ (k = 15 ∨ k = 16 ∨ k = 17) by omega), beq_eq_false_iff_ne.2 Ou, sb]
 rw [if_neg atB, if_neg Ke, if_neg Ke, if_neg Fe, if_neg Fe, if_neg Fc, if_neg Fc, if_neg Fb, if_neg Fb, if_neg yQ, if_neg yQ, if_neg h9, if_neg h9]
section
variable {X Y : ae → ar}
def IX (X : ae → ar) (x : ae) : Prop := (∀ p : ar, p.length + (X x).length ≤ 140737488355328 → fM (PP p) x = some (PP (p ++ X x))) ∧ (x.ai = 10 → 1 ≤ x.aD ∧ x.aD ≤ 15)
def IY (Y : ae → ar) (x : ae) : Prop := ∀ p : ar, p.length + (Y x).length ≤ 140737488355328 → gY (PP p) x = some (PP (p ++ Y x))
def IB (Y : ae → ar) (x : ae) : Prop := ∀ p : ar, p.length + (Y x).length ≤ 140737488355328 → aX (PP p) x = some (PP (p ++ Y x))
theorem lW {x : ae} (h : IX X x) {k : Int} {p : ar} (hb : p.length + (mL X x k).length ≤ 140737488355328) : aJ (PP p) x k = some (PP (p ++ mL X x k)) := by
 rw [aJ, ai0 x h.2, sb]
 unfold mL at hb ⊢
 by_cases hk : lvl x < k
 ·rw [if_pos hk] at hb ⊢
  rw [if_pos hk]
  simp only [An, an, mg] at hb
  rw [dj atE, sb, h.1 _ aty, sb, dj aty, sb]
  simp only [amb]
 ·rw [if_neg hk] at hb ⊢
  rw [if_neg hk, h.1 _ hb]; rfl
theorem TQ {n a b : ae} {r : List ae} {i : Int} {s : ar} {j : Int} {p : ar} (hk : n.ah = a :: b :: r) (ha : IX X a) (hb : IX X b) (hl : p.length + (two X a i s b j).length ≤ 140737488355328) : bA (PP p) n i s j = some (PP (p ++ two X a i s b j)) := by
 simp only [two, An] at hl
 rw [bA, hk]
 simp (disch := first | omega | (simp only [An, an, mg]; omega)) only [aW, eK, sb, lW ha, lW hb, dj, two, amb]
theorem ai1 (ks : List ae) (h : ∀ x ∈ ks, IX X x) (hl : ks.length ≤ 1048576) : ∀ (f i : Nat) (p : ar), ks.length ≤ i + f → p.length + (jn X (decide (i = 0)) (ks.drop i)).length ≤ 140737488355328 →
  cJ ks p (i : Int) = some (p ++ jn X (decide (i = 0)) (ks.drop i))
 | f, i, p, hf, hb => by
  rw [cJ]
  by_cases hi : i < ks.length
  ·obtain ⟨g, rfl⟩ : ∃ g, f = g + 1 := ⟨f - 1, by omega⟩
   have hd := aqX hi
   have hx := h _ (arb hi)
   have oB : decide (i + 1 = 0) = false := decide_eq_false att
   have IH : ∀ u : ar, u.length + (jn X false (ks.drop (i + 1))).length ≤ 140737488355328 → cJ ks u ((i + 1 : Nat) : Int) = some (u ++ jn X false (ks.drop (i + 1))) := fun u ns => by
    rw [ai1 ks h hl g (i + 1) u att aua, oB]
   rw [hd, jn] at hb
   rw [if_pos att, bC hi, bU att, hd, jn, sb]
   by_cases he : i = 0
   ·rw [decide_eq_true he] at hb ⊢
    simp only [cond_true, An, an, mg] at hb
    rw [if_neg att]
    simp (disch := first | omega | (simp only [An, an, mg]; omega)) only [dj, sb, lW hx, IH, cond_true, amb, aqQ, aqR]
   ·rw [decide_eq_false he] at hb ⊢
    simp only [cond_false, An, an, mg] at hb
    rw [if_pos att]
    simp (disch := first | omega | (simp only [An, an, mg]; omega)) only [dj, sb, lW hx, IH, cond_false, amb, aqQ, aqR]
  ·rw [if_neg att, aqU att]; simp [jn]
theorem sM {ks : List ae} {p : ar} (h : ∀ x ∈ ks, IX X x) (hl : ks.length ≤ 1048576) (hb : p.length + (iU X ks).length ≤ 140737488355328) : dn (PP p) ks = some (PP (p ++ iU X ks)) := by
 simp only [iU, An, an, mg] at hb
 have h0 := ai1 ks h hl ks.length 0 (p ++ [40]) att atX
 rw [decide_eq_true rfl, show ((0 : Nat) : Int) = 0 from rfl, ara] at h0
 rw [dn]
 simp (disch := first | omega | (simp only [An, an, mg]; omega)) only [dj, sb, h0, iU, amb, aqQ, aqR]
end
set_option maxRecDepth 100000
section
variable {X Y : ae → ar}
theorem TR (n : ae) (h : ∀ x ∈ n.ah, ∀ y ∈ x.ah, IX X y) (hp : ∀ x ∈ n.ah, 1 ≤ (x.ah.length : Int) ∧ (x.ah.length : Int) ≤ 2) (hl : n.ah.length ≤ 1048576) : ∀ (f i : Nat) (p : ar), n.ah.length ≤ i + f → p.length + (vi X (decide (i = 0)) (n.ah.drop i)).length ≤ 140737488355328 →
  cK n p (i : Int) = some (p ++ vi X (decide (i = 0)) (n.ah.drop i))
 | f, i, p, hf, hb => by
  rw [cK]
  by_cases hi : i < n.ah.length
  ·obtain ⟨g, rfl⟩ : ∃ g, f = g + 1 := ⟨f - 1, by omega⟩
   have hd := aqX hi
   have hx := h _ (arb hi)
   have Fh := hp _ (arb hi)
   have oB : decide (i + 1 = 0) = false := decide_eq_false att
   have IH : ∀ u : ar, u.length + (vi X false (n.ah.drop (i + 1))).length ≤ 140737488355328 → cK n u ((i + 1 : Nat) : Int) = some (u ++ vi X false (n.ah.drop (i + 1))) := fun u ns => by
    rw [TR n h hp hl g (i + 1) u att aua, oB]
   rw [hd, vi, Zi] at hb
   rw [if_pos att, bC hi, bU att, hd, vi, Zi]
   generalize n.ah[i] = x at *
   have hP : ∀ a b i s j u, x.ah = [a, b] → IX X a → IX X b → u.length + (two X a i s b j).length ≤ 140737488355328 → bA (PP u) x i s j = some (PP (u ++ two X a i s b j)) := fun a b i s j u hk ha hb hl => TQ hk ha hb hl
   generalize wH : x.ah = ks at *
   rcases ks with _ | ⟨a, _ | ⟨b, _ | ⟨c, r⟩⟩⟩
   ·simp at Fh
   ·have ha := hx a atv
    have q1 : ¬ ((([a] : List ae).length : Int) = 2) := by simp
    by_cases he : i = 0
    ·rw [decide_eq_true he] at hb ⊢
     simp only [cond_true, An, an, mg] at hb
     rw [sb, if_neg att]
     simp (disch := first | omega | (simp only [An, an, mg]; omega)) only [dj, sb, lW ha, aW, wH, IH, cond_true, amb, aqQ, aqR, q1, if_false]
    ·rw [decide_eq_false he] at hb ⊢
     simp only [cond_false, An, an, mg] at hb
     rw [sb, if_pos att]
     simp (disch := first | omega | (simp only [An, an, mg]; omega)) only [dj, sb, lW ha, aW, wH, IH, cond_false, amb, aqQ, aqR, q1, if_false]
   ·have ha := hx a atv
    have nv := hx b atv
    have q1 : ((([a, b] : List ae).length : Int) = 2) := by simp
    have hT := fun u => hP a b 1 [32, 61, 62, 32] 1 u rfl ha nv
    simp only [two, An, an, mg] at hT
    by_cases he : i = 0
    ·rw [decide_eq_true he] at hb ⊢
     simp only [cond_true, An, an, mg] at hb
     rw [sb, if_neg att, sb, if_pos (by rw [wH]; exact q1)]
     simp (disch := first | omega | (simp only [An, an, mg]; omega)) only [dj, sb, hT, IH, cond_true, amb, aqQ, aqR]
    ·rw [decide_eq_false he] at hb ⊢
     simp only [cond_false, An, an, mg] at hb
     rw [sb, if_pos att, dj atE, sb, sb, if_pos (by rw [wH]; exact q1)]
     simp (disch := first | omega | (simp only [An, an, mg]; omega)) only [dj, sb, hT, IH, cond_false, amb, aqQ, aqR]
   ·simp at Fh; omega
  ·rw [if_neg att, aqU att]; simp [vi]
theorem TS (ks : List ae) (k : Int) (hl : ks.length ≤ 1048576) : ∀ (f i : Nat) (b : Bool) (p : ar), ks.length ≤ i + f → p.length + (uh k b (ks.drop i)).length ≤ 140737488355328 →
  bL ks k p b (i : Int) = some (p ++ uh k b (ks.drop i))
 | f, i, b, p, hf, hb => by
  rw [bL]
  by_cases hi : i < ks.length
  ·obtain ⟨g, rfl⟩ : ∃ g, f = g + 1 := ⟨f - 1, by omega⟩
   have hd := aqX hi
   have IH : ∀ (b : Bool) (u : ar), u.length + (uh k b (ks.drop (i + 1))).length ≤ 140737488355328 → bL ks k u b ((i + 1 : Nat) : Int) = some (u ++ uh k b (ks.drop (i + 1))) := fun b u ns => TS ks k hl g (i + 1) b u att ns
   rw [hd, uh] at hb
   rw [if_pos att, bC hi, sb, bU att, hd, uh]
   generalize ks[i] = x at hb
   by_cases hk : x.ai = k
   ·rw [if_pos hk, hk, asi, cond_true]
    rw [hk, asi, cond_true] at hb
    cases b <;> by_cases hn : x.aD = 1
    all_goals
     first | rw [hn] at hb ⊢ | rw [beq_eq_false_iff_ne.2 hn] at hb ⊢
     simp only [cond_true, cond_false, asi, An, an, mg] at hb
     simp (disch := first | omega | (simp only [An, an, mg]; omega)) only [dj, gX, sb, IH, hn, if_true, if_false, cond_true, cond_false, asi, amb, aqQ, aqR, aqZ]
   ·rw [if_neg hk, beq_eq_false_iff_ne.2 hk, cond_false]
    rw [beq_eq_false_iff_ne.2 hk, cond_false] at hb
    exact IH b p hb
  ·rw [if_neg att, aqU att]; simp [uh]
theorem Ba {ks : List ae} {k : Int} {p : ar} (hl : ks.length ≤ 1048576) (hb : p.length + (params ks k).length ≤ 140737488355328) : df (PP p) ks k = some (PP (p ++ params ks k)) := by
 simp only [params, An, an, mg] at hb
 have h0 := TS ks k hl ks.length 0 true (p ++ [40]) att (by rw [ara]; simp only [An, an, mg]; omega)
 rw [show ((0 : Nat) : Int) = 0 from rfl, ara] at h0
 rw [df]
 simp (disch := first | omega | (simp only [An, an, mg]; omega)) only [dj, sb, h0, params, amb, aqQ, aqR]
theorem KE (n : ae) (p : ar) (hl : n.ah.length ≤ 1048576) : ∀ (f i : Nat), n.ah.length ≤ i + f → (∀ x ∈ n.ah.drop i, ¬ x.ai = 25) → bG n (PP p) (i : Int) = some p
 | f, i, hf, h => by
  rw [bG]
  by_cases hi : i < n.ah.length
  ·obtain ⟨g, rfl⟩ : ∃ g, f = g + 1 := ⟨f - 1, by omega⟩
   have hd := aqX hi
   rw [hd] at h
   rw [if_pos att, bC hi, bU att, sb, if_neg (h _ List.mem_cons_self), KE n p hl g (i + 1) att (fun x hx => h x (arf _ hx))]
  ·rw [if_neg att]
theorem Eb (n : ae) (p : ar) (hl : n.ah.length ≤ 1048576) (hb : p.length + 5 + (params n.ah 25).length ≤ 140737488355328) : ∀ (f i : Nat), n.ah.length ≤ i + f → (∃ x ∈ n.ah.drop i, x.ai = 25) → bG n (PP p) (i : Int) = some (p ++ [32, 117, 115, 101, 32] ++ params n.ah 25)
 | f, i, hf, h => by
  rw [bG]
  by_cases hi : i < n.ah.length
  ·obtain ⟨g, rfl⟩ : ∃ g, f = g + 1 := ⟨f - 1, by omega⟩
   have hd := aqX hi
   rw [hd] at h
   rw [if_pos att, bC hi, bU att, sb]
   by_cases hk : n.ah[i].ai = 25
   ·rw [if_pos hk]
    simp (disch := first | omega | (simp only [An, an, mg]; omega)) only [dj, sb, Ba]
   ·rw [if_neg hk, Eb n p hl hb g (i + 1) att (by
     obtain ⟨x, q1, q2⟩ := h
     rcases aqY.1 q1 with e | e
     ·subst e; exact absurd q2 hk
     ·exact ⟨x, e, q2⟩)]
  ·rw [aqU att] at h
   obtain ⟨x, q1, _⟩ := h; cases q1
theorem TT (n : ae) (h : ∀ x ∈ n.ah, IY Y x) (hl : n.ah.length ≤ 1048576) : ∀ (f i : Nat) (p : ar), n.ah.length ≤ i + f → p.length + ((n.ah.drop i).flatMap (fun x => Y x ++ [32])).length ≤ 140737488355328 →
  di n p (i : Int) = some (p ++ (n.ah.drop i).flatMap (fun x => Y x ++ [32]))
 | f, i, p, hf, hb => by
  rw [di]
  by_cases hi : i < n.ah.length
  ·obtain ⟨g, rfl⟩ : ∃ g, f = g + 1 := ⟨f - 1, by omega⟩
   have hd := aqX hi
   have hx := h _ (arb hi)
   have IH : ∀ u : ar, u.length + ((n.ah.drop (i + 1)).flatMap (fun x => Y x ++ [32])).length ≤ 140737488355328 → di n u ((i + 1 : Nat) : Int) = some (u ++ (n.ah.drop (i + 1)).flatMap (fun x => Y x ++ [32])) := fun u ns => TT n h hl g (i + 1) u att ns
   rw [hd, arD] at hb
   simp only [An, an, mg] at hb
   rw [if_pos att, bC hi, bU att, hd, arD, sb, hx p att]
   simp (disch := first | omega | (simp only [An, an, mg]; omega)) only [dj, sb, IH, amb, aqQ, aqR]
  ·rw [if_neg att, aqU att]; simp
theorem KF {n : ae} {p : ar} (h : ∀ x ∈ n.ah, IY Y x) (hl : n.ah.length ≤ 1048576) (hb : p.length + ([123, 32] ++ n.ah.flatMap (fun x => Y x ++ [32]) ++ [125]).length ≤ 140737488355328) : aX (PP p) n = some (PP (p ++ ([123, 32] ++ n.ah.flatMap (fun x => Y x ++ [32]) ++ [125]))) := by
 simp only [An, an, mg] at hb
 have h0 := TT n h hl n.ah.length 0 (p ++ [123, 32]) att (by rw [ara]; simp only [An, an, mg]; omega)
 rw [show ((0 : Nat) : Int) = 0 from rfl, ara] at h0
 rw [aX]
 simp (disch := first | omega | (simp only [An, an, mg]; omega)) only [dj, sb, h0, amb, aqQ, aqR]
end
set_option maxRecDepth 100000
theorem ai2 (m : Int) (h1 : 0 ≤ m) (h2 : m ≤ 2) : idx ([[110, 117, 108, 108], [102, 97, 108, 115, 101], [116, 114, 117, 101]] : List ar) m = some (OI m) := by
 rcases (by omega : m = 0 ∨ m = 1 ∨ m = 2) with h | h | h <;> subst h <;> rfl
theorem ao2 (m : Int) (h1 : 1 ≤ m) (h2 : m ≤ 2) : idx ([[], [33], [45]] : List ar) m = some (unW m) := by
 rcases (by omega : m = 1 ∨ m = 2) with h | h <;> subst h <;> rfl
theorem ai3 (m : Int) (h0 : 0 ≤ m) (h1 : m ≤ 1000000000) : jq m = some (Lib.itoa m) := by
 unfold jq m73
 rw [if_pos ⟨by omega, by omega⟩]; rfl
section
variable {X Y : ae → ar}
theorem ai4 (n z : ae) (l : List ae) (p : ar) (hk : n.ah = l ++ [z]) (hl : n.ah.length ≤ 1048576) (hz : IB Y z) (Ox : z.ai = 48) (u : ar) (hu : ((¬ ∃ x ∈ l, x.ai = 25) ∧ u = []) ∨ ((∃ x ∈ l, x.ai = 25) ∧ u = [32, 117, 115, 101, 32] ++ params n.ah 25))
  (hb : p.length + 9 + (params n.ah 24).length + u.length + 1 + (Y z).length ≤ 140737488355328) : fg (PP p) n = some (PP (p ++ ([102, 117, 110, 99, 116, 105, 111, 110, 32] ++ (params n.ah 24 ++ (u ++ ([32] ++ Y z)))))) := by
 have e3 : aT ((n.ah.length : Int) - 1) = (l.length : Int) := kL (by rw [hk]; simp) (by rw [hk] at hl; simp at hl; omega)
 have e4 : idx n.ah (l.length : Int) = some z := by rw [hk]; exact oP
 have e5 : ∀ q : ar, q.length + u.length ≤ 140737488355328 → bG n (PP q) 0 = some (q ++ u) := by
  intro q hq
  rcases hu with ⟨h1, h2⟩ | ⟨h1, h2⟩
  ·have := KE n q hl n.ah.length 0 att (by
    rw [ara, hk]
    intro x hx
    rcases aqV.1 hx with e | e
    ·exact fun q => h1 ⟨x, e, q⟩
    ·simp at e; subst e; omega)
   rw [show ((0 : Nat) : Int) = 0 from rfl] at this
   rw [this, h2, asc]
  ·rw [h2] at hq
   simp only [An, an, mg] at hq
   have := Eb n q hl att n.ah.length 0 att (by
    rw [ara, hk]
    obtain ⟨x, q1, q2⟩ := h1
    exact ⟨x, by simp [q1], q2⟩)
   rw [show ((0 : Nat) : Int) = 0 from rfl] at this
   rw [this, h2, amb]
 rw [fg, e3, e4]
 have hz' := fun q (hq : q.length + (Y z).length ≤ 140737488355328) => hz q hq
 simp (disch := first | omega | (simp only [An, an, mg]; omega)) only [Int.reduceEq, if_true, if_false, sb, dj, gX, ik, il, e5, Ba hl, hz', amb, aqQ, aqR]
set_option maxHeartbeats 4000000 in
theorem ON (n : ae) {s : ar} (h : PX X Y n.ai n.aD n.aj n.ah s) (hw : wt n ≤ 1048576)
  (HX : ∀ x ∈ n.ah, vE x = true → IX X x) (HX2 : ∀ x ∈ n.ah, ∀ y ∈ x.ah, vE y = true → IX X y) (HY : ∀ x ∈ n.ah, vS x = true → x.ai = 48 → IB Y x) (p : ar) (hs : p.length + s.length ≤ 140737488355328) : fM (PP p) n = some (PP (p ++ s)) := by
 have hl := (OC hw).2
 have hT : ∀ a b r i s j q, n.ah = a :: b :: r → IX X a → IX X b → q.length + (two X a i s b j).length ≤ 140737488355328 → bA (PP q) n i s j = some (PP (q ++ two X a i s b j)) := fun a b r i s j q hk ha hb hl => TQ hk ha hb hl
 have hC : ∀ z l u q, n.ah = l ++ [z] → IB Y z → z.ai = 48 → (((¬ ∃ x ∈ l, x.ai = 25) ∧ u = []) ∨ ((∃ x ∈ l, x.ai = 25) ∧ u = [32, 117, 115, 101, 32] ++ params n.ah 25)) → q.length + 9 + (params n.ah 24).length + u.length + 1 + (Y z).length ≤ 140737488355328 → fg (PP q) n = some (PP (q ++ ([102, 117, 110, 99, 116, 105, 111, 110, 32] ++ (params n.ah 24 ++ (u ++ ([32] ++ Y z)))))) := fun z l u q hk hz Ox hu hb => ai4 n z l q hk hl hz Ox u hu hb
 have hL : n.ah.all (A4 vE) = true → ∀ q : ar, q.length + ([91] ++ vi X true n.ah ++ [93]).length ≤ 140737488355328 → jz (PP q) n = some (PP (q ++ ([91] ++ vi X true n.ah ++ [93]))) := fun h1 q h2 => by
  simp only [An, an, mg] at h2
  have := TR n (X := X) (fun x hx y hy => by
   have h3 := bI h1 x hx
   simp only [A4, As] at h3
   exact HX2 x hx y hy (bI h3.2.2.2.2 y hy)) (fun x hx => by
   have h3 := bI h1 x hx
   simp only [A4, As] at h3
   exact of_decide_eq_true h3.2.2.2.1) hl n.ah.length 0 (q ++ [91]) att atX
  rw [show ((0 : Nat) : Int) = 0 from rfl, ara, decide_eq_true rfl] at this
  rw [jz]
  simp (disch := first | omega | (simp only [An, an, mg]; omega)) only [Int.reduceEq, if_true, if_false, sb, dj, gX, ik, il, this, amb, aqQ, aqR]
 rw [fM]
 generalize n.ah = ks at *
 generalize n.aj = t at *
 generalize n.aD = m at *
 generalize n.ai = k at *
 cases h
 case num h0 h1 =>
  rw [if_pos rfl, ai3 m h0 h1, sb, dj hs]; rfl
 case txt h0 =>
  rw [if_neg atB, if_pos rfl, iQ t att, sb, dj hs]; rfl
 case cst h0 h1 =>
  rw [if_neg atB, if_neg atB, if_pos rfl, ai2 m h0 h1, sb, dj hs]; rfl
 case var =>
  simp only [An, an, mg] at hs
  simp (disch := first | omega | (simp only [An, an, mg]; omega)) only [Int.reduceEq, if_true, if_false, sb, dj, gX, ik, il, sb, amb, aqQ, aqR]
 case arr h =>
  rw [if_neg atB, if_neg atB, if_neg atB, if_neg atB, if_pos rfl, hL h p hs]; rfl
 case ref a =>
  simp only [An, an, mg] at hs
  simp (disch := first | omega | (simp only [An, an, mg]; omega)) only [Int.reduceEq, if_true, if_false, sb, dj, gX, ik, il, aW, amb, aqQ, aqR]
 case call h =>
  simp only [An, an, mg] at hs
  have e := fun q => sM (p := q) (fun x hx => HX x hx (bI h x hx)) hl
  simp (disch := first | omega | (simp only [An, an, mg]; omega)) only [Int.reduceEq, if_true, if_false, sb, dj, gX, ik, il, e, Int.reduceBEq, aqZ, amb, aqQ, aqR]
 case stat h =>
  simp only [An, an, mg] at hs
  have e := fun q => sM (p := q) (fun x hx => HX x hx (bI h x hx)) hl
  simp (disch := first | omega | (simp only [An, an, mg]; omega)) only [Int.reduceEq, if_true, if_false, sb, dj, gX, ik, il, e, Int.reduceBEq, aqZ, amb, aqQ, aqR]
 case new h =>
  simp only [An, an, mg] at hs
  have e := fun q => sM (p := q) (fun x hx => HX x hx (bI h x hx)) hl
  simp (disch := first | omega | (simp only [An, an, mg]; omega)) only [Int.reduceEq, if_true, if_false, sb, dj, gX, ik, il, e, Int.reduceBEq, aqZ, amb, aqQ, aqR]
 case OJ a r ha h h8 =>
  simp only [An, an, mg] at hs
  have ea := HX a atv ha
  have ns : r.length ≤ 1048576 := by simp only [an] at hl; omega
  have e := fun q => sM (p := q) (fun x hx => HX x atG (bI h x hx)) ns
  have e2 : mL X a 13 = [40] ++ X a ++ [41] := by
   unfold mL lvl
   rw [h8]; rfl
  have e3 := fun q => lW (p := q) ea (k := 13)
  rw [e2] at e3
  simp only [An, an, mg] at e3
  simp (disch := first | omega | (simp only [An, an, mg]; omega)) only [Int.reduceEq, if_true, if_false, sb, dj, gX, ik, il, e, e3, aW, lH, Int.reduceBEq, aqZ, h8, amb, aqQ, aqR]
 case dyn a r ha h h8 =>
  simp only [An, an, mg] at hs
  have ea := HX a atv ha
  have ns : r.length ≤ 1048576 := by simp only [an] at hl; omega
  have e := fun q => sM (p := q) (fun x hx => HX x atG (bI h x hx)) ns
  simp (disch := first | omega | (simp only [An, an, mg]; omega)) only [Int.reduceEq, if_true, if_false, sb, dj, gX, ik, il, e, lW ea, aW, lH, Int.reduceBEq, aqZ, h8, amb, aqQ, aqR]
 case met a r ha h =>
  simp only [An, an, mg] at hs
  have ea := HX a atv ha
  have ns : r.length ≤ 1048576 := by simp only [an] at hl; omega
  have e := fun q => sM (p := q) (fun x hx => HX x atG (bI h x hx)) ns
  simp (disch := first | omega | (simp only [An, an, mg]; omega)) only [Int.reduceEq, if_true, if_false, sb, dj, gX, ik, il, e, lW ea, aW, lH, Int.reduceBEq, aqZ, amb, aqQ, aqR]
 case kX l z hu sL nu hz =>
  simp only [An, an, mg] at hs
  have e := hC z l [] p rfl (HY z atv hz nu) nu (.inl ⟨sL, rfl⟩) (by rw [mg]; omega)
  simp (disch := first | omega | (simp only [An, an, mg]; omega)) only [Int.reduceEq, if_true, if_false, sb, dj, gX, ik, il, e, Int.reduceBEq, aqZ, amb, aqQ, aqR]
 case OK l z hu sL nu hz =>
  simp only [An, an, mg] at hs
  have e := hC z l ([32, 117, 115, 101, 32] ++ params (l ++ [z]) 25) p rfl (HY z atv hz nu) nu (.inr ⟨sL, rfl⟩) aty
  rw [e]
  simp (disch := first | omega | (simp only [An, an, mg]; omega)) only [Int.reduceEq, if_true, if_false, sb, dj, gX, ik, il, Int.reduceBEq, aqZ, amb, aqQ, aqR]
 case un a ha h0 h1 =>
  simp only [An, an, mg] at hs
  have ea := HX a atv ha
  simp (disch := first | omega | (simp only [An, an, mg]; omega)) only [Int.reduceEq, if_true, if_false, sb, dj, gX, ik, il, aW, lW ea, ao2 m h0 h1, amb, aqQ, aqR]
 case fld a ha =>
  simp only [An, an, mg] at hs
  have ea := HX a atv ha
  simp (disch := first | omega | (simp only [An, an, mg]; omega)) only [Int.reduceEq, if_true, if_false, sb, dj, gX, ik, il, aW, lW ea, amb, aqQ, aqR]
 case bin a b ha hb h0 h1 =>
  have ea := HX a atv ha
  have eb := HX b atv hb
  obtain ⟨_, e2, e3⟩ := CC m
  obtain ⟨e1, e6⟩ := KD m h0 h1
  have e4 : aT (mA m + 1) = mA m + 1 := Oj att att
  have e5 := hT a b [] (mA m) ([32] ++ A7 m ++ [32]) (mA m + 1) p rfl ea eb hs
  have e7 := vj m h0 h1
  simp only [Int.reduceEq, if_true, if_false]
  rw [e1, sb, e6, sb, aL atE, sb, aL aty, sb, e4, e5]; rfl
 case cond a b c ha hb hc =>
  have ea := HX a atv ha
  have eb := HX b atv hb
  have ec := HX c atv hc
  simp only [An, an, mg] at hs
  have e5 := fun q => hT a b [c] 3 [32, 63, 32] 1 q rfl ea eb
  simp (disch := first | omega | (simp only [An, an, mg]; omega)) only [Int.reduceEq, if_true, if_false, sb, dj, gX, ik, il, e5, lb, lW ec, amb, aqQ, aqR]
 case ix a b ha hb =>
  have ea := HX a atv ha
  have eb := HX b atv hb
  simp only [two, An, an, mg] at hs
  simp (disch := first | omega | (simp only [An, an, mg]; omega)) only [Int.reduceEq, if_true, if_false, sb, dj, gX, ik, il, aW, eK, lW ea, lW eb, two, amb, aqQ, aqR]
 all_goals
  rename_i a b ha hb
  have ea := HX a atv ha
  have eb := HX b atv hb
  have e5 := fun i s j => hT a b [] i s j p rfl ea eb
  rw [e5 _ _ _ hs]
  simp only [Int.reduceEq, if_true, if_false, sb]
end
set_option maxRecDepth 100000
section
variable {X Y : ae → ar}
theorem sO {x : ae} {w p : ar} (h : IX X x) (hb : p.length + (w.length + ((mL X x 1).length + 1)) ≤ 140737488355328) : ck (PP p) w x = some (PP (p ++ (w ++ (mL X x 1 ++ [59])))) := by
 rw [ck]
 simp (disch := first | omega | (simp only [An, an, mg]; omega)) only [Int.reduceEq, if_true, if_false, sb, dj, gX, ik, il, lW h, amb, aqQ, aqR]
def IC (Y : ae → ar) (b : ae) : Prop := ∀ (l : List ae) (i : Nat) (hi : i < l.length), l.length ≤ 1048576 → l[i] = b → ∀ p : ar, p.length + (Y b).length ≤ 140737488355328 → bJ l p (i : Int) = bJ l (p ++ Y b) ((i + 1 : Nat) : Int)
theorem xI (l : List ae) (p : ar) (i : Nat) (h : l.length ≤ i) : bJ l p (i : Int) = some (PP p) := by
 rw [bJ, if_neg att]
theorem ai5 {b a c : ae} (h4 : b.ai = 44) (hk : b.ah = [a, c]) (hc : IB Y c) (hY : Y b = [32, 99, 97, 116, 99, 104, 32, 40] ++ b.aj ++ [32, 36] ++ a.aj ++ [41, 32] ++ Y c) : IC Y b := by
 intro l i hi hl he p hb
 rw [hY] at hb ⊢
 simp only [An, an, mg] at hb
 rw [bJ, if_pos att, bC hi, sb, he, if_pos h4, hk, aW, eK, sb, bU att]
 have TU := fun q (hq : q.length + (Y c).length ≤ 140737488355328) => hc q hq
 simp (disch := first | omega | (simp only [An, an, mg]; omega)) only [Int.reduceEq, if_true, if_false, sb, dj, gX, ik, il, ao1, TU, amb, aqQ, aqR]
theorem ai6 {b a : ae} (h4 : b.ai = 45) (hk : b.ah = [a]) (hc : IB Y a) (hY : Y b = [32, 102, 105, 110, 97, 108, 108, 121, 32] ++ Y a) : IC Y b := by
 intro l i hi hl he p hb
 rw [hY] at hb ⊢
 simp only [An, an, mg] at hb
 rw [bJ, if_pos att, bC hi, sb, he, if_neg att, hk, aW, bU att]
 have TU := fun q (hq : q.length + (Y a).length ≤ 140737488355328) => hc q hq
 simp (disch := first | omega | (simp only [An, an, mg]; omega)) only [Int.reduceEq, if_true, if_false, sb, dj, gX, ik, il, TU, amb, aqQ, aqR]
theorem Zo {n a b : ae} {p : ar} (hk : n.ah = [a, b]) (ha : IB Y a) (hb : IC Y b) (hl : p.length + ([116, 114, 121, 32] ++ Y a ++ Y b).length ≤ 140737488355328) : dV (PP p) n = some (PP (p ++ ([116, 114, 121, 32] ++ Y a ++ Y b))) := by
 simp only [An, an, mg] at hl
 rw [dV, hk, dj atE, sb, aW, sb, ha _ aty, sb, lH, sb]
 have h1 := hb [b] 0 atv atv rfl (p ++ [116, 114, 121, 32] ++ Y a) aty
 rw [xI [b] _ (0 + 1) atv] at h1
 rw [show ((0 : Nat) : Int) = 0 from rfl] at h1
 rw [h1]; simp
theorem Zp {n a b c : ae} {p : ar} (hk : n.ah = [a, b, c]) (ha : IB Y a) (hb : IC Y b) (hc : IC Y c) (hl : p.length + ([116, 114, 121, 32] ++ Y a ++ Y b ++ Y c).length ≤ 140737488355328) : dV (PP p) n = some (PP (p ++ ([116, 114, 121, 32] ++ Y a ++ Y b ++ Y c))) := by
 simp only [An, an, mg] at hl
 rw [dV, hk, dj atE, sb, aW, sb, ha _ aty, sb, lH, sb]
 have h1 := hb [b, c] 0 atv atv rfl (p ++ [116, 114, 121, 32] ++ Y a) aty
 have h2 := hc [b, c] 1 atv atv rfl (p ++ [116, 114, 121, 32] ++ Y a ++ Y b) aty
 rw [xI [b, c] _ (1 + 1) atv] at h2
 rw [h2] at h1
 rw [show ((0 : Nat) : Int) = 0 from rfl] at h1
 rw [h1]; simp
set_option maxHeartbeats 4000000 in
theorem OO (n : ae) {s : ar} (h : PS X Y n.ai n.aD n.aj n.ah s) (hw : wt n ≤ 1048576) (h44 : ¬ n.ai = 44) (h45 : ¬ n.ai = 45)
  (HX : ∀ x ∈ n.ah, vE x = true → IX X x) (HY : ∀ x ∈ n.ah, vS x = true → IY Y x) (HB : ∀ x ∈ n.ah, vS x = true → x.ai = 48 → IB Y x) (HC : ∀ x ∈ n.ah, cat vE vS x = true → IC Y x) (HF : ∀ x ∈ n.ah, fin vS x = true → IC Y x)
  (p : ar) (hs : p.length + s.length ≤ 140737488355328) : gY (PP p) n = some (PP (p ++ s)) := by
 have hl := (OC hw).2
 have hT2 : ∀ a b, n.ah = [a, b] → IB Y a → IC Y b → p.length + ([116, 114, 121, 32] ++ Y a ++ Y b).length ≤ 140737488355328 → dV (PP p) n = some (PP (p ++ ([116, 114, 121, 32] ++ Y a ++ Y b))) := fun a b h1 h2 h3 h4 => Zo h1 h2 h3 h4
 have hT3 : ∀ a b c, n.ah = [a, b, c] → IB Y a → IC Y b → IC Y c → p.length + ([116, 114, 121, 32] ++ Y a ++ Y b ++ Y c).length ≤ 140737488355328 → dV (PP p) n = some (PP (p ++ ([116, 114, 121, 32] ++ Y a ++ Y b ++ Y c))) := fun a b c h1 h2 h3 h5 h4 => Zp h1 h2 h3 h5 h4
 have hK : (∀ x ∈ n.ah, IY Y x) → p.length + ([123, 32] ++ n.ah.flatMap (fun x => Y x ++ [32]) ++ [125]).length ≤ 140737488355328 → aX (PP p) n = some (PP (p ++ ([123, 32] ++ n.ah.flatMap (fun x => Y x ++ [32]) ++ [125]))) := fun h1 h2 => KF h1 hl h2
 rw [gY]
 generalize n.ah = ks at *
 generalize n.aj = t at *
 generalize n.aD = m at *
 generalize n.ai = k at *
 cases h
 case htm =>
  simp only [An, an, mg] at hs
  simp (disch := first | omega | (simp only [An, an, mg]; omega)) only [Int.reduceEq, if_true, if_false, sb, dj, gX, ik, il, sb, amb, aqQ, aqR]
 case glb =>
  simp only [An, an, mg] at hs
  simp (disch := first | omega | (simp only [An, an, mg]; omega)) only [Int.reduceEq, if_true, if_false, sb, dj, gX, ik, il, sb, amb, aqQ, aqR]
 case brk =>
  simp only [An, an, mg] at hs
  simp (disch := first | omega | (simp only [An, an, mg]; omega)) only [Int.reduceEq, if_true, if_false, sb, dj, gX, ik, il, sb, amb, aqQ, aqR]
 case cont =>
  simp only [An, an, mg] at hs
  simp (disch := first | omega | (simp only [An, an, mg]; omega)) only [Int.reduceEq, if_true, if_false, sb, dj, gX, ik, il, sb, amb, aqQ, aqR]
 case Kq =>
  simp only [An, an, mg] at hs
  simp (disch := first | omega | (simp only [An, an, mg]; omega)) only [Int.reduceEq, if_true, if_false, sb, dj, gX, ik, il, mg, show (((0 : Nat) : Int)) = 0 from rfl, amb, aqQ, aqR]
 case inc h0 =>
  simp only [An, an, mg] at hs
  have e := iQ t att
  simp (disch := first | omega | (simp only [An, an, mg]; omega)) only [Int.reduceEq, if_true, if_false, sb, dj, gX, ik, il, e, amb, aqQ, aqR]
 case OD a ha =>
  have ea := HX a atv ha
  simp only [An, an, mg] at hs
  simp (disch := first | omega | (simp only [An, an, mg]; omega)) only [Int.reduceEq, if_true, if_false, sb, dj, gX, ik, il, aW, sO ea, amb, aqQ, aqR]
 case expr a ha =>
  have ea := HX a atv ha
  simp only [An, an, mg] at hs
  simp (disch := first | omega | (simp only [An, an, mg]; omega)) only [Int.reduceEq, if_true, if_false, sb, dj, gX, ik, il, aW, sO ea, amb, aqQ, aqR]
 case thr a ha =>
  have ea := HX a atv ha
  simp only [An, an, mg] at hs
  simp (disch := first | omega | (simp only [An, an, mg]; omega)) only [Int.reduceEq, if_true, if_false, sb, dj, gX, ik, il, aW, sO ea, amb, aqQ, aqR]
 case OE a ha =>
  have ea := HX a atv ha
  simp only [An, an, mg] at hs
  have q : ¬ ((([a] : List ae).length : Int) = 0) := by simp
  simp (disch := first | omega | (simp only [An, an, mg]; omega)) only [Int.reduceEq, if_true, if_false, sb, dj, gX, ik, il, aW, sO ea, q, amb, aqQ, aqR]
 case yl1 a ha =>
  have ea := HX a atv ha
  simp only [An, an, mg] at hs
  have q : ¬ ((([a] : List ae).length : Int) = 2) := by simp
  have q2 : aT ((([a] : List ae).length : Int) - 1) = 0 := rfl
  simp (disch := first | omega | (simp only [An, an, mg]; omega)) only [Int.reduceEq, if_true, if_false, sb, dj, gX, ik, il, aW, sO ea, q, q2, amb, aqQ, aqR]
 case yl2 a b ha hb =>
  have eb := HX b atv hb
  simp only [An, an, mg] at hs
  have q : ((([a, b] : List ae).length : Int) = 2) := by simp
  have q2 : aT ((([a, b] : List ae).length : Int) - 1) = 1 := rfl
  rw [q2]
  simp only [Int.reduceEq, if_false, if_true, q]
  simp (disch := first | omega | (simp only [An, an, mg]; omega)) only [Int.reduceEq, if_true, if_false, sb, dj, gX, ik, il, aW, eK, sO eb, amb, aqQ, aqR]
 case uns a ha =>
  have ea := HX a atv ha
  simp only [An, an, mg] at hs
  simp (disch := first | omega | (simp only [An, an, mg]; omega)) only [Int.reduceEq, if_true, if_false, sb, dj, gX, ik, il, aW, lW ea, amb, aqQ, aqR]
 case if2 a b ha hb kb =>
  have ea := HX a atv ha
  have yb := fun q (hq : q.length + (Y b).length ≤ 140737488355328) => HB b atv hb kb q hq
  simp only [An, an, mg] at hs
  have q : ¬ ((([a, b] : List ae).length : Int) = 3) := by simp
  simp (disch := first | omega | (simp only [An, an, mg]; omega)) only [Int.reduceEq, if_true, if_false, sb, dj, gX, ik, il, aW, eK, lW ea, yb, q, amb, aqQ, aqR]
 case if3 a b c ha hb kb hc kc =>
  have ea := HX a atv ha
  have yb := fun q (hq : q.length + (Y b).length ≤ 140737488355328) => HB b atv hb kb q hq
  have yc := fun q (hq : q.length + (Y c).length ≤ 140737488355328) => HB c atv hc kc q hq
  simp only [An, an, mg] at hs
  have q : ((([a, b, c] : List ae).length : Int) = 3) := by simp
  simp only [Int.reduceEq, if_false, if_true, q]
  simp (disch := first | omega | (simp only [An, an, mg]; omega)) only [Int.reduceEq, if_true, if_false, sb, dj, gX, ik, il, aW, eK, lb, lW ea, yb, yc, amb, aqQ, aqR]
 case whl a b ha hb kb =>
  have ea := HX a atv ha
  have yb := fun q (hq : q.length + (Y b).length ≤ 140737488355328) => HB b atv hb kb q hq
  simp only [An, an, mg] at hs
  simp (disch := first | omega | (simp only [An, an, mg]; omega)) only [Int.reduceEq, if_true, if_false, sb, dj, gX, ik, il, aW, eK, lW ea, yb, amb, aqQ, aqR]
 case fe3 a b c ha hc kc =>
  have ea := HX a atv ha
  have yc := fun q (hq : q.length + (Y c).length ≤ 140737488355328) => HB c atv hc kc q hq
  simp only [An, an, mg] at hs
  have q : ¬ ((([a, b, c] : List ae).length : Int) = 4) := by simp
  have q2 : aT ((([a, b, c] : List ae).length : Int) - 1) = 2 := rfl
  rw [q2]
  simp (disch := first | omega | (simp only [An, an, mg]; omega)) only [Int.reduceEq, if_true, if_false, sb, dj, gX, ik, il, aW, eK, lb, lW ea, yc, q, amb, aqQ, aqR]
 case fe4 a b c d ha hd kd =>
  have ea := HX a atv ha
  have yd := fun q (hq : q.length + (Y d).length ≤ 140737488355328) => HB d atv hd kd q hq
  simp only [An, an, mg] at hs
  have q : ((([a, b, c, d] : List ae).length : Int) = 4) := by simp
  have q2 : aT ((([a, b, c, d] : List ae).length : Int) - 1) = 3 := rfl
  rw [q2]
  simp only [Int.reduceEq, if_false, if_true, q]
  simp (disch := first | omega | (simp only [An, an, mg]; omega)) only [Int.reduceEq, if_true, if_false, sb, dj, gX, ik, il, aW, eK, lb, Kb, lW ea, yd, amb, aqQ, aqR]
 case vh h =>
  have e := hK (fun x hx => HY x hx (bI h x hx)) hs
  rw [e]
  simp only [Int.reduceEq, if_true, if_false, sb]
 case CA a b ha ka hb =>
  have e := hT2 a b rfl (HB a atv ha ka) (HC b atv hb) hs
  rw [e]
  simp only [Int.reduceEq, if_true, if_false, sb]
 case CB a b ha ka hb =>
  have e := hT2 a b rfl (HB a atv ha ka) (HF b atv hb) hs
  rw [e]
  simp only [Int.reduceEq, if_true, if_false, sb]
 case A6 a b c ha ka hb hc =>
  have e := hT3 a b c rfl (HB a atv ha ka) (HC b atv hb) (HF c atv hc) hs
  rw [e]
  simp only [Int.reduceEq, if_true, if_false, sb]
 case cat a b ha ka hb kb =>
  exact absurd rfl h44
 case fin a ha ka =>
  exact absurd rfl h45
end
set_option maxRecDepth 100000
theorem Zq {X Y : ae → ar} {k m : Int} {t : ar} {ks : List ae} {s : ar} (h : PS X Y k m t ks s) (hk : k = 44) : ∃ a c, ks = [a, c] ∧ vS c = true ∧ c.ai = 48 ∧ s = [32, 99, 97, 116, 99, 104, 32, 40] ++ t ++ [32, 36] ++ a.aj ++ [41, 32] ++ Y c := by
 cases h <;> first | (exfalso; omega) | exact ⟨_, _, rfl, by assumption, by assumption, rfl⟩
theorem Zr {X Y : ae → ar} {k m : Int} {t : ar} {ks : List ae} {s : ar} (h : PS X Y k m t ks s) (hk : k = 45) : ∃ a, ks = [a] ∧ vS a = true ∧ a.ai = 48 ∧ s = [32, 102, 105, 110, 97, 108, 108, 121, 32] ++ Y a := by
 cases h <;> first | (exfalso; omega) | exact ⟨_, rfl, by assumption, by assumption, rfl⟩
theorem Zs {X Y : ae → ar} {k m : Int} {t : ar} {ks : List ae} {s : ar} (h : PS X Y k m t ks s) (hk : k = 48) : ks.all vS = true ∧ s = [123, 32] ++ ks.flatMap (fun x => Y x ++ [32]) ++ [125] := by
 cases h <;> first | (exfalso; omega) | exact ⟨by assumption, rfl⟩
theorem ai7 {x : ae} (h : cat vE vS x = true) : x.ai = 44 := by
 rw [cat, As, beq_iff_eq] at h; exact h.1
theorem ai8 {x : ae} (h : fin vS x = true) : x.ai = 45 := by
 rw [fin, As, beq_iff_eq] at h; exact h.1
theorem ai9 {n : ae} (hw : wt n ≤ 1048576) (h : vS n = true) : ¬ n.ai = 44 ∧ ¬ n.ai = 45 := by
 obtain ⟨_, _, h3⟩ := D7 hw h
 constructor
 ·intro q
  rw [q] at h3; cases h3
 ·intro q
  rw [q] at h3; cases h3
theorem KG : ∀ (N : Nat) (n : ae), sz n < N → wt n ≤ 1048576 → sz n ≤ 600 → (vE n = true → IX tX n) ∧ (vS n = true → IY tY n ∧ (n.ai = 48 → IB tY n))
 | 0, n, h, _, _ => by omega
 | N + 1, n, h, hw, h6 => by
  have hk : ∀ x ∈ n.ah, _ := fun x hx => KG N x atH atS atH
  have nu : ∀ x ∈ n.ah, ∀ y ∈ x.ah, _ := fun x hx y hy => KG N y atF atI atF
  have w1 := wk hw
  have s1 : ∀ x ∈ n.ah, sz x ≤ 600 := fun x hx => by have := dU hx; omega
  have HB : ∀ x ∈ n.ah, vS x = true → x.ai = 48 → IB tY x := fun x hx q => ((hk x hx).2 q).2
  refine ⟨fun hv => ⟨fun p hp => ?_, fun yQ => ?_⟩, fun hv => ⟨fun p hp => ?_, fun Ox p hp => ?_⟩⟩
  ·exact ON n (pX hw h6 hv).2.2 hw (fun x hx q => (hk x hx).1 q) (fun x hx y hy q => (nu x hx y hy).1 q) HB p hp
  ·have h1 := (D6 hw hv).1
   rw [yQ] at h1
   exact of_decide_eq_true h1
  ·have q := ai9 hw hv
   refine OO n (pY hw h6 (jS hv)).2.2 hw q.1 q.2 (fun x hx q => (hk x hx).1 q) (fun x hx q => ((hk x hx).2 q).1) HB (fun x hx q => ?_) (fun x hx q => ?_) p hp
   ·have h44 := ai7 q
    obtain ⟨a, c, e1, e2, e3, e4⟩ := Zq (pY (w1 x hx) (s1 x hx) (Ks q)).2.2 h44
    exact ai5 h44 e1 (((nu x hx c (by rw [e1]; simp)).2 e2).2 e3) e4
   ·have h45 := ai8 q
    obtain ⟨a, e1, e2, e3, e4⟩ := Zr (pY (w1 x hx) (s1 x hx) (Kt q)).2.2 h45
    exact ai6 h45 e1 (((nu x hx a (by rw [e1]; simp)).2 e2).2 e3) e4
  ·obtain ⟨e1, e2⟩ := Zs (pY hw h6 (jS hv)).2.2 Ox
   rw [e2] at hp ⊢
   exact KF (fun x hx => ((hk x hx).2 (bI e1 x hx)).1) (OC hw).2 hp
theorem qX {n : ae} (hw : wt n ≤ 1048576) (h6 : sz n ≤ 600) (hv : vE n = true) : IX tX n := (KG _ n (arH _) hw h6).1 hv
theorem at1 (X : ae → ar) (a : ae) : mL X a 1 = X a := by
 have h : ¬ lvl a < 1 := by
  unfold lvl
  have := (CC a.aD).2.1
  repeat' split
  all_goals omega
 rw [mL, if_neg h]
set_option maxRecDepth 100000
theorem yV {s : ar} (h : 1 ≤ s.length) (hb : s.length ≤ 140737488355328) : eF (aF.mk () s) = some (s, aF.mk () s) := by
 unfold eF
 rw [if_pos ⟨by intro q; simp only at q; rw [q] at h; simp at h, by simp only; omega⟩]
theorem yW (n : ae) (hw : wt n ≤ 1048576) : ∃ s, jo n = some s ∧ jv n = some s := by
 obtain ⟨e1, e2⟩ := Fg n hw
 unfold jo jv
 rw [e1, e2, sb, sb]
 cases hv : vX n
 ·exact ⟨_, rfl, rfl⟩
 ·rw [vX, As, decide_eq_true_eq] at hv
  obtain ⟨q1, q2, _⟩ := pX hw hv.1.1 hv.2
  have q3 := qX hw hv.1.1 hv.2
  have e3 := at1 tX n
  have e4 := lW (p := []) q3 (k := 1) (by rw [e3, mg]; have := q1.2; omega)
  rw [e3, aqQ] at e4
  refine ⟨tX n, ?_, ?_⟩
  ·rw [if_pos rfl, q1.1]; rfl
  ·rw [if_pos rfl, e4, sb, yV q2.1 (by have := q1.2; omega)]; rfl
set_option maxRecDepth 100000
theorem Ec {α : Type} (a : List α) {L : List α → Int → Option (List α)} (hs : ∀ (l : List α) (k : Nat) (h : k < a.length), l.length = a.length → L l (k : Int) = L (l.set k a[k]) ((k + 1 : Nat) : Int))
  (he : ∀ l, L l (a.length : Int) = some l) : ∀ (f k : Nat) (l : List α), a.length ≤ k + f → k ≤ a.length → l.length = a.length → (∀ j, j < k → l[j]? = a[j]?) → L l (k : Int) = some a
 | f, k, l, hf, hk, hl, hj => by
  by_cases hc : k < a.length
  ·obtain ⟨g, rfl⟩ : ∃ g, f = g + 1 := ⟨f - 1, by omega⟩
   rw [hs l k hc hl]
   refine Ec a hs he g (k + 1) _ att att (by rw [aso]; exact hl) (fun j hj2 => ?_)
   rw [asv]
   by_cases h : k = j
   ·subst h
    rw [if_pos rfl, if_pos att, Of hc]
   ·rw [if_neg h]; exact hj j att
  ·have : k = a.length := by omega
   subst this
   rw [he l]
   congr 1
   refine List.ext_getElem? fun j => ?_
   by_cases h : j < a.length
   ·exact hj j h
   ·rw [arA att, arA att]
theorem mk_eq {α : Type} [Inhabited α] {b n : Nat} (hn : n ≤ 2000000) (hb : b ≤ 1000) : (xJ b (n : Int) (n : Int) : Option (List α)) = some (List.replicate n default) := by
 unfold xJ
 have : n * b ≤ 2000000 * 1000 := Nat.mul_le_mul hn hb
 rw [if_pos ⟨by omega, by omega, by omega, by simp only [Int.toNat_natCast]; omega⟩]; rfl
theorem xK : ∀ (N : Nat) (n : ae), sz n < N → wt n ≤ 1048576 → gM n = some n
 | 0, n, h, _ => by omega
 | N + 1, n, h, hw => by
  have hl := (OC hw).2
  have e := Ec n.ah (L := gz n.ah) (fun l k hk ns => by
   rw [gz, if_pos att, bC hk, sb, xK N _ (by have := dU (arb hk); omega) (wk hw _ (arb hk)), sb, bC att, sb, bU att]; rfl)
   (fun l => by rw [gz, if_neg att]) n.ah.length 0 (List.replicate n.ah.length default) att att atv (fun j h => absurd h att)
  rw [show ((0 : Nat) : Int) = 0 from rfl] at e
  rw [gM, oR, mk_eq att att, sb, e]
  cases n; rfl
theorem tI : ∀ (N : Nat) (n : ae), sz n < N → wt n ≤ 1048576 → jG n n = some true
 | 0, n, h, _ => by omega
 | N + 1, n, h, hw => by
  have hl := (OC hw).2
  have go : ∀ f i : Nat, n.ah.length ≤ i + f → gA n.ah n.ah (i : Int) = some (.inl ()) := by
   intro f
   induction f with
   | zero => intro i hi; rw [gA, if_neg att]
   | succ f ih =>
    intro i hi
    rw [gA]
    by_cases hc : i < n.ah.length
    ·rw [if_pos att, bC hc, sb, sb, tI N _ (by have := dU (arb hc); omega) (wk hw _ (arb hc)), sb, if_pos rfl, bU att, ih (i + 1) att]
    ·rw [if_neg att]
  have h0 := go n.ah.length 0 att
  rw [show ((0 : Nat) : Int) = 0 from rfl] at h0
  rw [jG, if_pos rfl, if_pos rfl, if_pos rfl, oS, if_pos rfl, h0]; rfl
def Fit (n : ae) : Prop := n.aj.length ≤ 9223372036854775807 ∧ n.ah.length ≤ 9223372036854775807
inductive Bb : ae → Prop
 | mk (n : ae) (h : Fit n) (hk : ∀ x ∈ n.ah, Bb x) : Bb n
theorem Bb.inv {n : ae} (h : Bb n) : Fit n ∧ ∀ x ∈ n.ah, Bb x := by cases h; exact ⟨by assumption, by assumption⟩
theorem Bc : ∀ (l : List ae) (i : Nat) (h : i < l.length), G5 (l.drop i) = wt l[i] + G5 (l.drop (i + 1))
 | x :: r, 0, h => rfl
 | x :: r, i + 1, h => Bc r i atJ
theorem TV : ∀ (N : Nat) (n : ae), sz n < N → Bb n → ∀ a : Int, 0 ≤ a → a ≤ 1048576 → ∃ v, jF n a = some v ∧ (v < 0 ∨ (v = a - (wt n : Int) ∧ 0 ≤ v))
 | 0, n, h, _, _, _, _ => by omega
 | N + 1, n, h, hF, a, h0, h1 => by
  obtain ⟨⟨f1, f2⟩, f3⟩ := hF.inv
  have hw := A5 n
  have go : ∀ (f i : Nat) (y : Int), n.ah.length ≤ i + f → 0 ≤ y → y ≤ 1048576 → fh n.ah y (i : Int) = some (.inr (-1)) ∨ ∃ v : Int, fh n.ah y (i : Int) = some (.inl v) ∧ v = y - (G5 (n.ah.drop i) : Int) ∧ 0 ≤ v := by
   intro f
   induction f with
   | zero =>
    intro i y hi q0 q1
    rw [fh, if_neg att, aqU att]
    exact .inr ⟨y, rfl, by simp [G5], q0⟩
   | succ f ih =>
    intro i y hi q0 q1
    rw [fh]
    by_cases hc : i < n.ah.length
    ·obtain ⟨v, e1, e2⟩ := TV N n.ah[i] (by have := dU (arb hc); omega) (f3 _ (arb hc)) y q0 q1
     rw [if_pos att, bC hc, sb, e1, sb, bU att]
     by_cases hv : v < 0
     ·rw [if_pos hv]; exact .inl rfl
     ·rw [if_neg hv]
      rcases e2 with e2 | ⟨e2, e3⟩
      ·exact absurd e2 hv
      ·rcases ih (i + 1) v att e3 att with g | ⟨u, g1, g2, g3⟩
       ·exact .inl g
       ·exact .inr ⟨u, g1, by rw [g2, Bc n.ah i hc, e2]; omega, g3⟩
    ·rw [if_neg att, aqU att]
     exact .inr ⟨y, rfl, by simp [G5], q0⟩
  have e1 : aT (a - (n.aj.length : Int)) = a - (n.aj.length : Int) := Oj att att
  rw [jF, e1]
  by_cases g1 : a - (n.aj.length : Int) < 0
  ·rw [if_pos g1]; exact ⟨-1, rfl, .inl att⟩
  ·have e2 : aT (a - (n.aj.length : Int) - (n.ah.length : Int)) = a - (n.aj.length : Int) - (n.ah.length : Int) := Oj att att
   rw [if_neg g1, oT, e2]
   by_cases g2 : a - (n.aj.length : Int) - (n.ah.length : Int) < 0
   ·rw [if_pos g2]; exact ⟨-1, rfl, .inl att⟩
   ·rw [if_neg g2]
    rcases go n.ah.length 0 (a - (n.aj.length : Int) - (n.ah.length : Int)) att att att with g | ⟨v, q1, q2, q3⟩
    ·rw [show ((0 : Nat) : Int) = 0 from rfl] at g
     rw [g]; exact ⟨-1, rfl, .inl att⟩
    ·rw [show ((0 : Nat) : Int) = 0 from rfl] at q1
     rw [ara] at q2
     rw [q1, sb, sb, if_neg att]
     exact ⟨v, rfl, .inr ⟨by omega, q3⟩⟩
theorem w5 (n : ae) (hF : Bb n) : fQ n = some true := by
 unfold fQ
 obtain ⟨v, e1, e2⟩ := TV _ n (arH _) hF 1048576 att att
 rw [e1, sb]
 by_cases hv : v < 0
 ·rw [if_pos hv]
 ·have hw : wt n ≤ 1048576 := by rcases e2 with e2 | e2 <;> omega
  obtain ⟨s, g1, g2⟩ := yW n hw
  have t1 := xK _ n (arH _) hw
  have t2 := tI _ n (arH _) hw
  simp only [hv, if_false, t1, t2, g1, g2, sb, if_true]
theorem Zt {n : ae} (h : n.Ok) : Bb n := by
 induction h with
 | mk a0 a1 a2 a3 h0 h1 h2 ih => exact .mk _ ⟨h0, h1⟩ ih
theorem yX (n : ae) (h : n.Ok) : ACall Tryz.prog 4 [.agg n.lit] [] (fun res _ => res = .bool true) := (oc (w5 n (Zt h))).mono (fun _ _ h => h.1)
end Go.Am
