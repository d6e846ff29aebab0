/- Texts of the proof, joined and shortened. -/
import Derived.Test.YtiigfbapjeefbaaGreatDoorPk8
set_option linter.unusedVariables false
set_option linter.unusedSimpArgs false
set_option maxRecDepth 100000
namespace Go.Am
open Go Go.RowKit Go.Proofs
theorem vk (m : Int) (h1 : 1 ≤ m) (h2 : m ≤ 15) : (Ba m).length ≤ 3 := by
 obtain ⟨k, rfl⟩ : ∃ k : Nat, m = (k : Int) := ⟨m.toNat, by omega⟩
 have h3 : k ≤ 15 := by omega
 have h4 : 1 ≤ k := by omega
 match k, h3, h4 with
 | 1, _, _ => decide
 | 2, _, _ => decide
 | 3, _, _ => decide
 | 4, _, _ => decide
 | 5, _, _ => decide
 | 6, _, _ => decide
 | 7, _, _ => decide
 | 8, _, _ => decide
 | 9, _, _ => decide
 | 10, _, _ => decide
 | 11, _, _ => decide
 | 12, _, _ => decide
 | 13, _, _ => decide
 | 14, _, _ => decide
 | 15, _, _ => decide
 | 0, _, h => omega
 | k + 16, h, _ => omega
theorem Kx (t : ar) : (qt t).length ≤ 2 * t.length + 2 := by
 have := rE t
 simp only [qt, An, an, mg]; omega
theorem Zl (t : ar) : 1 ≤ (qt t).length := by
 simp only [qt, An, an, mg]; omega
section
variable {X Y : ae → ar}
theorem du (n : ae) (k : Int) : (nu X n k).length ≤ (X n).length + 2 := by
 unfold nu
 split
 ·simp only [An, an, mg]; omega
 ·omega
theorem Ky (n : ae) (k : Int) (h : 1 ≤ (X n).length) : 1 ≤ (nu X n k).length := by
 unfold nu
 split
 ·simp only [An, an, mg]; omega
 ·omega
def Bd (X : ae → ar) (x : ae) : Prop := 1 ≤ (X x).length ∧ (X x).length + 24 ≤ 4194304 * sz x
theorem Kz : ∀ (l : List ae) (f : Bool), (∀ x ∈ l, Bd X x) → (jn X f l).length ≤ 4194304 * ij l
 | [], f, _ => by simp [jn]
 | x :: r, f, h => by
  have h1 := Kz r false (fun y hy => h y aua)
  have h2 := (h x atw).2
  have h3 := du (X := X) x 1
  rw [jn, ij]
  cases f <;> simp only [cond_true, cond_false, An, an, mg] <;> omega
theorem pE (l : List ae) (h : ∀ x ∈ l, Bd X x) : (iW X l).length ≤ 4194304 * ij l + 2 := by
 have := Kz l true h
 simp only [iW, An, an, mg]; omega
theorem Zm (x : ae) (h : ∀ y ∈ x.ah, Bd X y) : (Zk X x).length + 20 ≤ 4194304 * sz x := by
 have hs := mb x
 unfold Zk
 generalize x.ah = ks at *
 match ks, h, hs with
 | [], _, _ => simp; omega
 | [a], h, hs =>
  have h2 := (h a atw).2
  have h3 := du (X := X) a 1
  simp only [ij] at hs
  show (nu X a 1).length + 20 ≤ _
  omega
 | a :: b :: r, h, hs =>
  have h2 := (h a atw).2
  have h3 := du (X := X) a 1
  have h4 := (h b atw).2
  have h5 := du (X := X) b 1
  simp only [ij] at hs
  show (nu X a 1 ++ [32, 61, 62, 32] ++ nu X b 1).length + 20 ≤ _
  simp only [An, an, mg]
  omega
theorem D9 : ∀ (l : List ae) (f : Bool), (∀ x ∈ l, ∀ y ∈ x.ah, Bd X y) → (vj X f l).length ≤ 4194304 * ij l
 | [], f, _ => by simp [vj]
 | x :: r, f, h => by
  have h1 := D9 r false (fun y hy => h y aua)
  have h2 := Zm x (h x atw)
  rw [vj, ij]
  cases f <;> simp only [cond_true, cond_false, An, an, mg] <;> omega
theorem yZ (k : Int) : ∀ (l : List ae) (f : Bool), (∀ x ∈ l, x.aj.length ≤ 1048576) → (uj k f l).length ≤ 1048584 * ij l
 | [], f, _ => by simp [uj]
 | x :: r, f, h => by
  have h0 := yZ k r f (fun y hy => h y aua)
  have h1 := yZ k r false (fun y hy => h y aua)
  have h2 := h x atw
  have h3 := my x
  rw [uj, ij]
  cases (x.ai == k)
  ·simp only [cond_false]; omega
  ·cases f <;> cases (x.aD == 1) <;> simp only [cond_true, cond_false, An, an, mg] <;> omega
theorem vl (k : Int) (z : ae) (hz : (z.ai == k) = false) : ∀ (l : List ae) (f : Bool), uj k f (l ++ [z]) = uj k f l
 | [], f => by simp [uj, hz]
 | x :: r, f => by
  rw [aqS, uj, uj, vl k z hz r, vl k z hz r]
theorem y0 : ∀ (l : List ae) (z : ae), ij (l ++ [z]) = ij l + sz z
 | [], z => by simp [ij]
 | x :: r, z => by rw [aqS, ij, ij, y0 r z]; omega
theorem qy (k : Int) (l : List ae) (z : ae) (hz : (z.ai == k) = false) (h : ∀ x ∈ l, x.aj.length ≤ 1048576) : (params (l ++ [z]) k).length ≤ 1048584 * ij l + 2 := by
 have := yZ k l true h
 rw [params, vl k z hz]
 simp only [An, an, mg]; omega
theorem xM : ∀ (l : List ae), (∀ x ∈ l, Bd Y x) → (l.flatMap (fun x => Y x ++ [32])).length ≤ 4194304 * ij l
 | [], _ => by simp
 | x :: r, h => by
  have h1 := xM r (fun y hy => h y aua)
  have h2 := (h x atw).2
  rw [arE, ij]
  simp only [An, an, mg]; omega
theorem bI {l : List ae} {P : ae → Bool} (h : l.all P = true) : ∀ x ∈ l, P x = true := by simpa using h
theorem Zn {k m : Int} {t : ar} {ks : List ae} {s : ar} (h : PX X Y k m t ks s) (ht : t.length ≤ 1048576) (hk : ∀ x ∈ ks, x.aj.length ≤ 1048576)
  (hX : ∀ x ∈ ks, vE x = true → Bd X x) (hX2 : ∀ x ∈ ks, ∀ y ∈ x.ah, vE y = true → Bd X y) (hY : ∀ x ∈ ks, vQ x = true → Bd Y x) : 1 ≤ s.length ∧ s.length + 24 ≤ 4194304 * (1 + ij ks) := by
 cases h
 case num h0 h1 => have := J4 m h0 h1; omega
 case txt h0 => have := Kx t; have := Zl t; omega
 case cst h0 h1 =>
  unfold ON
  by_cases q : m = 0
  ·simp [q]; omega
  ·by_cases q2 : m = 1 <;> simp [q, q2] <;> omega
 case var => simp; omega
 case arr h =>
  have h1 := D9 (X := X) ks true (fun x hx y hy => by
   have h3 := bI h x hx
   simp only [A8, As] at h3
   exact hX2 x hx y hy (bI h3.2.2.2.2 y hy))
  simp only [An, an, mg]; omega
 case ref a =>
  have h1 := hk a atw
  have := my a
  simp only [ij, An, an, mg]; omega
 case call h =>
  have h1 := pE (X := X) ks (fun x hx => hX x hx (bI h x hx))
  have h2 : 1 ≤ (iW X ks).length := by simp [iW]
  simp only [An, an, mg]; omega
 case stat h =>
  have h1 := pE (X := X) ks (fun x hx => hX x hx (bI h x hx))
  have h2 : 1 ≤ (iW X ks).length := by simp [iW]
  simp only [An, an, mg]; omega
 case new h =>
  have h1 := pE (X := X) ks (fun x hx => hX x hx (bI h x hx))
  simp only [An, an, mg]; omega
 case OO a r ha h h8 =>
  have h1 := pE (X := X) r (fun x hx => hX x atH (bI h x hx))
  have h2 := hX a atw ha
  unfold Bd at h2
  simp only [ij, An, an, mg]; omega
 case dyn a r ha h h8 =>
  have h1 := pE (X := X) r (fun x hx => hX x atH (bI h x hx))
  have h2 := hX a atw ha
  have h3 := du (X := X) a 12
  have h4 := Ky a 12 h2.1
  unfold Bd at h2
  simp only [ij, An, an, mg]; omega
 case met a r ha h =>
  have h1 := pE (X := X) r (fun x hx => hX x atH (bI h x hx))
  have h2 := hX a atw ha
  have h3 := du (X := X) a 12
  unfold Bd at h2
  simp only [ij, An, an, mg]; omega
 case kZ l z hu sR ns hz =>
  have h1 := qy 24 l z (by rw [ns]; rfl) (fun x hx => hk x atH)
  have h2 := hY z atw (jH hz)
  unfold Bd at h2
  rw [y0]
  simp only [An, an, mg]; omega
 case OP l z hu sR ns hz =>
  have h1 := qy 24 l z (by rw [ns]; rfl) (fun x hx => hk x atH)
  have h3 := qy 25 l z (by rw [ns]; rfl) (fun x hx => hk x atH)
  have h2 := hY z atw (jH hz)
  unfold Bd at h2
  rw [y0]
  simp only [An, an, mg]; omega
 case un a ha h0 h1 =>
  have h2 := hX a atw ha
  have h3 := du (X := X) a 11
  have h4 := Ky a 11 h2.1
  have h5 : (unW m).length = 1 := by unfold unW; split <;> rfl
  unfold Bd at h2
  simp only [ij, An, h5]; omega
 case fld a ha =>
  have h2 := hX a atw ha
  have h3 := du (X := X) a 12
  unfold Bd at h2
  simp only [ij, An, an, mg]; omega
 case bin a b ha hb h0 h1 =>
  have h2 := hX a atw ha
  have h3 := hX b atw hb
  have h4 := du (X := X) a (mz m)
  have h5 := du (X := X) b (mz m + 1)
  have h6 := vk m h0 h1
  unfold Bd at h2 h3
  simp only [two, ij, An, an, mg]; omega
 case cond a b c ha hb hc =>
  have h2 := hX a atw ha
  have h3 := hX b atw hb
  have h7 := hX c atw hc
  have h4 := du (X := X) a 3
  have h5 := du (X := X) b 1
  have h6 := du (X := X) c 2
  unfold Bd at h2 h3 h7
  simp only [two, ij, An, an, mg]; omega
 all_goals
  rename_i a b ha hb
  have h2 := hX a atw ha
  have h3 := hX b atw hb
  have g1 := du (X := X) a 4
  have g2 := du (X := X) a 5
  have g3 := du (X := X) a 12
  have g4 := du (X := X) b 1
  have g5 := du (X := X) b 3
  have g6 := du (X := X) b 5
  have g7 := du (X := X) b 6
  unfold Bd at h2 h3
  simp only [two, ij, An, an, mg]; omega
theorem Zo {k m : Int} {t : ar} {ks : List ae} {s : ar} (h : PS X Y k m t ks s) (ht : t.length ≤ 1048576) (hk : ∀ x ∈ ks, x.aj.length ≤ 1048576)
  (hX : ∀ x ∈ ks, vE x = true → Bd X x) (hY : ∀ x ∈ ks, vQ x = true → Bd Y x) : 1 ≤ s.length ∧ s.length + 24 ≤ 4194304 * (1 + ij ks) := by
 cases h
 case vi h =>
  have h1 := xM (Y := Y) ks (fun x hx => hY x hx (jH (bI h x hx)))
  simp only [An, an, mg]; omega
 case inc h0 =>
  have := Kx t
  simp only [ij, An, an, mg]; omega
 case if2 a b ha hb kb =>
  have h2 := hX a atw ha
  have h3 := hY b atw (jH hb)
  have g1 := du (X := X) a 1
  unfold Bd at h2 h3
  simp only [ij, An, an, mg]; omega
 case if3 a b c ha hb kb hc kc =>
  have h2 := hX a atw ha
  have h3 := hY b atw (jH hb)
  have h4 := hY c atw (jH hc)
  have g1 := du (X := X) a 1
  unfold Bd at h2 h3 h4
  simp only [ij, An, an, mg]; omega
 case whl a b ha hb kb =>
  have h2 := hX a atw ha
  have h3 := hY b atw (jH hb)
  have g1 := du (X := X) a 1
  unfold Bd at h2 h3
  simp only [ij, An, an, mg]; omega
 case fe3 a b c ha hc kc =>
  have h2 := hX a atw ha
  have h3 := hY c atw (jH hc)
  have h4 := hk b atw
  have h5 := my b
  have g1 := du (X := X) a 1
  unfold Bd at h2 h3
  simp only [ij, An, an, mg]; omega
 case fe4 a b c d ha hd kd =>
  have h2 := hX a atw ha
  have h3 := hY d atw (jH hd)
  have h4 := hk b atw
  have h5 := my b
  have h6 := hk c atw
  have h7 := my c
  have g1 := du (X := X) a 1
  unfold Bd at h2 h3
  simp only [ij, An, an, mg]; omega
 case yl2 a b ha hb =>
  have h2 := hX a atw ha
  have h3 := hX b atw hb
  have h4 := hk a atw
  have g1 := du (X := X) b 1
  unfold Bd at h2 h3
  simp only [ij, An, an, mg]; omega
 case CD a b ha ka hb =>
  have h2 := hY a atw (jH ha)
  have h3 := hY b atw (Kv hb)
  unfold Bd at h2 h3
  simp only [ij, An, an, mg]; omega
 case CE a b ha ka hb =>
  have h2 := hY a atw (jH ha)
  have h3 := hY b atw (Kw hb)
  unfold Bd at h2 h3
  simp only [ij, An, an, mg]; omega
 case A9 a b c ha ka hb hc =>
  have h2 := hY a atw (jH ha)
  have h3 := hY b atw (Kv hb)
  have h4 := hY c atw (Kw hc)
  unfold Bd at h2 h3 h4
  simp only [ij, An, an, mg]; omega
 case cat a b ha ka hb kb =>
  have h2 := hX a atw ha
  have h3 := hY b atw (jH hb)
  have h4 := hk a atw
  unfold Bd at h2 h3
  simp only [ij, An, an, mg]; omega
 case fin a ha ka =>
  have h2 := hY a atw (jH ha)
  unfold Bd at h2
  simp only [ij, An, an, mg]; omega
 case htm => simp only [ij, An, an, mg]; omega
 case glb => simp only [ij, An, an, mg]; omega
 case brk => simp [ij]
 case cont => simp [ij]
 case Kt => simp [ij]
 all_goals
  rename_i a ha
  have h2 := hX a atw ha
  have g1 := du (X := X) a 1
  have g3 := du (X := X) a 12
  unfold Bd at h2
  simp only [ij, An, an, mg]; omega
end
set_option maxRecDepth 100000
theorem aK {a b : ar} (h : a.length + b.length ≤ 4611686018427387904) : aH a b = some (a ++ b) := if_pos h
theorem aiV (n : ae) : jW n = some (lvl n) := by
 unfold jW lvl
 generalize n.ai = k
 have yW : dc n.aD = some (mz n.aD) := by
  unfold mz dc
  repeat' split
  all_goals rfl
 rw [yW]
 by_cases Kf : k = 15
 ·subst Kf; rfl
 by_cases Kg : k = 16
 ·subst Kg; rfl
 by_cases OA : k = 17
 ·subst OA; rfl
 by_cases Ke : k = 14
 ·subst Ke; rfl
 by_cases Ff : k = 13
 ·subst Ff; rfl
 by_cases Fe : k = 12
 ·subst Fe; rfl
 by_cases Fc : k = 11
 ·subst Fc; rfl
 by_cases yW : k = 10
 ·subst yW; rfl
 by_cases h9 : k = 9
 ·subst h9; rfl
 rw [if_neg Kf, if_neg Kg, if_neg (show ¬ (k = 15 ∨ k = 16 ∨ k = 17) by omega), beq_eq_false_iff_ne.2 OA, sb]
 rw [if_neg atC, if_neg Ke, if_neg Ke, if_neg Ff, if_neg Ff, if_neg Fe, if_neg Fe, if_neg Fc, if_neg Fc, if_neg yW, if_neg yW, if_neg h9, if_neg h9]
section
variable {X Y : ae → ar}
def OX (X : ae → ar) (x : ae) : Prop := fN x = some (X x) ∧ (X x).length ≤ 1099511627776
def OY (Y : ae → ar) (x : ae) : Prop := bm x = some (Y x) ∧ (Y x).length ≤ 1099511627776
theorem oe {x : ae} (h : OX X x) (k : Int) : bO x k = some (nu X x k) := by
 obtain ⟨h1, h2⟩ := h
 rw [bO, aiV, sb, h1, sb, sb, aK atF, sb, aK atz, sb, nu]
 split <;> rfl
theorem aiW (ks : List ae) (c : Nat) (h : ∀ x ∈ ks.drop c, OX X x) (hl : ks.length ≤ 1048576) : ∀ (f i : Nat) (s : ar), ks.length ≤ i + f → c ≤ i → s.length + (jn X (decide (i = c)) (ks.drop i)).length ≤ 1099511627776 →
  e9 ks (c : Int) s (i : Int) = some (s ++ jn X (decide (i = c)) (ks.drop i))
 | f, i, s, hf, hc, hb => by
  rw [e9]
  by_cases hi : i < ks.length
  ·obtain ⟨g, rfl⟩ : ∃ g, f = g + 1 := ⟨f - 1, by omega⟩
   have hd := aqY hi
   have hx : OX X ks[i] := h _ (by
    rw [show ks.drop c = (ks.drop c) from rfl]
    exact arX.2 ⟨i - c, by simp; omega, by simp [show c + (i - c) = i by omega]⟩)
   have oB : decide (i + 1 = c) = false := decide_eq_false atu
   have IH : ∀ u : ar, u.length + (jn X false (ks.drop (i + 1))).length ≤ 1099511627776 → e9 ks (c : Int) u ((i + 1 : Nat) : Int) = some (u ++ jn X false (ks.drop (i + 1))) := fun u nr => by
    rw [aiW ks c h hl g (i + 1) u atu atu aub, oB]
   rw [hd, jn] at hb
   rw [if_pos atu, bB hi, bU atu, hd, jn]
   by_cases he : i = c
   ·rw [decide_eq_true he] at hb ⊢
    simp only [cond_true, An, an, mg] at hb
    rw [if_neg atu]
    simp (disch := first | omega | (simp only [An, an, mg]; omega)) only [aK, sb, oe hx, IH, cond_true, amb, aqR, aqS]
   ·rw [decide_eq_false he] at hb ⊢
    simp only [cond_false, An, an, mg] at hb
    rw [if_pos atu]
    simp (disch := first | omega | (simp only [An, an, mg]; omega)) only [aK, sb, oe hx, IH, cond_false, amb, aqR, aqS]
  ·rw [if_neg atu, aqV atu]; simp [jn]
theorem KA (ks : List ae) (c : Nat) (h : ∀ x ∈ ks.drop c, OX X x) (hl : ks.length ≤ 1048576) (hb : (iW X (ks.drop c)).length ≤ 1099511627776) : eJ ks (c : Int) = some (iW X (ks.drop c)) := by
 have kr := hb
 simp only [iW, An, an, mg] at hb
 have h0 := aiW ks c h hl ks.length c [] atu atu aty
 rw [decide_eq_true rfl] at h0
 rw [eJ, h0, sb, aqR, aK atF, sb, aK atz]
 rfl
theorem KB (ks : List ae) (k : Int) (hl : ks.length ≤ 1048576) : ∀ (f i : Nat) (s : ar), ks.length ≤ i + f → s.length + (uj k (s == ([] : ar)) (ks.drop i)).length ≤ 1099511627776 →
  cR ks k s (i : Int) = some (s ++ uj k (s == ([] : ar)) (ks.drop i))
 | f, i, s, hf, hb => by
  rw [cR]
  by_cases hi : i < ks.length
  ·obtain ⟨g, rfl⟩ : ∃ g, f = g + 1 := ⟨f - 1, by omega⟩
   have hd := aqY hi
   rw [hd, uj] at hb
   rw [if_pos atu, bB hi, sb, bU atu, hd, uj]
   generalize ks[i] = x at hb
   by_cases hk : x.ai = k
   ·rw [if_pos hk, hk, asj, cond_true]
    rw [hk, asj, cond_true] at hb
    have IH : ∀ u : ar, u ≠ [] → u.length + (uj k false (ks.drop (i + 1))).length ≤ 1099511627776 → cR ks k u ((i + 1 : Nat) : Int) = some (u ++ uj k false (ks.drop (i + 1))) := fun u hu nr => by
     have e1 : (u == ([] : ar)) = false := beq_eq_false_iff_ne.2 hu
     rw [KB ks k hl g (i + 1) u atu (by rw [e1]; exact nr), e1]
    by_cases hs : s = ([] : ar) <;> by_cases hn : x.aD = 1
    all_goals
     first | rw [hs] at hb ⊢ | skip
     first | rw [if_pos rfl] | rw [if_neg hs]
     first | rw [hn] at hb ⊢ | rw [beq_eq_false_iff_ne.2 hn] at hb ⊢
     first | rw [show (([] : ar) == ([] : ar)) = true from rfl] at hb ⊢ | rw [beq_eq_false_iff_ne.2 hs] at hb ⊢
     simp only [cond_true, cond_false, asj, An, an, mg] at hb
     simp (disch := first | omega | (simp only [An, an, mg]; omega) | simp) only [aK, sb, IH, hn, if_true, if_false, cond_true, cond_false, asj, amb, aqR, aqS]
   ·rw [if_neg hk, beq_eq_false_iff_ne.2 hk, cond_false]
    rw [beq_eq_false_iff_ne.2 hk, cond_false] at hb
    exact KB ks k hl g (i + 1) s atu hb
  ·rw [if_neg atu, aqV atu]; simp [uj]
theorem vm (ks : List ae) (k : Int) (hl : ks.length ≤ 1048576) (hb : (params ks k).length ≤ 1099511627776) : gg ks k = some (params ks k) := by
 have h0 := KB ks k hl ks.length 0 [] atu (by rw [arb]; simp only [params, An, an, mg] at hb; rw [show (([] : ar) == ([] : ar)) = true from rfl]; simp only [mg]; omega)
 rw [show ((0 : Nat) : Int) = 0 from rfl, arb, aqR, show (([] : ar) == ([] : ar)) = true from rfl] at h0
 simp only [params, An, an, mg] at hb
 unfold gg
 rw [h0]
 simp (disch := first | omega | (simp only [An, an, mg]; omega)) only [aK, sb, params]
theorem TS (n : ae) (h : ∀ x ∈ n.ah, ∀ y ∈ x.ah, OX X y) (hp : ∀ x ∈ n.ah, 1 ≤ (x.ah.length : Int) ∧ (x.ah.length : Int) ≤ 2) (hl : n.ah.length ≤ 1048576) : ∀ (f i : Nat) (s : ar), n.ah.length ≤ i + f → s.length + (vj X (decide (i = 0)) (n.ah.drop i)).length ≤ 1099511627776 →
  dR n s (i : Int) = some (s ++ vj X (decide (i = 0)) (n.ah.drop i))
 | f, i, s, hf, hb => by
  rw [dR]
  by_cases hi : i < n.ah.length
  ·obtain ⟨g, rfl⟩ : ∃ g, f = g + 1 := ⟨f - 1, by omega⟩
   have hd := aqY hi
   have hx := h _ (arc hi)
   have Fh := hp _ (arc hi)
   have oB : decide (i + 1 = 0) = false := decide_eq_false atu
   have IH : ∀ u : ar, u.length + (vj X false (n.ah.drop (i + 1))).length ≤ 1099511627776 → dR n u ((i + 1 : Nat) : Int) = some (u ++ vj X false (n.ah.drop (i + 1))) := fun u nr => by
    rw [TS n h hp hl g (i + 1) u atu aub, oB]
   rw [hd, vj, Zk] at hb
   rw [if_pos atu, bB hi, bU atu, hd, vj, Zk]
   generalize n.ah[i] = x at *
   generalize wJ : x.ah = ks at *
   rcases ks with _ | ⟨a, _ | ⟨b, _ | ⟨c, r⟩⟩⟩
   ·simp at Fh
   ·have ha := hx a atw
    by_cases he : i = 0
    ·rw [decide_eq_true he] at hb ⊢
     simp only [cond_true, An, an, mg] at hb
     rw [if_neg atu]
     simp (disch := first | omega | (simp only [An, an, mg]; omega)) only [aK, sb, oe ha, aY, wJ, IH, cond_true, amb, aqR, aqS, an, mg]
     rw [if_neg atC]
    ·rw [decide_eq_false he] at hb ⊢
     simp only [cond_false, An, an, mg] at hb
     rw [if_pos atu]
     simp (disch := first | omega | (simp only [An, an, mg]; omega)) only [aK, sb, oe ha, aY, wJ, IH, cond_false, amb, aqR, aqS, an, mg]
     rw [if_neg atC]
   ·have ha := hx a atw
    have nv := hx b atw
    by_cases he : i = 0
    ·rw [decide_eq_true he] at hb ⊢
     simp only [cond_true, An, an, mg] at hb
     rw [if_neg atu]
     simp (disch := first | omega | (simp only [An, an, mg]; omega)) only [aK, sb, oe ha, oe nv, aY, eK, wJ, IH, cond_true, amb, aqR, aqS, an, mg]
     rw [if_pos atC]
    ·rw [decide_eq_false he] at hb ⊢
     simp only [cond_false, An, an, mg] at hb
     rw [if_pos atu]
     simp (disch := first | omega | (simp only [An, an, mg]; omega)) only [aK, sb, oe ha, oe nv, aY, eK, wJ, IH, cond_false, amb, aqR, aqS, an, mg]
     rw [if_pos atC]
   ·simp at Fh; omega
  ·rw [if_neg atu, aqV atu]; simp [vj]
def me (Y : ae → ar) (l : List ae) : ar := l.flatMap fun x => bif x.ai == 52 then [] else Y x ++ [32]
theorem KC (l : List ae) (h : ∀ x ∈ l, ¬ x.ai = 52 → OY Y x) (hl : l.length ≤ 1048576) : ∀ (f i : Nat) (s : ar), l.length ≤ i + f → s.length + (me Y (l.drop i)).length ≤ 1099511627776 →
  fe l s (i : Int) = some (s ++ me Y (l.drop i))
 | f, i, s, hf, hb => by
  rw [fe]
  by_cases hi : i < l.length
  ·obtain ⟨g, rfl⟩ : ∃ g, f = g + 1 := ⟨f - 1, by omega⟩
   have hd := aqY hi
   have hx := h _ (arc hi)
   have IH : ∀ u : ar, u.length + (me Y (l.drop (i + 1))).length ≤ 1099511627776 → fe l u ((i + 1 : Nat) : Int) = some (u ++ me Y (l.drop (i + 1))) := fun u nr => KC l h hl g (i + 1) u atu nr
   rw [hd, me, arE] at hb
   change s.length + ((bif l[i].ai == 52 then [] else Y l[i] ++ [32]) ++ me Y (l.drop (i + 1))).length ≤ _ at hb
   rw [if_pos atu, bB hi, bU atu, hd, me, arE]
   change _ = some (s ++ ((bif l[i].ai == 52 then [] else Y l[i] ++ [32]) ++ me Y (l.drop (i + 1))))
   generalize l[i] = x at *
   by_cases hk : x.ai = 52
   ·rw [hk] at hb ⊢
    simp only [asj, cond_true, aqR] at hb ⊢
    rw [sb, if_pos hk, IH s hb]
   ·rw [beq_eq_false_iff_ne.2 hk] at hb ⊢
    simp only [cond_false, An, an, mg] at hb
    rw [sb, if_neg hk]
    simp (disch := first | omega | (simp only [An, an, mg]; omega)) only [aK, sb, (hx hk).1, IH, cond_false, amb, aqR, aqS]
  ·rw [if_neg atu, aqV atu]; simp [me]
theorem KD (l : List ae) (h : ∀ x ∈ l, ¬ x.ai = 52) : me Y l = l.flatMap fun x => Y x ++ [32] := by
 induction l with
 | nil => rfl
 | cons x r ih =>
  have := ih (fun y hy => h y aua)
  rw [me] at this ⊢
  rw [arE, arE, this, beq_eq_false_iff_ne.2 (h x atw)]; rfl
end
set_option maxRecDepth 100000
theorem KE (m : Int) : dc m = some (mz m) ∧ 6 ≤ mz m ∧ mz m ≤ 10 := by
 unfold mz dc
 repeat' split
 all_goals exact ⟨rfl, by decide, by decide⟩
theorem Zp (m : Int) (h1 : 1 ≤ m) (h2 : m ≤ 15) : jd m = some (Ba m) := by
 obtain ⟨s, e, _⟩ := sOp m h1 h2
 rw [Ba, e]; rfl
theorem aiX (m : Int) (h1 : 0 ≤ m) (h2 : m ≤ 2) : ko ([[110, 117, 108, 108], [102, 97, 108, 115, 101], [116, 114, 117, 101]] : List ar) m = some (ON m) := by
 rcases (by omega : m = 0 ∨ m = 1 ∨ m = 2) with h | h | h <;> subst h <;> rfl
theorem ao3 (m : Int) (h1 : 1 ≤ m) (h2 : m ≤ 2) : ko ([[], [33], [45]] : List ar) m = some (unW m) := by
 rcases (by omega : m = 1 ∨ m = 2) with h | h <;> subst h <;> rfl
theorem Bb (a : Bool) : ∀ (l : List ae) (b : Bool), vg a b l = true → (b = true ∨ ∃ x ∈ l, x.ai = 25) → l ≠ [] → ∃ l' w, l = l' ++ [w] ∧ w.ai = 25
 | [], b, _, _, h => absurd rfl h
 | [x], b, hu, he, _ => by
  refine ⟨[], x, rfl, ?_⟩
  simp only [vg, As, arD, beq_iff_eq] at hu
  rcases hu.1 with h | h
  ·exact h.1
  ·rcases he with q | ⟨y, q1, q2⟩
   ·simp [q] at h
   ·simp at q1; subst q1; exact q2
 | x :: y :: r, b, hu, he, _ => by
  rw [vg] at hu
  simp only [As] at hu
  obtain ⟨l', w, h1, h2⟩ := Bb a (y :: r) _ hu.2.2.2.2 (by
   rcases he with q | ⟨z, q1, q2⟩
   ·left; simp [q]
   ·rcases aqZ.1 q1 with q3 | q3
    ·left; rw [← q3, q2]; simp
    ·right; exact ⟨z, q3, q2⟩) atw
  exact ⟨x :: l', w, by rw [h1]; rfl, h2⟩
section
variable {X Y : ae → ar}
theorem aiY (n a b : ae) (r : List ae) (i : Int) (s : ar) (j : Int) (hk : n.ah = a :: b :: r) (ha : OX X a) (hb : OX X b) (hl : (two X a i s b j).length ≤ 1099511627776) : eg n i s j = some (two X a i s b j) := by
 simp only [two, An] at hl
 rw [eg, hk]
 simp (disch := first | omega | (simp only [An, an, mg]; omega)) only [aY, eK, sb, oe ha, oe hb, aK, two]
set_option maxHeartbeats 4000000 in
theorem OQ (n : ae) {s : ar} (h : PX X Y n.ai n.aD n.aj n.ah s) (hw : wt n ≤ 1048576) (hs : s.length ≤ 1099511627776)
  (HX : ∀ x ∈ n.ah, vE x = true → OX X x) (HX2 : ∀ x ∈ n.ah, ∀ y ∈ x.ah, vE y = true → OX X y) (HY : ∀ x ∈ n.ah, vQ x = true → OY Y x) : fN n = some s := by
 have hl := (OI hw).2
 have hT : ∀ a b r i s j, n.ah = a :: b :: r → OX X a → OX X b → (two X a i s b j).length ≤ 1099511627776 → eg n i s j = some (two X a i s b j) := fun a b r i s j => aiY n a b r i s j
 have hL : n.ah.all (A8 vE) = true → (vj X true n.ah).length ≤ 1099511627776 → dR n [] 0 = some (vj X true n.ah) := fun h1 h2 => by
  have := TS n (X := X) (fun x hx y hy => by
   have h3 := bI h1 x hx
   simp only [A8, As] at h3
   exact HX2 x hx y hy (bI h3.2.2.2.2 y hy)) (fun x hx => by
   have h3 := bI h1 x hx
   simp only [A8, As] at h3
   exact of_decide_eq_true h3.2.2.2.1) hl n.ah.length 0 [] atu (by rw [arb]; simpa using h2)
  rw [show ((0 : Nat) : Int) = 0 from rfl, arb] at this
  exact this
 rw [fN]
 have mA : ∀ ks : List ae, ks.length ≤ 1048576 → (∀ x ∈ ks, OX X x) → (iW X ks).length ≤ 1099511627776 → eJ ks 0 = some (iW X ks) := fun ks hl h hb => by
  have := KA (X := X) ks 0 h hl hb; exact this
 have hj1 : ∀ (a : ae) (ks : List ae), (a :: ks).length ≤ 1048576 → (∀ x ∈ ks, OX X x) → (iW X ks).length ≤ 1099511627776 → eJ (a :: ks) 1 = some (iW X ks) := fun a ks hl h hb => by
  have := KA (X := X) (a :: ks) 1 h hl hb; exact this
 generalize n.ah = ks at *
 generalize n.aj = t at *
 generalize n.aD = m at *
 generalize n.ai = k at *
 cases h
 case num h0 h1 => rw [if_pos rfl, Zb m atu atu]; rfl
 case txt h0 => rw [if_neg atC, if_pos rfl, sQ t atu]; rfl
 case cst h0 h1 => rw [if_neg atC, if_neg atC, if_pos rfl, aiX m h0 h1]; rfl
 case var =>
  simp only [An, an, mg] at hs
  simp (disch := first | omega | (simp only [An, an, mg]; omega)) only [Int.reduceEq, if_true, if_false, sb, aK]
 case arr h =>
  simp only [An, an, mg] at hs
  rw [hL h atu]
  simp (disch := first | omega | (simp only [An, an, mg]; omega)) only [Int.reduceEq, if_true, if_false, sb, aK]
 case ref a =>
  simp only [An, an, mg] at hs
  simp (disch := first | omega | (simp only [An, an, mg]; omega)) only [Int.reduceEq, if_true, if_false, sb, aK, aY]
 case call h =>
  simp only [An, an, mg] at hs
  have e := mA ks hl (fun x hx => HX x hx (bI h x hx)) atu
  simp (disch := first | omega | (simp only [An, an, mg]; omega)) only [Int.reduceEq, if_true, if_false, sb, aK, e]
 case stat h =>
  simp only [An, an, mg] at hs
  have e := mA ks hl (fun x hx => HX x hx (bI h x hx)) atu
  simp (disch := first | omega | (simp only [An, an, mg]; omega)) only [Int.reduceEq, if_true, if_false, sb, aK, e]
 case new h =>
  simp only [An, an, mg] at hs
  have e := mA ks hl (fun x hx => HX x hx (bI h x hx)) atu
  simp (disch := first | omega | (simp only [An, an, mg]; omega)) only [Int.reduceEq, if_true, if_false, sb, aK, e]
 case OO a r ha h h8 =>
  simp only [An, an, mg] at hs
  have e := hj1 a r hl (fun x hx => HX x atH (bI h x hx)) atu
  have e2 := (HX a atw ha).1
  simp (disch := first | omega | (simp only [An, an, mg]; omega)) only [Int.reduceEq, if_true, if_false, sb, aK, e, aY, h8, e2]
 case dyn a r ha h h8 =>
  simp only [An, an, mg] at hs
  have e := hj1 a r hl (fun x hx => HX x atH (bI h x hx)) atu
  have e2 := oe (HX a atw ha) 12
  simp (disch := first | omega | (simp only [An, an, mg]; omega)) only [Int.reduceEq, if_true, if_false, sb, aK, e, aY, h8, e2]
 case met a r ha h =>
  simp only [An, an, mg] at hs
  have e := hj1 a r hl (fun x hx => HX x atH (bI h x hx)) atu
  have e2 := oe (HX a atw ha) 12
  simp (disch := first | omega | (simp only [An, an, mg]; omega)) only [Int.reduceEq, if_true, if_false, sb, aK, e, aY, e2]
 case kZ l z hu sR ns hz =>
  simp only [An, an, mg] at hs
  have e := vm (l ++ [z]) 24 hl atu
  have e2 := (HY z atw (jH hz)).1
  have e3 : aU (((l ++ [z]).length : Int) - 1) = (l.length : Int) := kN atw (by simp at hl; omega)
  rcases asl l with h5 | ⟨l', w, h5⟩
  ·subst h5
   rw [aqR] at *
   simp only [mg] at e3
   simp (disch := first | omega | (simp only [An, an, mg]; omega)) only [Int.reduceEq, if_true, if_false, sb, aK, e, e3]
   rw [if_neg (show ¬ (([z] : List ae).length : Int) > 1 by simp)]
   simp (disch := first | omega | (simp only [An, an, mg]; omega)) only [sb, aK, show (((0 : Nat) : Int)) = 0 from rfl, aY, e2]
  ·rw [asm] at h5
   have e4 : aU (((l ++ [z]).length : Int) - 2) = (l'.length : Int) := kN (by rw [h5]; simp <;> omega) (by rw [h5] at hl; simp at hl; omega)
   have e5 : idx (l ++ [z]) (l'.length : Int) = some w := by rw [h5, bB (by simp <;> omega)]; simp
   have e6 : ¬ w.ai = 25 := fun q => sR ⟨w, by rw [h5]; simp, q⟩
   have e7 : ((l ++ [z]).length : Int) > 1 := by rw [h5]; simp <;> omega
   simp (disch := first | omega | (simp only [An, an, mg]; omega)) only [Int.reduceEq, if_true, if_false, sb, aK, e, e3, e4, e5, e6, oQ, e2]
   rw [if_pos e7]; rfl
 case OP l z hu sR ns hz =>
  simp only [An, an, mg] at hs
  have e := vm (l ++ [z]) 24 hl atu
  have e8 := vm (l ++ [z]) 25 hl atu
  have e2 := (HY z atw (jH hz)).1
  have e3 : aU (((l ++ [z]).length : Int) - 1) = (l.length : Int) := kN atw (by simp at hl; omega)
  obtain ⟨l', w, h5, e6⟩ := Bb true l false hu (.inr sR) (by obtain ⟨x, q, _⟩ := sR; intro q2; rw [q2] at q; cases q)
  have e4 : aU (((l ++ [z]).length : Int) - 2) = (l'.length : Int) := kN (by rw [h5]; simp <;> omega) (by rw [h5] at hl; simp at hl; omega)
  have e5 : idx (l ++ [z]) (l'.length : Int) = some w := by rw [h5, bB (by simp <;> omega)]; simp
  have e7 : ((l ++ [z]).length : Int) > 1 := by rw [h5]; simp <;> omega
  simp (disch := first | omega | (simp only [An, an, mg]; omega)) only [Int.reduceEq, if_true, if_false, sb, aK, e, e3, e4, e5, e6, e8, oQ, e2]
  rw [if_pos e7]; rfl
 case un a ha h0 h1 =>
  simp only [An, an, mg] at hs
  have e2 := oe (HX a atw ha) 11
  simp (disch := first | omega | (simp only [An, an, mg]; omega)) only [Int.reduceEq, if_true, if_false, sb, aK, aY, e2, ao3 m h0 h1]
 case fld a ha =>
  simp only [An, an, mg] at hs
  have e2 := oe (HX a atw ha) 12
  simp (disch := first | omega | (simp only [An, an, mg]; omega)) only [Int.reduceEq, if_true, if_false, sb, aK, aY, e2]
 case bin a b ha hb h0 h1 =>
  obtain ⟨e1, e2, e3⟩ := KE m
  have e4 : aU (mz m + 1) = mz m + 1 := Ot atu atu
  have e5 := hT a b [] (mz m) ([32] ++ Ba m ++ [32]) (mz m + 1) rfl (HX a atw ha) (HX b atw hb) hs
  have e6 := vk m h0 h1
  simp only [Int.reduceEq, if_true, if_false]
  rw [e1, sb, Zp m h0 h1, sb, aK atF, sb, aK atz, sb, sb, e4, e5]; rfl
 case cond a b c ha hb hc =>
  simp only [An, an, mg] at hs
  have e5 := hT a b [c] 3 [32, 63, 32] 1 rfl (HX a atw ha) (HX b atw hb) atu
  have e6 := oe (HX c atw hc) 2
  simp (disch := first | omega | (simp only [An, an, mg]; omega)) only [Int.reduceEq, if_true, if_false, sb, aK, lf, e5, e6]
 case ix a b ha hb =>
  simp only [An, an, mg] at hs
  have e5 := hT a b [] 12 [91] 1 rfl (HX a atw ha) (HX b atw hb) atu
  simp (disch := first | omega | (simp only [An, an, mg]; omega)) only [Int.reduceEq, if_true, if_false, sb, aK, lf, e5]
 all_goals
  rename_i a b ha hb
  have e5 := fun i s j => hT a b [] i s j rfl (HX a atw ha) (HX b atw hb)
  rw [e5 _ _ _ hs]
  simp only [Int.reduceEq, if_true, if_false, sb]
end
set_option maxRecDepth 100000
theorem jh {a : ae} (hw : wt a ≤ 1048576) (h : vE a = true) : 1 ≤ a.ai ∧ a.ai ≤ 23 := by
 have := Ks hw h
 clear h hw
 generalize a.ai = k at *
 generalize a.aD = m at *
 generalize a.aj = t at *
 generalize a.ah = ks at *
 cases this <;> omega
theorem Ea {a : ae} (hw : wt a ≤ 1048576) (h : vS a = true) : 31 ≤ a.ai ∧ a.ai ≤ 48 := by
 have := Ku hw h
 clear h hw
 generalize a.ai = k at *
 generalize a.aD = m at *
 generalize a.aj = t at *
 generalize a.ah = ks at *
 cases this <;> omega
theorem aiZ {a : ae} (h : a.ai ≤ 23) : cy a = some true := by
 unfold cy
 rw [if_pos atu]
 congr 1
 rw [bne_iff_ne]; omega
theorem ai0 {a : ae} (h : 31 ≤ a.ai) : cy a = some false := by
 unfold cy
 rw [if_neg atu]
section
variable {X Y : ae → ar}
theorem mT {a : ae} {r : List ae} (h : OX X a) (hk : a.ai ≤ 23) : (if ((a :: r).length : Int) > 0 then idx (a :: r) 0 >>= fun uW => cy uW >>= fun wR => (if wR = true then idx (a :: r) 0 >>= fun uX => bO uX 1 >>= fun wS => some wS else some []) else some []) = some (nu X a 1) := by
 rw [if_pos atA, aY, sb, aiZ hk, sb, if_pos rfl, sb, oe h]; rfl
theorem Bc {a : ae} {r : List ae} (hk : 31 ≤ a.ai) : (if ((a :: r).length : Int) > 0 then idx (a :: r) 0 >>= fun uW => cy uW >>= fun wR => (if wR = true then idx (a :: r) 0 >>= fun uX => bO uX 1 >>= fun wS => some wS else some []) else some []) = some [] := by
 rw [if_pos atA, aY, sb, ai0 hk, sb, if_neg atC]
theorem xN : (if ((([] : List ae).length : Nat) : Int) > 0 then idx ([] : List ae) 0 >>= fun uW => cy uW >>= fun wR => (if wR = true then idx ([] : List ae) 0 >>= fun uX => bO uX 1 >>= fun wS => some wS else some []) else some []) = some [] := rfl
theorem ai1 (n a b : ae) (s : ar) (hk : n.ah = [a, b]) (hb : OY Y b) (hl : s.length + (Y b).length ≤ 1099511627776) : bR n s 1 = some (s ++ Y b) := by
 rw [bR, hk, if_pos atw, eK, sb, hb.1, sb, aK atu, sb, show aU ((1 : Int) + 1) = 2 from rfl, bR, hk, if_neg atw]
theorem ai2 (n a b c : ae) (s : ar) (hk : n.ah = [a, b, c]) (hb : OY Y b) (hc : OY Y c) (hl : s.length + (Y b).length + (Y c).length ≤ 1099511627776) : bR n s 1 = some (s ++ Y b ++ Y c) := by
 rw [bR, hk, if_pos atw, eK, sb, hb.1, sb, aK atu, sb, show aU ((1 : Int) + 1) = 2 from rfl, bR, hk, if_pos atw, lf, sb, hc.1, sb, aK (by rw [An]; omega), sb,
  show aU ((2 : Int) + 1) = 3 from rfl, bR, hk, if_neg atw]
theorem KF (l : List ae) (h : ∀ x ∈ l, ¬ x.ai = 52 → OY Y x) (hl : l.length ≤ 1048576) (hb : (me Y l).length ≤ 1099511627776) : gI l = some (me Y l) := by
 have := KC l h hl l.length 0 [] atu (by rw [arb, mg]; omega)
 rw [show ((0 : Nat) : Int) = 0 from rfl, arb, aqR] at this
 rw [gI, this]; rfl
set_option maxHeartbeats 4000000 in
theorem OR (n : ae) {s : ar} (h : PS X Y n.ai n.aD n.aj n.ah s) (hw : wt n ≤ 1048576) (hs : s.length ≤ 1099511627776)
  (HX : ∀ x ∈ n.ah, vE x = true → OX X x) (HY : ∀ x ∈ n.ah, vQ x = true → OY Y x) : bm n = some s := by
 have hl := (OI hw).2
 have CF := wk hw
 have hT2 : ∀ a b s, n.ah = [a, b] → OY Y b → s.length + (Y b).length ≤ 1099511627776 → bR n s 1 = some (s ++ Y b) := fun a b s => ai1 n a b s
 have hT3 : ∀ a b c s, n.ah = [a, b, c] → OY Y b → OY Y c → s.length + (Y b).length + (Y c).length ≤ 1099511627776 → bR n s 1 = some (s ++ Y b ++ Y c) := fun a b c s => ai2 n a b c s
 rw [bm]
 generalize n.ah = ks at *
 generalize n.aj = t at *
 generalize n.aD = m at *
 generalize n.ai = k at *
 cases h
 case htm =>
  rw [xN, sb]
  simp only [An, an, mg] at hs
  simp (disch := first | omega | (simp only [An, an, mg]; omega)) only [Int.reduceEq, if_true, if_false, sb, aK, sb]
 case glb =>
  rw [xN, sb]
  simp only [An, an, mg] at hs
  simp (disch := first | omega | (simp only [An, an, mg]; omega)) only [Int.reduceEq, if_true, if_false, sb, aK, sb]
 case brk =>
  rw [xN, sb]
  simp (disch := first | omega | (simp only [An, an, mg]; omega)) only [Int.reduceEq, if_true, if_false, sb, aK, sb]
 case cont =>
  rw [xN, sb]
  simp (disch := first | omega | (simp only [An, an, mg]; omega)) only [Int.reduceEq, if_true, if_false, sb, aK, sb]
 case Kt =>
  rw [xN, sb]
  simp (disch := first | omega | (simp only [An, an, mg]; omega)) only [Int.reduceEq, if_true, if_false, sb, aK, mg, show (((0 : Nat) : Int)) = 0 from rfl]
 case inc h0 =>
  rw [xN, sb]
  simp only [An, an, mg] at hs
  have e := sQ t atu
  simp (disch := first | omega | (simp only [An, an, mg]; omega)) only [Int.reduceEq, if_true, if_false, sb, aK, e]
 case OJ a ha =>
  have ea := HX a atw ha
  have uk := (jh (CF a atw) ha).2
  rw [mT ea uk, sb]
  simp only [An, an, mg] at hs
  simp (disch := first | omega | (simp only [An, an, mg]; omega)) only [Int.reduceEq, if_true, if_false, sb, aK, sb]
 case expr a ha =>
  have ea := HX a atw ha
  have uk := (jh (CF a atw) ha).2
  rw [mT ea uk, sb]
  simp only [An, an, mg] at hs
  simp (disch := first | omega | (simp only [An, an, mg]; omega)) only [Int.reduceEq, if_true, if_false, sb, aK, sb]
 case thr a ha =>
  have ea := HX a atw ha
  have uk := (jh (CF a atw) ha).2
  rw [mT ea uk, sb]
  simp only [An, an, mg] at hs
  simp (disch := first | omega | (simp only [An, an, mg]; omega)) only [Int.reduceEq, if_true, if_false, sb, aK, sb]
 case OK a ha =>
  have ea := HX a atw ha
  have uk := (jh (CF a atw) ha).2
  rw [mT ea uk, sb]
  simp only [An, an, mg] at hs
  have q : ¬ ((([a] : List ae).length : Int) = 0) := by simp
  simp (disch := first | omega | (simp only [An, an, mg]; omega)) only [Int.reduceEq, if_true, if_false, sb, aK, q]
 case yl1 a ha =>
  have ea := HX a atw ha
  have uk := (jh (CF a atw) ha).2
  rw [mT ea uk, sb]
  simp only [An, an, mg] at hs
  have q : ¬ ((([a] : List ae).length : Int) = 2) := by simp
  simp (disch := first | omega | (simp only [An, an, mg]; omega)) only [Int.reduceEq, if_true, if_false, sb, aK, q]
 case uns a ha =>
  have ea := HX a atw ha
  have uk := (jh (CF a atw) ha).2
  rw [mT ea uk, sb]
  simp only [An, an, mg] at hs
  have e2 := oe ea 12
  simp (disch := first | omega | (simp only [An, an, mg]; omega)) only [Int.reduceEq, if_true, if_false, sb, aK, aY, e2]
 case if2 a b ha hb kb =>
  have ea := HX a atw ha
  have uk := (jh (CF a atw) ha).2
  rw [mT ea uk, sb]
  have yb := (HY b atw (jH hb)).1
  simp only [An, an, mg] at hs
  have q : ¬ ((([a, b] : List ae).length : Int) = 3) := by simp
  simp (disch := first | omega | (simp only [An, an, mg]; omega)) only [Int.reduceEq, if_true, if_false, sb, aK, eK, yb, q]
 case if3 a b c ha hb kb hc kc =>
  have ea := HX a atw ha
  have uk := (jh (CF a atw) ha).2
  rw [mT ea uk, sb]
  have yb := (HY b atw (jH hb)).1
  have yc := (HY c atw (jH hc)).1
  simp only [An, an, mg] at hs
  have q : ((([a, b, c] : List ae).length : Int) = 3) := by simp
  simp (disch := first | omega | (simp only [An, an, mg]; omega)) only [Int.reduceEq, if_true, if_false, sb, aK, eK, lf, yb, yc, q]
 case whl a b ha hb kb =>
  have ea := HX a atw ha
  have uk := (jh (CF a atw) ha).2
  rw [mT ea uk, sb]
  have yb := (HY b atw (jH hb)).1
  simp only [An, an, mg] at hs
  simp (disch := first | omega | (simp only [An, an, mg]; omega)) only [Int.reduceEq, if_true, if_false, sb, aK, eK, yb]
 case fe3 a b c ha hc kc =>
  have ea := HX a atw ha
  have uk := (jh (CF a atw) ha).2
  rw [mT ea uk, sb]
  have yc := (HY c atw (jH hc)).1
  simp only [An, an, mg] at hs
  have q : ¬ ((([a, b, c] : List ae).length : Int) = 4) := by simp
  have q2 : aU ((([a, b, c] : List ae).length : Int) - 1) = 2 := rfl
  simp (disch := first | omega | (simp only [An, an, mg]; omega)) only [Int.reduceEq, if_true, if_false, sb, aK, eK, lf, yc, q, q2]
 case fe4 a b c d ha hd kd =>
  have ea := HX a atw ha
  have uk := (jh (CF a atw) ha).2
  rw [mT ea uk, sb]
  have yd := (HY d atw (jH hd)).1
  simp only [An, an, mg] at hs
  have q : ((([a, b, c, d] : List ae).length : Int) = 4) := by simp
  have q2 : aU ((([a, b, c, d] : List ae).length : Int) - 1) = 3 := rfl
  simp (disch := first | omega | (simp only [An, an, mg]; omega)) only [Int.reduceEq, if_true, if_false, sb, aK, q2, eK, lf, Kb, yd]
  rw [if_pos q]; rfl
 case yl2 a b ha hb =>
  have ea := HX a atw ha
  have uk := (jh (CF a atw) ha).2
  rw [mT ea uk, sb]
  simp only [An, an, mg] at hs
  have e2 := oe (HX b atw hb) 1
  have q : ((([a, b] : List ae).length : Int) = 2) := by simp
  simp (disch := first | omega | (simp only [An, an, mg]; omega)) only [Int.reduceEq, if_true, if_false, sb, aK, aY, eK, e2]
  rw [if_pos q]; rfl
 case vi h =>
  have hp : (if (ks.length : Int) > 0 then idx ks 0 >>= fun uW => cy uW >>= fun wR => (if wR = true then idx ks 0 >>= fun uX => bO uX 1 >>= fun wS => some wS else some []) else some []) = some [] := by
   rcases ks with _ | ⟨a, r⟩
   ·rfl
   ·exact Bc (Ea (CF a atw) (bI h a atw)).1
  rw [hp, sb]
  simp only [An, an, mg] at hs
  have h52 : ∀ x ∈ ks, ¬ x.ai = 52 := fun x hx => by have := Ea (CF x hx) (bI h x hx); omega
  have e := KD (Y := Y) ks h52
  have e2 := KF (Y := Y) ks (fun x hx _ => HY x hx (jH (bI h x hx))) hl (by rw [e]; omega)
  rw [e] at e2
  simp (disch := first | omega | (simp only [An, an, mg]; omega)) only [Int.reduceEq, if_true, if_false, sb, aK, e2]
 case CD a b ha ka hb =>
  have ya := (HY a atw (jH ha)).1
  rw [Bc atu, sb]
  simp only [An, an, mg] at hs
  have e := hT2 a b ([116, 114, 121, 32] ++ Y a) rfl (HY b atw (Kv hb)) atz
  simp (disch := first | omega | (simp only [An, an, mg]; omega)) only [Int.reduceEq, if_true, if_false, sb, aK, aY, ya, e]
 case CE a b ha ka hb =>
  have ya := (HY a atw (jH ha)).1
  rw [Bc atu, sb]
  simp only [An, an, mg] at hs
  have e := hT2 a b ([116, 114, 121, 32] ++ Y a) rfl (HY b atw (Kw hb)) atz
  simp (disch := first | omega | (simp only [An, an, mg]; omega)) only [Int.reduceEq, if_true, if_false, sb, aK, aY, ya, e]
 case A9 a b c ha ka hb hc =>
  have ya := (HY a atw (jH ha)).1
  rw [Bc atu, sb]
  simp only [An, an, mg] at hs
  have e := hT3 a b c ([116, 114, 121, 32] ++ Y a) rfl (HY b atw (Kv hb)) (HY c atw (Kw hc)) atz
  simp (disch := first | omega | (simp only [An, an, mg]; omega)) only [Int.reduceEq, if_true, if_false, sb, aK, aY, ya, e]
 case cat a b ha ka hb kb =>
  have ea := HX a atw ha
  have uk := (jh (CF a atw) ha).2
  rw [mT ea uk, sb]
  have yb := (HY b atw (jH hb)).1
  simp only [An, an, mg] at hs
  simp (disch := first | omega | (simp only [An, an, mg]; omega)) only [Int.reduceEq, if_true, if_false, sb, aK, aY, eK, yb]
 case fin a ha ka =>
  have ya := (HY a atw (jH ha)).1
  rw [Bc atu, sb]
  simp only [An, an, mg] at hs
  simp (disch := first | omega | (simp only [An, an, mg]; omega)) only [Int.reduceEq, if_true, if_false, sb, aK, aY, ya]
end
set_option maxRecDepth 100000
def tX (n : ae) : ar := (fN n).getD []
def tY (n : ae) : ar := (bm n).getD []
theorem Eb : ∀ (N : Nat) (n : ae), sz n < N → wt n ≤ 1048576 → sz n ≤ 600 → (vE n = true → OX tX n ∧ Bd tX n ∧ PX tX tY n.ai n.aD n.aj n.ah (tX n)) ∧ (vQ n = true → OY tY n ∧ Bd tY n ∧ PS tX tY n.ai n.aD n.aj n.ah (tY n))
 | 0, n, h, _, _ => by omega
 | N + 1, n, h, hw, h6 => by
  have hk : ∀ x ∈ n.ah, _ := fun x hx => Eb N x atI atT atI
  have ns : ∀ x ∈ n.ah, ∀ y ∈ x.ah, _ := fun x hx y hy => Eb N y atG atJ atG
  have ht := (OI hw).1
  have OC : ∀ x ∈ n.ah, x.aj.length ≤ 1048576 := fun x hx => (OI (wk hw x hx)).1
  have hs := mb n
  refine ⟨fun hv => ?_, fun hv => ?_⟩
  ·obtain ⟨s, hp⟩ := aiT tX tY (Ks hw hv)
   have hl := Zn hp ht OC (fun x hx q => ((hk x hx).1 q).2.1) (fun x hx y hy q => ((ns x hx y hy).1 q).2.1) (fun x hx q => ((hk x hx).2 q).2.1)
   have e := OQ n hp hw atu (fun x hx q => ((hk x hx).1 q).1) (fun x hx y hy q => ((ns x hx y hy).1 q).1) (fun x hx q => ((hk x hx).2 q).1)
   have e2 : tX n = s := by rw [tX, e]; rfl
   exact ⟨⟨by rw [e, e2], by rw [e2]; omega⟩, ⟨by rw [e2]; omega, by rw [e2]; omega⟩, by rw [e2]; exact hp⟩
  ·obtain ⟨s, hp⟩ := aiU tX tY (Zj hw hv)
   have hl := Zo hp ht OC (fun x hx q => ((hk x hx).1 q).2.1) (fun x hx q => ((hk x hx).2 q).2.1)
   have e := OR n hp hw atu (fun x hx q => ((hk x hx).1 q).1) (fun x hx q => ((hk x hx).2 q).1)
   have e2 : tY n = s := by rw [tY, e]; rfl
   exact ⟨⟨by rw [e, e2], by rw [e2]; omega⟩, ⟨by rw [e2]; omega, by rw [e2]; omega⟩, by rw [e2]; exact hp⟩
theorem pX {n : ae} (hw : wt n ≤ 1048576) (h6 : sz n ≤ 600) (hv : vE n = true) : OX tX n ∧ Bd tX n ∧ PX tX tY n.ai n.aD n.aj n.ah (tX n) := (Eb _ n (arI _) hw h6).1 hv
theorem pY {n : ae} (hw : wt n ≤ 1048576) (h6 : sz n ≤ 600) (hv : vQ n = true) : OY tY n ∧ Bd tY n ∧ PS tX tY n.ai n.aD n.aj n.ah (tY n) := (Eb _ n (arI _) hw h6).2 hv
def pfx (m : Int) : ar := (if m = 1 ∨ m = 3 then [112, 114, 105, 118, 97, 116, 101, 32] else []) ++ (if m = 2 ∨ m = 3 then [115, 116, 97, 116, 105, 99, 32] else [])
inductive PD : Int → Int → ar → List ae → ar → Prop
 | fn (k m : Int) (t : ar) (l : List ae) (z : ae) (hk : k = 49 ∨ k = 55) (h0 : 0 ≤ m) (h1 : m ≤ 3) (hu : vg false false l = true) (kz : z.ai = 48) (hz : vS z = true) : PD k m t (l ++ [z]) (pfx m ++ [102, 117, 110, 99, 116, 105, 111, 110, 32] ++ t ++ params (l ++ [z]) 24 ++ [32] ++ tY z)
 | use (t : ar) : PD 53 0 t [] ([117, 115, 101, 32] ++ t ++ [59])
 | prop (m : Int) (t : ar) (a : ae) (h0 : 0 ≤ m) (h1 : m ≤ 1) (ha : vE a = true) : PD 54 m t [a] (pfx m ++ [36] ++ t ++ [32, 61, 32] ++ tX a ++ [59])
set_option maxRecDepth 100000
def ext (ks : List ae) : ar := match ks with | x :: _ => (if x.ai = 52 then [32, 101, 120, 116, 101, 110, 100, 115, 32] ++ x.aj else []) | [] => []
def ao4 (n : ae) : ar := (if n.ai = 50 then [99, 108, 97, 115, 115, 32] else [116, 114, 97, 105, 116, 32]) ++ n.aj ++ ext n.ah ++ [32, 123, 32] ++ me tY n.ah ++ [125]
inductive Top (n : ae) : Prop
 | st (h : vS n = true)
 | fn (hk : n.ai = 49) (hn : n.aD = 0) (h : PD n.ai n.aD n.aj n.ah (tY n))
 | cl (hk : n.ai = 50 ∨ n.ai = 51) (hn : n.aD = 0) (h : cOK (n.ai == 50) true false n.ah = true) (e : tY n = ao4 n)
set_option maxRecDepth 100000
abbrev PP (p : ar) : av := av.mk (aF.mk () p)
theorem KG (ss : List ar) (hl : ss.length ≤ 1048576) : ∀ (f i : Nat) (p : ar), ss.length ≤ i + f → p.length + (ss.drop i).flatten.length ≤ 140737488355328 → ee ss p (i : Int) = some (PP (p ++ (ss.drop i).flatten))
 | f, i, p, hf, hb => by
  rw [ee]
  by_cases hi : i < ss.length
  ·obtain ⟨g, rfl⟩ : ∃ g, f = g + 1 := ⟨f - 1, by omega⟩
   have hd := aqY hi
   rw [hd, List.flatten_cons, An] at hb
   rw [if_pos atu, bB hi, sb, eD, if_pos (by simp only; omega), sb, bU atu]
   show ee ss (p ++ ss[i]) ((i + 1 : Nat) : Int) = _
   rw [KG ss hl g (i + 1) (p ++ ss[i]) atu (by rw [An]; omega), hd, List.flatten_cons, amb]
  ·rw [if_neg atu, aqV atu]; simp
theorem put_eq {ss : List ar} {p : ar} (hl : ss.length ≤ 1048576) (hb : p.length + ss.flatten.length ≤ 140737488355328) : ao (PP p) ss = some (PP (p ++ ss.flatten)) := by
 have := KG ss hl ss.length 0 p atu (by rw [arb]; exact hb)
 rw [show ((0 : Nat) : Int) = 0 from rfl, arb] at this
 exact this
theorem dk {a p : ar} (hb : p.length + a.length ≤ 140737488355328) : ao (PP p) [a] = some (PP (p ++ a)) := by
 rw [put_eq atw atU]; simp
theorem gX {a b p : ar} (hb : p.length + (a.length + b.length) ≤ 140737488355328) : ao (PP p) [a, b] = some (PP (p ++ (a ++ b))) := by
 rw [put_eq atw atU]; simp
theorem ik {a b c p : ar} (hb : p.length + (a.length + (b.length + c.length)) ≤ 140737488355328) : ao (PP p) [a, b, c] = some (PP (p ++ (a ++ (b ++ c)))) := by
 rw [put_eq atw atU]; simp
theorem il {a b c d p : ar} (hb : p.length + (a.length + (b.length + (c.length + d.length))) ≤ 140737488355328) : ao (PP p) [a, b, c, d] = some (PP (p ++ (a ++ (b ++ (c ++ d))))) := by
 rw [put_eq atw atU]; simp
theorem ao5 {a b c d e p : ar} (hb : p.length + (a.length + (b.length + (c.length + (d.length + e.length)))) ≤ 140737488355328) : ao (PP p) [a, b, c, d, e] = some (PP (p ++ (a ++ (b ++ (c ++ (d ++ e)))))) := by
 rw [put_eq atw atU]; simp
theorem KH (m : Int) (h1 : 1 ≤ m) (h2 : m ≤ 15) : jN m = some (mz m) ∧ j6 m = some (Ba m) := by
 obtain ⟨s, e1, e2, k, e3, e4, _⟩ := sOp m h1 h2
 refine ⟨?_, ?_⟩
 ·rw [e4, mz, e3]; rfl
 ·rw [e2, Ba, e1]; rfl
theorem ai3 (n : ae) (h : n.ai = 10 → 1 ≤ n.aD ∧ n.aD ≤ 15) : kQ n = some (lvl n) := by
 unfold kQ lvl
 generalize n.ai = k at *
 by_cases Kf : k = 15
 ·subst Kf; rfl
 by_cases Kg : k = 16
 ·subst Kg; rfl
 by_cases OA : k = 17
 ·subst OA; rfl
 by_cases Ke : k = 14
 ·subst Ke; rfl
 by_cases Ff : k = 13
 ·subst Ff; rfl
 by_cases Fe : k = 12
 ·subst Fe; rfl
 by_cases Fc : k = 11
 ·subst Fc; rfl
 by_cases yW : k = 10
 ·rw [(KH n.aD (h yW).1 (h yW).2).1]; subst yW; rfl
 by_cases h9 : k = 9
 ·subst h9; rfl
 rw [if_neg Kf, if_neg Kg, if_neg (show ¬ (k = 15 ∨ k = 16 ∨ k = 17) by omega), beq_eq_false_iff_ne.2 OA, sb]
 rw [if_neg atC, if_neg Ke, if_neg Ke, if_neg Ff, if_neg Ff, if_neg Fe, if_neg Fe, if_neg Fc, if_neg Fc, if_neg yW, if_neg yW, if_neg h9, if_neg h9]
section
variable {X Y : ae → ar}
def IX (X : ae → ar) (x : ae) : Prop := (∀ p : ar, p.length + (X x).length ≤ 140737488355328 → fM (PP p) x = some (PP (p ++ X x))) ∧ (x.ai = 10 → 1 ≤ x.aD ∧ x.aD ≤ 15)
def IY (Y : ae → ar) (x : ae) : Prop := ∀ p : ar, p.length + (Y x).length ≤ 140737488355328 → gY (PP p) x = some (PP (p ++ Y x))
def IB (Y : ae → ar) (x : ae) : Prop := ∀ p : ar, p.length + (Y x).length ≤ 140737488355328 → aQ (PP p) x = some (PP (p ++ Y x))
theorem mB {x : ae} (h : IX X x) {k : Int} {p : ar} (hb : p.length + (nu X x k).length ≤ 140737488355328) : aO (PP p) x k = some (PP (p ++ nu X x k)) := by
 rw [aO, ai3 x h.2, sb]
 unfold nu at hb ⊢
 by_cases hk : lvl x < k
 ·rw [if_pos hk] at hb ⊢
  rw [if_pos hk]
  simp only [An, an, mg] at hb
  rw [dk atF, sb, h.1 _ atz, sb, dk atz, sb]
  simp only [amb]
 ·rw [if_neg hk] at hb ⊢
  rw [if_neg hk, h.1 _ hb]; rfl
theorem TT {n a b : ae} {r : List ae} {i : Int} {s : ar} {j : Int} {p : ar} (hk : n.ah = a :: b :: r) (ha : IX X a) (hb : IX X b) (hl : p.length + (two X a i s b j).length ≤ 140737488355328) : bA (PP p) n i s j = some (PP (p ++ two X a i s b j)) := by
 simp only [two, An] at hl
 rw [bA, hk]
 simp (disch := first | omega | (simp only [An, an, mg]; omega)) only [aY, eK, sb, mB ha, mB hb, dk, two, amb]
theorem ai4 (ks : List ae) (h : ∀ x ∈ ks, IX X x) (hl : ks.length ≤ 1048576) : ∀ (f i : Nat) (p : ar), ks.length ≤ i + f → p.length + (jn X (decide (i = 0)) (ks.drop i)).length ≤ 140737488355328 →
  cJ ks p (i : Int) = some (p ++ jn X (decide (i = 0)) (ks.drop i))
 | f, i, p, hf, hb => by
  rw [cJ]
  by_cases hi : i < ks.length
  ·obtain ⟨g, rfl⟩ : ∃ g, f = g + 1 := ⟨f - 1, by omega⟩
   have hd := aqY hi
   have hx := h _ (arc hi)
   have oB : decide (i + 1 = 0) = false := decide_eq_false atu
   have IH : ∀ u : ar, u.length + (jn X false (ks.drop (i + 1))).length ≤ 140737488355328 → cJ ks u ((i + 1 : Nat) : Int) = some (u ++ jn X false (ks.drop (i + 1))) := fun u nr => by
    rw [ai4 ks h hl g (i + 1) u atu aub, oB]
   rw [hd, jn] at hb
   rw [if_pos atu, bB hi, bU atu, hd, jn, sb]
   by_cases he : i = 0
   ·rw [decide_eq_true he] at hb ⊢
    simp only [cond_true, An, an, mg] at hb
    rw [if_neg atu]
    simp (disch := first | omega | (simp only [An, an, mg]; omega)) only [dk, sb, mB hx, IH, cond_true, amb, aqR, aqS]
   ·rw [decide_eq_false he] at hb ⊢
    simp only [cond_false, An, an, mg] at hb
    rw [if_pos atu]
    simp (disch := first | omega | (simp only [An, an, mg]; omega)) only [dk, sb, mB hx, IH, cond_false, amb, aqR, aqS]
  ·rw [if_neg atu, aqV atu]; simp [jn]
theorem sS {ks : List ae} {p : ar} (h : ∀ x ∈ ks, IX X x) (hl : ks.length ≤ 1048576) (hb : p.length + (iW X ks).length ≤ 140737488355328) : dn (PP p) ks = some (PP (p ++ iW X ks)) := by
 simp only [iW, An, an, mg] at hb
 have h0 := ai4 ks h hl ks.length 0 (p ++ [40]) atu atY
 rw [decide_eq_true rfl, show ((0 : Nat) : Int) = 0 from rfl, arb] at h0
 rw [dn]
 simp (disch := first | omega | (simp only [An, an, mg]; omega)) only [dk, sb, h0, iW, amb, aqR, aqS]
end
set_option maxRecDepth 100000
section
variable {X Y : ae → ar}
theorem TU (n : ae) (h : ∀ x ∈ n.ah, ∀ y ∈ x.ah, IX X y) (hp : ∀ x ∈ n.ah, 1 ≤ (x.ah.length : Int) ∧ (x.ah.length : Int) ≤ 2) (hl : n.ah.length ≤ 1048576) : ∀ (f i : Nat) (p : ar), n.ah.length ≤ i + f → p.length + (vj X (decide (i = 0)) (n.ah.drop i)).length ≤ 140737488355328 →
  cK n p (i : Int) = some (p ++ vj X (decide (i = 0)) (n.ah.drop i))
 | f, i, p, hf, hb => by
  rw [cK]
  by_cases hi : i < n.ah.length
  ·obtain ⟨g, rfl⟩ : ∃ g, f = g + 1 := ⟨f - 1, by omega⟩
   have hd := aqY hi
   have hx := h _ (arc hi)
   have Fh := hp _ (arc hi)
   have oB : decide (i + 1 = 0) = false := decide_eq_false atu
   have IH : ∀ u : ar, u.length + (vj X false (n.ah.drop (i + 1))).length ≤ 140737488355328 → cK n u ((i + 1 : Nat) : Int) = some (u ++ vj X false (n.ah.drop (i + 1))) := fun u nr => by
    rw [TU n h hp hl g (i + 1) u atu aub, oB]
   rw [hd, vj, Zk] at hb
   rw [if_pos atu, bB hi, bU atu, hd, vj, Zk]
   generalize n.ah[i] = x at *
   have hP : ∀ a b i s j u, x.ah = [a, b] → IX X a → IX X b → u.length + (two X a i s b j).length ≤ 140737488355328 → bA (PP u) x i s j = some (PP (u ++ two X a i s b j)) := fun a b i s j u hk ha hb hl => TT hk ha hb hl
   generalize wJ : x.ah = ks at *
   rcases ks with _ | ⟨a, _ | ⟨b, _ | ⟨c, r⟩⟩⟩
   ·simp at Fh
   ·have ha := hx a atw
    have q1 : ¬ ((([a] : List ae).length : Int) = 2) := by simp
    by_cases he : i = 0
    ·rw [decide_eq_true he] at hb ⊢
     simp only [cond_true, An, an, mg] at hb
     rw [sb, if_neg atu]
     simp (disch := first | omega | (simp only [An, an, mg]; omega)) only [dk, sb, mB ha, aY, wJ, IH, cond_true, amb, aqR, aqS, q1, if_false]
    ·rw [decide_eq_false he] at hb ⊢
     simp only [cond_false, An, an, mg] at hb
     rw [sb, if_pos atu]
     simp (disch := first | omega | (simp only [An, an, mg]; omega)) only [dk, sb, mB ha, aY, wJ, IH, cond_false, amb, aqR, aqS, q1, if_false]
   ·have ha := hx a atw
    have nv := hx b atw
    have q1 : ((([a, b] : List ae).length : Int) = 2) := by simp
    have hT := fun u => hP a b 1 [32, 61, 62, 32] 1 u rfl ha nv
    simp only [two, An, an, mg] at hT
    by_cases he : i = 0
    ·rw [decide_eq_true he] at hb ⊢
     simp only [cond_true, An, an, mg] at hb
     rw [sb, if_neg atu, sb, if_pos (by rw [wJ]; exact q1)]
     simp (disch := first | omega | (simp only [An, an, mg]; omega)) only [dk, sb, hT, IH, cond_true, amb, aqR, aqS]
    ·rw [decide_eq_false he] at hb ⊢
     simp only [cond_false, An, an, mg] at hb
     rw [sb, if_pos atu, dk atF, sb, sb, if_pos (by rw [wJ]; exact q1)]
     simp (disch := first | omega | (simp only [An, an, mg]; omega)) only [dk, sb, hT, IH, cond_false, amb, aqR, aqS]
   ·simp at Fh; omega
  ·rw [if_neg atu, aqV atu]; simp [vj]
theorem TV (ks : List ae) (k : Int) (hl : ks.length ≤ 1048576) : ∀ (f i : Nat) (b : Bool) (p : ar), ks.length ≤ i + f → p.length + (uj k b (ks.drop i)).length ≤ 140737488355328 →
  bL ks k p b (i : Int) = some (p ++ uj k b (ks.drop i))
 | f, i, b, p, hf, hb => by
  rw [bL]
  by_cases hi : i < ks.length
  ·obtain ⟨g, rfl⟩ : ∃ g, f = g + 1 := ⟨f - 1, by omega⟩
   have hd := aqY hi
   have IH : ∀ (b : Bool) (u : ar), u.length + (uj k b (ks.drop (i + 1))).length ≤ 140737488355328 → bL ks k u b ((i + 1 : Nat) : Int) = some (u ++ uj k b (ks.drop (i + 1))) := fun b u nr => TV ks k hl g (i + 1) b u atu nr
   rw [hd, uj] at hb
   rw [if_pos atu, bB hi, sb, bU atu, hd, uj]
   generalize ks[i] = x at hb
   by_cases hk : x.ai = k
   ·rw [if_pos hk, hk, asj, cond_true]
    rw [hk, asj, cond_true] at hb
    cases b <;> by_cases hn : x.aD = 1
    all_goals
     first | rw [hn] at hb ⊢ | rw [beq_eq_false_iff_ne.2 hn] at hb ⊢
     simp only [cond_true, cond_false, asj, An, an, mg] at hb
     simp (disch := first | omega | (simp only [An, an, mg]; omega)) only [dk, gX, sb, IH, hn, if_true, if_false, cond_true, cond_false, asj, amb, aqR, aqS, ara]
   ·rw [if_neg hk, beq_eq_false_iff_ne.2 hk, cond_false]
    rw [beq_eq_false_iff_ne.2 hk, cond_false] at hb
    exact IH b p hb
  ·rw [if_neg atu, aqV atu]; simp [uj]
theorem Be {ks : List ae} {k : Int} {p : ar} (hl : ks.length ≤ 1048576) (hb : p.length + (params ks k).length ≤ 140737488355328) : dh (PP p) ks k = some (PP (p ++ params ks k)) := by
 simp only [params, An, an, mg] at hb
 have h0 := TV ks k hl ks.length 0 true (p ++ [40]) atu (by rw [arb]; simp only [An, an, mg]; omega)
 rw [show ((0 : Nat) : Int) = 0 from rfl, arb] at h0
 rw [dh]
 simp (disch := first | omega | (simp only [An, an, mg]; omega)) only [dk, sb, h0, params, amb, aqR, aqS]
theorem KI (n : ae) (p : ar) (hl : n.ah.length ≤ 1048576) : ∀ (f i : Nat), n.ah.length ≤ i + f → (∀ x ∈ n.ah.drop i, ¬ x.ai = 25) → bG n (PP p) (i : Int) = some p
 | f, i, hf, h => by
  rw [bG]
  by_cases hi : i < n.ah.length
  ·obtain ⟨g, rfl⟩ : ∃ g, f = g + 1 := ⟨f - 1, by omega⟩
   have hd := aqY hi
   rw [hd] at h
   rw [if_pos atu, bB hi, bU atu, sb, if_neg (h _ List.mem_cons_self), KI n p hl g (i + 1) atu (fun x hx => h x (arh _ hx))]
  ·rw [if_neg atu]
theorem Ec (n : ae) (p : ar) (hl : n.ah.length ≤ 1048576) (hb : p.length + 5 + (params n.ah 25).length ≤ 140737488355328) : ∀ (f i : Nat), n.ah.length ≤ i + f → (∃ x ∈ n.ah.drop i, x.ai = 25) → bG n (PP p) (i : Int) = some (p ++ [32, 117, 115, 101, 32] ++ params n.ah 25)
 | f, i, hf, h => by
  rw [bG]
  by_cases hi : i < n.ah.length
  ·obtain ⟨g, rfl⟩ : ∃ g, f = g + 1 := ⟨f - 1, by omega⟩
   have hd := aqY hi
   rw [hd] at h
   rw [if_pos atu, bB hi, bU atu, sb]
   by_cases hk : n.ah[i].ai = 25
   ·rw [if_pos hk]
    simp (disch := first | omega | (simp only [An, an, mg]; omega)) only [dk, sb, Be]
   ·rw [if_neg hk, Ec n p hl hb g (i + 1) atu (by
     obtain ⟨x, q1, q2⟩ := h
     rcases aqZ.1 q1 with e | e
     ·subst e; exact absurd q2 hk
     ·exact ⟨x, e, q2⟩)]
  ·rw [aqV atu] at h
   obtain ⟨x, q1, _⟩ := h; cases q1
theorem TW (n : ae) (h : ∀ x ∈ n.ah, IY Y x) (hl : n.ah.length ≤ 1048576) : ∀ (f i : Nat) (p : ar), n.ah.length ≤ i + f → p.length + ((n.ah.drop i).flatMap (fun x => Y x ++ [32])).length ≤ 140737488355328 →
  dj n p (i : Int) = some (p ++ (n.ah.drop i).flatMap (fun x => Y x ++ [32]))
 | f, i, p, hf, hb => by
  rw [dj]
  by_cases hi : i < n.ah.length
  ·obtain ⟨g, rfl⟩ : ∃ g, f = g + 1 := ⟨f - 1, by omega⟩
   have hd := aqY hi
   have hx := h _ (arc hi)
   have IH : ∀ u : ar, u.length + ((n.ah.drop (i + 1)).flatMap (fun x => Y x ++ [32])).length ≤ 140737488355328 → dj n u ((i + 1 : Nat) : Int) = some (u ++ (n.ah.drop (i + 1)).flatMap (fun x => Y x ++ [32])) := fun u nr => TW n h hl g (i + 1) u atu nr
   rw [hd, arE] at hb
   simp only [An, an, mg] at hb
   rw [if_pos atu, bB hi, bU atu, hd, arE, sb, hx p atu]
   simp (disch := first | omega | (simp only [An, an, mg]; omega)) only [dk, sb, IH, amb, aqR, aqS]
  ·rw [if_neg atu, aqV atu]; simp
theorem KJ {n : ae} {p : ar} (h : ∀ x ∈ n.ah, IY Y x) (hl : n.ah.length ≤ 1048576) (hb : p.length + ([123, 32] ++ n.ah.flatMap (fun x => Y x ++ [32]) ++ [125]).length ≤ 140737488355328) : aQ (PP p) n = some (PP (p ++ ([123, 32] ++ n.ah.flatMap (fun x => Y x ++ [32]) ++ [125]))) := by
 simp only [An, an, mg] at hb
 have h0 := TW n h hl n.ah.length 0 (p ++ [123, 32]) atu (by rw [arb]; simp only [An, an, mg]; omega)
 rw [show ((0 : Nat) : Int) = 0 from rfl, arb] at h0
 rw [aQ]
 simp (disch := first | omega | (simp only [An, an, mg]; omega)) only [dk, sb, h0, amb, aqR, aqS]
end
set_option maxRecDepth 100000
theorem ai5 (m : Int) (h1 : 0 ≤ m) (h2 : m ≤ 2) : idx ([[110, 117, 108, 108], [102, 97, 108, 115, 101], [116, 114, 117, 101]] : List ar) m = some (ON m) := by
 rcases (by omega : m = 0 ∨ m = 1 ∨ m = 2) with h | h | h <;> subst h <;> rfl
theorem ao6 (m : Int) (h1 : 1 ≤ m) (h2 : m ≤ 2) : idx ([[], [33], [45]] : List ar) m = some (unW m) := by
 rcases (by omega : m = 1 ∨ m = 2) with h | h <;> subst h <;> rfl
theorem ai6 (m : Int) (h0 : 0 ≤ m) (h1 : m ≤ 1000000000) : jr m = some (Lib.itoa m) := by
 unfold jr m73
 rw [if_pos ⟨by omega, by omega⟩]; rfl
section
variable {X Y : ae → ar}
theorem ai7 (n z : ae) (l : List ae) (p : ar) (hk : n.ah = l ++ [z]) (hl : n.ah.length ≤ 1048576) (hz : IB Y z) (Kh : z.ai = 48) (u : ar) (hu : ((¬ ∃ x ∈ l, x.ai = 25) ∧ u = []) ∨ ((∃ x ∈ l, x.ai = 25) ∧ u = [32, 117, 115, 101, 32] ++ params n.ah 25))
  (hb : p.length + 9 + (params n.ah 24).length + u.length + 1 + (Y z).length ≤ 140737488355328) : ff (PP p) n = some (PP (p ++ ([102, 117, 110, 99, 116, 105, 111, 110, 32] ++ (params n.ah 24 ++ (u ++ ([32] ++ Y z)))))) := by
 have e3 : aU ((n.ah.length : Int) - 1) = (l.length : Int) := kN (by rw [hk]; simp) (by rw [hk] at hl; simp at hl; omega)
 have e4 : idx n.ah (l.length : Int) = some z := by rw [hk]; exact oQ
 have e5 : ∀ q : ar, q.length + u.length ≤ 140737488355328 → bG n (PP q) 0 = some (q ++ u) := by
  intro q hq
  rcases hu with ⟨h1, h2⟩ | ⟨h1, h2⟩
  ·have := KI n q hl n.ah.length 0 atu (by
    rw [arb, hk]
    intro x hx
    rcases aqW.1 hx with e | e
    ·exact fun q => h1 ⟨x, e, q⟩
    ·simp at e; subst e; omega)
   rw [show ((0 : Nat) : Int) = 0 from rfl] at this
   rw [this, h2, asd]
  ·rw [h2] at hq
   simp only [An, an, mg] at hq
   have := Ec n q hl atu n.ah.length 0 atu (by
    rw [arb, hk]
    obtain ⟨x, q1, q2⟩ := h1
    exact ⟨x, by simp [q1], q2⟩)
   rw [show ((0 : Nat) : Int) = 0 from rfl] at this
   rw [this, h2, amb]
 rw [ff, e3, e4]
 have hz' := fun q (hq : q.length + (Y z).length ≤ 140737488355328) => hz q hq
 simp (disch := first | omega | (simp only [An, an, mg]; omega)) only [Int.reduceEq, if_true, if_false, sb, dk, gX, ik, il, e5, Be hl, hz', amb, aqR, aqS]
set_option maxHeartbeats 4000000 in
theorem OS (n : ae) {s : ar} (h : PX X Y n.ai n.aD n.aj n.ah s) (hw : wt n ≤ 1048576)
  (HX : ∀ x ∈ n.ah, vE x = true → IX X x) (HX2 : ∀ x ∈ n.ah, ∀ y ∈ x.ah, vE y = true → IX X y) (HY : ∀ x ∈ n.ah, vS x = true → x.ai = 48 → IB Y x) (p : ar) (hs : p.length + s.length ≤ 140737488355328) : fM (PP p) n = some (PP (p ++ s)) := by
 have hl := (OI hw).2
 have hT : ∀ a b r i s j q, n.ah = a :: b :: r → IX X a → IX X b → q.length + (two X a i s b j).length ≤ 140737488355328 → bA (PP q) n i s j = some (PP (q ++ two X a i s b j)) := fun a b r i s j q hk ha hb hl => TT hk ha hb hl
 have hC : ∀ z l u q, n.ah = l ++ [z] → IB Y z → z.ai = 48 → (((¬ ∃ x ∈ l, x.ai = 25) ∧ u = []) ∨ ((∃ x ∈ l, x.ai = 25) ∧ u = [32, 117, 115, 101, 32] ++ params n.ah 25)) → q.length + 9 + (params n.ah 24).length + u.length + 1 + (Y z).length ≤ 140737488355328 → ff (PP q) n = some (PP (q ++ ([102, 117, 110, 99, 116, 105, 111, 110, 32] ++ (params n.ah 24 ++ (u ++ ([32] ++ Y z)))))) := fun z l u q hk hz Kh hu hb => ai7 n z l q hk hl hz Kh u hu hb
 have hL : n.ah.all (A8 vE) = true → ∀ q : ar, q.length + ([91] ++ vj X true n.ah ++ [93]).length ≤ 140737488355328 → jz (PP q) n = some (PP (q ++ ([91] ++ vj X true n.ah ++ [93]))) := fun h1 q h2 => by
  simp only [An, an, mg] at h2
  have := TU n (X := X) (fun x hx y hy => by
   have h3 := bI h1 x hx
   simp only [A8, As] at h3
   exact HX2 x hx y hy (bI h3.2.2.2.2 y hy)) (fun x hx => by
   have h3 := bI h1 x hx
   simp only [A8, As] at h3
   exact of_decide_eq_true h3.2.2.2.1) hl n.ah.length 0 (q ++ [91]) atu atY
  rw [show ((0 : Nat) : Int) = 0 from rfl, arb, decide_eq_true rfl] at this
  rw [jz]
  simp (disch := first | omega | (simp only [An, an, mg]; omega)) only [Int.reduceEq, if_true, if_false, sb, dk, gX, ik, il, this, amb, aqR, aqS]
 rw [fM]
 generalize n.ah = ks at *
 generalize n.aj = t at *
 generalize n.aD = m at *
 generalize n.ai = k at *
 cases h
 case num h0 h1 =>
  rw [if_pos rfl, ai6 m h0 h1, sb, dk hs]; rfl
 case txt h0 =>
  rw [if_neg atC, if_pos rfl, iQ t atu, sb, dk hs]; rfl
 case cst h0 h1 =>
  rw [if_neg atC, if_neg atC, if_pos rfl, ai5 m h0 h1, sb, dk hs]; rfl
 case var =>
  simp only [An, an, mg] at hs
  simp (disch := first | omega | (simp only [An, an, mg]; omega)) only [Int.reduceEq, if_true, if_false, sb, dk, gX, ik, il, sb, amb, aqR, aqS]
 case arr h =>
  rw [if_neg atC, if_neg atC, if_neg atC, if_neg atC, if_pos rfl, hL h p hs]; rfl
 case ref a =>
  simp only [An, an, mg] at hs
  simp (disch := first | omega | (simp only [An, an, mg]; omega)) only [Int.reduceEq, if_true, if_false, sb, dk, gX, ik, il, aY, amb, aqR, aqS]
 case call h =>
  simp only [An, an, mg] at hs
  have e := fun q => sS (p := q) (fun x hx => HX x hx (bI h x hx)) hl
  simp (disch := first | omega | (simp only [An, an, mg]; omega)) only [Int.reduceEq, if_true, if_false, sb, dk, gX, ik, il, e, Int.reduceBEq, ara, amb, aqR, aqS]
 case stat h =>
  simp only [An, an, mg] at hs
  have e := fun q => sS (p := q) (fun x hx => HX x hx (bI h x hx)) hl
  simp (disch := first | omega | (simp only [An, an, mg]; omega)) only [Int.reduceEq, if_true, if_false, sb, dk, gX, ik, il, e, Int.reduceBEq, ara, amb, aqR, aqS]
 case new h =>
  simp only [An, an, mg] at hs
  have e := fun q => sS (p := q) (fun x hx => HX x hx (bI h x hx)) hl
  simp (disch := first | omega | (simp only [An, an, mg]; omega)) only [Int.reduceEq, if_true, if_false, sb, dk, gX, ik, il, e, Int.reduceBEq, ara, amb, aqR, aqS]
 case OO a r ha h h8 =>
  simp only [An, an, mg] at hs
  have ea := HX a atw ha
  have nr : r.length ≤ 1048576 := by simp only [an] at hl; omega
  have e := fun q => sS (p := q) (fun x hx => HX x atH (bI h x hx)) nr
  have e2 : nu X a 13 = [40] ++ X a ++ [41] := by
   unfold nu lvl
   rw [h8]; rfl
  have e3 := fun q => mB (p := q) ea (k := 13)
  rw [e2] at e3
  simp only [An, an, mg] at e3
  simp (disch := first | omega | (simp only [An, an, mg]; omega)) only [Int.reduceEq, if_true, if_false, sb, dk, gX, ik, il, e, e3, aY, lH, Int.reduceBEq, ara, h8, amb, aqR, aqS]
 case dyn a r ha h h8 =>
  simp only [An, an, mg] at hs
  have ea := HX a atw ha
  have nr : r.length ≤ 1048576 := by simp only [an] at hl; omega
  have e := fun q => sS (p := q) (fun x hx => HX x atH (bI h x hx)) nr
  simp (disch := first | omega | (simp only [An, an, mg]; omega)) only [Int.reduceEq, if_true, if_false, sb, dk, gX, ik, il, e, mB ea, aY, lH, Int.reduceBEq, ara, h8, amb, aqR, aqS]
 case met a r ha h =>
  simp only [An, an, mg] at hs
  have ea := HX a atw ha
  have nr : r.length ≤ 1048576 := by simp only [an] at hl; omega
  have e := fun q => sS (p := q) (fun x hx => HX x atH (bI h x hx)) nr
  simp (disch := first | omega | (simp only [An, an, mg]; omega)) only [Int.reduceEq, if_true, if_false, sb, dk, gX, ik, il, e, mB ea, aY, lH, Int.reduceBEq, ara, amb, aqR, aqS]
 case kZ l z hu sR ns hz =>
  simp only [An, an, mg] at hs
  have e := hC z l [] p rfl (HY z atw hz ns) ns (.inl ⟨sR, rfl⟩) (by rw [mg]; omega)
  simp (disch := first | omega | (simp only [An, an, mg]; omega)) only [Int.reduceEq, if_true, if_false, sb, dk, gX, ik, il, e, Int.reduceBEq, ara, amb, aqR, aqS]
 case OP l z hu sR ns hz =>
  simp only [An, an, mg] at hs
  have e := hC z l ([32, 117, 115, 101, 32] ++ params (l ++ [z]) 25) p rfl (HY z atw hz ns) ns (.inr ⟨sR, rfl⟩) atz
  rw [e]
  simp (disch := first | omega | (simp only [An, an, mg]; omega)) only [Int.reduceEq, if_true, if_false, sb, dk, gX, ik, il, Int.reduceBEq, ara, amb, aqR, aqS]
 case un a ha h0 h1 =>
  simp only [An, an, mg] at hs
  have ea := HX a atw ha
  simp (disch := first | omega | (simp only [An, an, mg]; omega)) only [Int.reduceEq, if_true, if_false, sb, dk, gX, ik, il, aY, mB ea, ao6 m h0 h1, amb, aqR, aqS]
 case fld a ha =>
  simp only [An, an, mg] at hs
  have ea := HX a atw ha
  simp (disch := first | omega | (simp only [An, an, mg]; omega)) only [Int.reduceEq, if_true, if_false, sb, dk, gX, ik, il, aY, mB ea, amb, aqR, aqS]
 case bin a b ha hb h0 h1 =>
  have ea := HX a atw ha
  have eb := HX b atw hb
  obtain ⟨_, e2, e3⟩ := KE m
  obtain ⟨e1, e6⟩ := KH m h0 h1
  have e4 : aU (mz m + 1) = mz m + 1 := Ot atu atu
  have e5 := hT a b [] (mz m) ([32] ++ Ba m ++ [32]) (mz m + 1) p rfl ea eb hs
  have e7 := vk m h0 h1
  simp only [Int.reduceEq, if_true, if_false]
  rw [e1, sb, e6, sb, aK atF, sb, aK atz, sb, e4, e5]; rfl
 case cond a b c ha hb hc =>
  have ea := HX a atw ha
  have eb := HX b atw hb
  have ec := HX c atw hc
  simp only [An, an, mg] at hs
  have e5 := fun q => hT a b [c] 3 [32, 63, 32] 1 q rfl ea eb
  simp (disch := first | omega | (simp only [An, an, mg]; omega)) only [Int.reduceEq, if_true, if_false, sb, dk, gX, ik, il, e5, lf, mB ec, amb, aqR, aqS]
 case ix a b ha hb =>
  have ea := HX a atw ha
  have eb := HX b atw hb
  simp only [two, An, an, mg] at hs
  simp (disch := first | omega | (simp only [An, an, mg]; omega)) only [Int.reduceEq, if_true, if_false, sb, dk, gX, ik, il, aY, eK, mB ea, mB eb, two, amb, aqR, aqS]
 all_goals
  rename_i a b ha hb
  have ea := HX a atw ha
  have eb := HX b atw hb
  have e5 := fun i s j => hT a b [] i s j p rfl ea eb
  rw [e5 _ _ _ hs]
  simp only [Int.reduceEq, if_true, if_false, sb]
end
set_option maxRecDepth 100000
section
variable {X Y : ae → ar}
theorem sT {x : ae} {w p : ar} (h : IX X x) (hb : p.length + (w.length + ((nu X x 1).length + 1)) ≤ 140737488355328) : ck (PP p) w x = some (PP (p ++ (w ++ (nu X x 1 ++ [59])))) := by
 rw [ck]
 simp (disch := first | omega | (simp only [An, an, mg]; omega)) only [Int.reduceEq, if_true, if_false, sb, dk, gX, ik, il, mB h, amb, aqR, aqS]
def IC (Y : ae → ar) (b : ae) : Prop := ∀ (l : List ae) (i : Nat) (hi : i < l.length), l.length ≤ 1048576 → l[i] = b → ∀ p : ar, p.length + (Y b).length ≤ 140737488355328 → bJ l p (i : Int) = bJ l (p ++ Y b) ((i + 1 : Nat) : Int)
theorem xO (l : List ae) (p : ar) (i : Nat) (h : l.length ≤ i) : bJ l p (i : Int) = some (PP p) := by
 rw [bJ, if_neg atu]
theorem ai8 {b a c : ae} (h4 : b.ai = 44) (hk : b.ah = [a, c]) (hc : IB Y c) (hY : Y b = [32, 99, 97, 116, 99, 104, 32, 40] ++ b.aj ++ [32, 36] ++ a.aj ++ [41, 32] ++ Y c) : IC Y b := by
 intro l i hi hl he p hb
 rw [hY] at hb ⊢
 simp only [An, an, mg] at hb
 rw [bJ, if_pos atu, bB hi, sb, he, if_pos h4, hk, aY, eK, sb, bU atu]
 have TX := fun q (hq : q.length + (Y c).length ≤ 140737488355328) => hc q hq
 simp (disch := first | omega | (simp only [An, an, mg]; omega)) only [Int.reduceEq, if_true, if_false, sb, dk, gX, ik, il, ao5, TX, amb, aqR, aqS]
theorem ai9 {b a : ae} (h4 : b.ai = 45) (hk : b.ah = [a]) (hc : IB Y a) (hY : Y b = [32, 102, 105, 110, 97, 108, 108, 121, 32] ++ Y a) : IC Y b := by
 intro l i hi hl he p hb
 rw [hY] at hb ⊢
 simp only [An, an, mg] at hb
 rw [bJ, if_pos atu, bB hi, sb, he, if_neg atu, hk, aY, bU atu]
 have TX := fun q (hq : q.length + (Y a).length ≤ 140737488355328) => hc q hq
 simp (disch := first | omega | (simp only [An, an, mg]; omega)) only [Int.reduceEq, if_true, if_false, sb, dk, gX, ik, il, TX, amb, aqR, aqS]
theorem Zq {n a b : ae} {p : ar} (hk : n.ah = [a, b]) (ha : IB Y a) (hb : IC Y b) (hl : p.length + ([116, 114, 121, 32] ++ Y a ++ Y b).length ≤ 140737488355328) : dU (PP p) n = some (PP (p ++ ([116, 114, 121, 32] ++ Y a ++ Y b))) := by
 simp only [An, an, mg] at hl
 rw [dU, hk, dk atF, sb, aY, sb, ha _ atz, sb, lH, sb]
 have h1 := hb [b] 0 atw atw rfl (p ++ [116, 114, 121, 32] ++ Y a) atz
 rw [xO [b] _ (0 + 1) atw] at h1
 rw [show ((0 : Nat) : Int) = 0 from rfl] at h1
 rw [h1]; simp
theorem Zr {n a b c : ae} {p : ar} (hk : n.ah = [a, b, c]) (ha : IB Y a) (hb : IC Y b) (hc : IC Y c) (hl : p.length + ([116, 114, 121, 32] ++ Y a ++ Y b ++ Y c).length ≤ 140737488355328) : dU (PP p) n = some (PP (p ++ ([116, 114, 121, 32] ++ Y a ++ Y b ++ Y c))) := by
 simp only [An, an, mg] at hl
 rw [dU, hk, dk atF, sb, aY, sb, ha _ atz, sb, lH, sb]
 have h1 := hb [b, c] 0 atw atw rfl (p ++ [116, 114, 121, 32] ++ Y a) atz
 have h2 := hc [b, c] 1 atw atw rfl (p ++ [116, 114, 121, 32] ++ Y a ++ Y b) atz
 rw [xO [b, c] _ (1 + 1) atw] at h2
 rw [h2] at h1
 rw [show ((0 : Nat) : Int) = 0 from rfl] at h1
 rw [h1]; simp
set_option maxHeartbeats 4000000 in
theorem OT (n : ae) {s : ar} (h : PS X Y n.ai n.aD n.aj n.ah s) (hw : wt n ≤ 1048576) (h44 : ¬ n.ai = 44) (h45 : ¬ n.ai = 45)
  (HX : ∀ x ∈ n.ah, vE x = true → IX X x) (HY : ∀ x ∈ n.ah, vS x = true → IY Y x) (HB : ∀ x ∈ n.ah, vS x = true → x.ai = 48 → IB Y x) (HC : ∀ x ∈ n.ah, cat vE vS x = true → IC Y x) (HF : ∀ x ∈ n.ah, fin vS x = true → IC Y x)
  (p : ar) (hs : p.length + s.length ≤ 140737488355328) : gY (PP p) n = some (PP (p ++ s)) := by
 have hl := (OI hw).2
 have hT2 : ∀ a b, n.ah = [a, b] → IB Y a → IC Y b → p.length + ([116, 114, 121, 32] ++ Y a ++ Y b).length ≤ 140737488355328 → dU (PP p) n = some (PP (p ++ ([116, 114, 121, 32] ++ Y a ++ Y b))) := fun a b h1 h2 h3 h4 => Zq h1 h2 h3 h4
 have hT3 : ∀ a b c, n.ah = [a, b, c] → IB Y a → IC Y b → IC Y c → p.length + ([116, 114, 121, 32] ++ Y a ++ Y b ++ Y c).length ≤ 140737488355328 → dU (PP p) n = some (PP (p ++ ([116, 114, 121, 32] ++ Y a ++ Y b ++ Y c))) := fun a b c h1 h2 h3 h5 h4 => Zr h1 h2 h3 h5 h4
 have hK : (∀ x ∈ n.ah, IY Y x) → p.length + ([123, 32] ++ n.ah.flatMap (fun x => Y x ++ [32]) ++ [125]).length ≤ 140737488355328 → aQ (PP p) n = some (PP (p ++ ([123, 32] ++ n.ah.flatMap (fun x => Y x ++ [32]) ++ [125]))) := fun h1 h2 => KJ h1 hl h2
 rw [gY]
 generalize n.ah = ks at *
 generalize n.aj = t at *
 generalize n.aD = m at *
 generalize n.ai = k at *
 cases h
 case htm =>
  simp only [An, an, mg] at hs
  simp (disch := first | omega | (simp only [An, an, mg]; omega)) only [Int.reduceEq, if_true, if_false, sb, dk, gX, ik, il, sb, amb, aqR, aqS]
 case glb =>
  simp only [An, an, mg] at hs
  simp (disch := first | omega | (simp only [An, an, mg]; omega)) only [Int.reduceEq, if_true, if_false, sb, dk, gX, ik, il, sb, amb, aqR, aqS]
 case brk =>
  simp only [An, an, mg] at hs
  simp (disch := first | omega | (simp only [An, an, mg]; omega)) only [Int.reduceEq, if_true, if_false, sb, dk, gX, ik, il, sb, amb, aqR, aqS]
 case cont =>
  simp only [An, an, mg] at hs
  simp (disch := first | omega | (simp only [An, an, mg]; omega)) only [Int.reduceEq, if_true, if_false, sb, dk, gX, ik, il, sb, amb, aqR, aqS]
 case Kt =>
  simp only [An, an, mg] at hs
  simp (disch := first | omega | (simp only [An, an, mg]; omega)) only [Int.reduceEq, if_true, if_false, sb, dk, gX, ik, il, mg, show (((0 : Nat) : Int)) = 0 from rfl, amb, aqR, aqS]
 case inc h0 =>
  simp only [An, an, mg] at hs
  have e := iQ t atu
  simp (disch := first | omega | (simp only [An, an, mg]; omega)) only [Int.reduceEq, if_true, if_false, sb, dk, gX, ik, il, e, amb, aqR, aqS]
 case OJ a ha =>
  have ea := HX a atw ha
  simp only [An, an, mg] at hs
  simp (disch := first | omega | (simp only [An, an, mg]; omega)) only [Int.reduceEq, if_true, if_false, sb, dk, gX, ik, il, aY, sT ea, amb, aqR, aqS]
 case expr a ha =>
  have ea := HX a atw ha
  simp only [An, an, mg] at hs
  simp (disch := first | omega | (simp only [An, an, mg]; omega)) only [Int.reduceEq, if_true, if_false, sb, dk, gX, ik, il, aY, sT ea, amb, aqR, aqS]
 case thr a ha =>
  have ea := HX a atw ha
  simp only [An, an, mg] at hs
  simp (disch := first | omega | (simp only [An, an, mg]; omega)) only [Int.reduceEq, if_true, if_false, sb, dk, gX, ik, il, aY, sT ea, amb, aqR, aqS]
 case OK a ha =>
  have ea := HX a atw ha
  simp only [An, an, mg] at hs
  have q : ¬ ((([a] : List ae).length : Int) = 0) := by simp
  simp (disch := first | omega | (simp only [An, an, mg]; omega)) only [Int.reduceEq, if_true, if_false, sb, dk, gX, ik, il, aY, sT ea, q, amb, aqR, aqS]
 case yl1 a ha =>
  have ea := HX a atw ha
  simp only [An, an, mg] at hs
  have q : ¬ ((([a] : List ae).length : Int) = 2) := by simp
  have q2 : aU ((([a] : List ae).length : Int) - 1) = 0 := rfl
  simp (disch := first | omega | (simp only [An, an, mg]; omega)) only [Int.reduceEq, if_true, if_false, sb, dk, gX, ik, il, aY, sT ea, q, q2, amb, aqR, aqS]
 case yl2 a b ha hb =>
  have eb := HX b atw hb
  simp only [An, an, mg] at hs
  have q : ((([a, b] : List ae).length : Int) = 2) := by simp
  have q2 : aU ((([a, b] : List ae).length : Int) - 1) = 1 := rfl
  rw [q2]
  simp only [Int.reduceEq, if_false, if_true, q]
  simp (disch := first | omega | (simp only [An, an, mg]; omega)) only [Int.reduceEq, if_true, if_false, sb, dk, gX, ik, il, aY, eK, sT eb, amb, aqR, aqS]
 case uns a ha =>
  have ea := HX a atw ha
  simp only [An, an, mg] at hs
  simp (disch := first | omega | (simp only [An, an, mg]; omega)) only [Int.reduceEq, if_true, if_false, sb, dk, gX, ik, il, aY, mB ea, amb, aqR, aqS]
 case if2 a b ha hb kb =>
  have ea := HX a atw ha
  have yb := fun q (hq : q.length + (Y b).length ≤ 140737488355328) => HB b atw hb kb q hq
  simp only [An, an, mg] at hs
  have q : ¬ ((([a, b] : List ae).length : Int) = 3) := by simp
  simp (disch := first | omega | (simp only [An, an, mg]; omega)) only [Int.reduceEq, if_true, if_false, sb, dk, gX, ik, il, aY, eK, mB ea, yb, q, amb, aqR, aqS]
 case if3 a b c ha hb kb hc kc =>
  have ea := HX a atw ha
  have yb := fun q (hq : q.length + (Y b).length ≤ 140737488355328) => HB b atw hb kb q hq
  have yc := fun q (hq : q.length + (Y c).length ≤ 140737488355328) => HB c atw hc kc q hq
  simp only [An, an, mg] at hs
  have q : ((([a, b, c] : List ae).length : Int) = 3) := by simp
  simp only [Int.reduceEq, if_false, if_true, q]
  simp (disch := first | omega | (simp only [An, an, mg]; omega)) only [Int.reduceEq, if_true, if_false, sb, dk, gX, ik, il, aY, eK, lf, mB ea, yb, yc, amb, aqR, aqS]
 case whl a b ha hb kb =>
  have ea := HX a atw ha
  have yb := fun q (hq : q.length + (Y b).length ≤ 140737488355328) => HB b atw hb kb q hq
  simp only [An, an, mg] at hs
  simp (disch := first | omega | (simp only [An, an, mg]; omega)) only [Int.reduceEq, if_true, if_false, sb, dk, gX, ik, il, aY, eK, mB ea, yb, amb, aqR, aqS]
 case fe3 a b c ha hc kc =>
  have ea := HX a atw ha
  have yc := fun q (hq : q.length + (Y c).length ≤ 140737488355328) => HB c atw hc kc q hq
  simp only [An, an, mg] at hs
  have q : ¬ ((([a, b, c] : List ae).length : Int) = 4) := by simp
  have q2 : aU ((([a, b, c] : List ae).length : Int) - 1) = 2 := rfl
  rw [q2]
  simp (disch := first | omega | (simp only [An, an, mg]; omega)) only [Int.reduceEq, if_true, if_false, sb, dk, gX, ik, il, aY, eK, lf, mB ea, yc, q, amb, aqR, aqS]
 case fe4 a b c d ha hd kd =>
  have ea := HX a atw ha
  have yd := fun q (hq : q.length + (Y d).length ≤ 140737488355328) => HB d atw hd kd q hq
  simp only [An, an, mg] at hs
  have q : ((([a, b, c, d] : List ae).length : Int) = 4) := by simp
  have q2 : aU ((([a, b, c, d] : List ae).length : Int) - 1) = 3 := rfl
  rw [q2]
  simp only [Int.reduceEq, if_false, if_true, q]
  simp (disch := first | omega | (simp only [An, an, mg]; omega)) only [Int.reduceEq, if_true, if_false, sb, dk, gX, ik, il, aY, eK, lf, Kb, mB ea, yd, amb, aqR, aqS]
 case vi h =>
  have e := hK (fun x hx => HY x hx (bI h x hx)) hs
  rw [e]
  simp only [Int.reduceEq, if_true, if_false, sb]
 case CD a b ha ka hb =>
  have e := hT2 a b rfl (HB a atw ha ka) (HC b atw hb) hs
  rw [e]
  simp only [Int.reduceEq, if_true, if_false, sb]
 case CE a b ha ka hb =>
  have e := hT2 a b rfl (HB a atw ha ka) (HF b atw hb) hs
  rw [e]
  simp only [Int.reduceEq, if_true, if_false, sb]
 case A9 a b c ha ka hb hc =>
  have e := hT3 a b c rfl (HB a atw ha ka) (HC b atw hb) (HF c atw hc) hs
  rw [e]
  simp only [Int.reduceEq, if_true, if_false, sb]
 case cat a b ha ka hb kb =>
  exact absurd rfl h44
 case fin a ha ka =>
  exact absurd rfl h45
end
set_option maxRecDepth 100000
theorem Zs {X Y : ae → ar} {k m : Int} {t : ar} {ks : List ae} {s : ar} (h : PS X Y k m t ks s) (hk : k = 44) : ∃ a c, ks = [a, c] ∧ vS c = true ∧ c.ai = 48 ∧ s = [32, 99, 97, 116, 99, 104, 32, 40] ++ t ++ [32, 36] ++ a.aj ++ [41, 32] ++ Y c := by
 cases h <;> first | (exfalso; omega) | exact ⟨_, _, rfl, by assumption, by assumption, rfl⟩
theorem Zt {X Y : ae → ar} {k m : Int} {t : ar} {ks : List ae} {s : ar} (h : PS X Y k m t ks s) (hk : k = 45) : ∃ a, ks = [a] ∧ vS a = true ∧ a.ai = 48 ∧ s = [32, 102, 105, 110, 97, 108, 108, 121, 32] ++ Y a := by
 cases h <;> first | (exfalso; omega) | exact ⟨_, rfl, by assumption, by assumption, rfl⟩
theorem Zu {X Y : ae → ar} {k m : Int} {t : ar} {ks : List ae} {s : ar} (h : PS X Y k m t ks s) (hk : k = 48) : ks.all vS = true ∧ s = [123, 32] ++ ks.flatMap (fun x => Y x ++ [32]) ++ [125] := by
 cases h <;> first | (exfalso; omega) | exact ⟨by assumption, rfl⟩
theorem aja {x : ae} (h : cat vE vS x = true) : x.ai = 44 := by
 rw [cat, As, beq_iff_eq] at h; exact h.1
theorem ajb {x : ae} (h : fin vS x = true) : x.ai = 45 := by
 rw [fin, As, beq_iff_eq] at h; exact h.1
theorem ajc {n : ae} (hw : wt n ≤ 1048576) (h : vS n = true) : ¬ n.ai = 44 ∧ ¬ n.ai = 45 := by
 obtain ⟨_, _, h3⟩ := D8 hw h
 constructor
 ·intro q
  rw [q] at h3; cases h3
 ·intro q
  rw [q] at h3; cases h3
theorem KK : ∀ (N : Nat) (n : ae), sz n < N → wt n ≤ 1048576 → sz n ≤ 600 → (vE n = true → IX tX n) ∧ (vS n = true → IY tY n ∧ (n.ai = 48 → IB tY n))
 | 0, n, h, _, _ => by omega
 | N + 1, n, h, hw, h6 => by
  have hk : ∀ x ∈ n.ah, _ := fun x hx => KK N x atI atT atI
  have ns : ∀ x ∈ n.ah, ∀ y ∈ x.ah, _ := fun x hx y hy => KK N y atG atJ atG
  have w1 := wk hw
  have s1 : ∀ x ∈ n.ah, sz x ≤ 600 := fun x hx => by have := dT hx; omega
  have HB : ∀ x ∈ n.ah, vS x = true → x.ai = 48 → IB tY x := fun x hx q => ((hk x hx).2 q).2
  refine ⟨fun hv => ⟨fun p hp => ?_, fun yW => ?_⟩, fun hv => ⟨fun p hp => ?_, fun Kh p hp => ?_⟩⟩
  ·exact OS n (pX hw h6 hv).2.2 hw (fun x hx q => (hk x hx).1 q) (fun x hx y hy q => (ns x hx y hy).1 q) HB p hp
  ·have h1 := (D7 hw hv).1
   rw [yW] at h1
   exact of_decide_eq_true h1
  ·have q := ajc hw hv
   refine OT n (pY hw h6 (jH hv)).2.2 hw q.1 q.2 (fun x hx q => (hk x hx).1 q) (fun x hx q => ((hk x hx).2 q).1) HB (fun x hx q => ?_) (fun x hx q => ?_) p hp
   ·have h44 := aja q
    obtain ⟨a, c, e1, e2, e3, e4⟩ := Zs (pY (w1 x hx) (s1 x hx) (Kv q)).2.2 h44
    exact ai8 h44 e1 (((ns x hx c (by rw [e1]; simp)).2 e2).2 e3) e4
   ·have h45 := ajb q
    obtain ⟨a, e1, e2, e3, e4⟩ := Zt (pY (w1 x hx) (s1 x hx) (Kw q)).2.2 h45
    exact ai9 h45 e1 (((ns x hx a (by rw [e1]; simp)).2 e2).2 e3) e4
  ·obtain ⟨e1, e2⟩ := Zu (pY hw h6 (jH hv)).2.2 Kh
   rw [e2] at hp ⊢
   exact KJ (fun x hx => ((hk x hx).2 (bI e1 x hx)).1) (OI hw).2 hp
theorem qB {n : ae} (hw : wt n ≤ 1048576) (h6 : sz n ≤ 600) (hv : vS n = true) (hk : n.ai = 48) : IB tY n := ((KK _ n (arI _) hw h6).2 hv).2 hk
set_option maxRecDepth 100000
theorem za {s : ar} (h : 1 ≤ s.length) (hb : s.length ≤ 140737488355328) : eE (aF.mk () s) = some (s, aF.mk () s) := by
 unfold eE
 rw [if_pos ⟨by intro q; simp only at q; rw [q] at h; simp at h, by simp only; omega⟩]
theorem xa (n : ae) (hw : wt n ≤ 1048576) : ∃ s, iM n = some s ∧ iT n = some s := by
 obtain ⟨e1, e2⟩ := CC n hw
 unfold iM iT
 rw [e1, e2, sb, sb]
 cases hv : vB n
 ·exact ⟨_, rfl, rfl⟩
 ·rw [vB, As, decide_eq_true_eq] at hv
  obtain ⟨Kh, hS⟩ := Kr hv.2
  obtain ⟨q1, q2, _⟩ := pY hw hv.1.1 (jH hS)
  have e4 := qB hw hv.1.1 hS Kh [] (by rw [mg]; have := q1.2; omega)
  rw [aqR] at e4
  refine ⟨tY n, ?_, ?_⟩
  ·rw [if_pos rfl, q1.1]; rfl
  ·rw [if_pos rfl, e4, sb, za q2.1 (by have := q1.2; omega)]; rfl
set_option maxRecDepth 100000
theorem Ed {α : Type} (a : List α) {L : List α → Int → Option (List α)} (hs : ∀ (l : List α) (k : Nat) (h : k < a.length), l.length = a.length → L l (k : Int) = L (l.set k a[k]) ((k + 1 : Nat) : Int))
  (he : ∀ l, L l (a.length : Int) = some l) : ∀ (f k : Nat) (l : List α), a.length ≤ k + f → k ≤ a.length → l.length = a.length → (∀ j, j < k → l[j]? = a[j]?) → L l (k : Int) = some a
 | f, k, l, hf, hk, hl, hj => by
  by_cases hc : k < a.length
  ·obtain ⟨g, rfl⟩ : ∃ g, f = g + 1 := ⟨f - 1, by omega⟩
   rw [hs l k hc hl]
   refine Ed a hs he g (k + 1) _ atu atu (by rw [asp]; exact hl) (fun j hj2 => ?_)
   rw [asw]
   by_cases h : k = j
   ·subst h
    rw [if_pos rfl, if_pos atu, Of hc]
   ·rw [if_neg h]; exact hj j atu
  ·have : k = a.length := by omega
   subst this
   rw [he l]
   congr 1
   refine List.ext_getElem? fun j => ?_
   by_cases h : j < a.length
   ·exact hj j h
   ·rw [arB atu, arB atu]
theorem mk_eq {α : Type} [Inhabited α] {b n : Nat} (hn : n ≤ 2000000) (hb : b ≤ 1000) : (xP b (n : Int) (n : Int) : Option (List α)) = some (List.replicate n default) := by
 unfold xP
 have : n * b ≤ 2000000 * 1000 := Nat.mul_le_mul hn hb
 rw [if_pos ⟨by omega, by omega, by omega, by simp only [Int.toNat_natCast]; omega⟩]; rfl
theorem xQ : ∀ (N : Nat) (n : ae), sz n < N → wt n ≤ 1048576 → gM n = some n
 | 0, n, h, _ => by omega
 | N + 1, n, h, hw => by
  have hl := (OI hw).2
  have e := Ed n.ah (L := gz n.ah) (fun l k hk nr => by
   rw [gz, if_pos atu, bB hk, sb, xQ N _ (by have := dT (arc hk); omega) (wk hw _ (arc hk)), sb, bB atu, sb, bU atu]; rfl)
   (fun l => by rw [gz, if_neg atu]) n.ah.length 0 (List.replicate n.ah.length default) atu atu atw (fun j h => absurd h atu)
  rw [show ((0 : Nat) : Int) = 0 from rfl] at e
  rw [gM, oS, mk_eq atu atu, sb, e]
  cases n; rfl
theorem tJ : ∀ (N : Nat) (n : ae), sz n < N → wt n ≤ 1048576 → jG n n = some true
 | 0, n, h, _ => by omega
 | N + 1, n, h, hw => by
  have hl := (OI hw).2
  have go : ∀ f i : Nat, n.ah.length ≤ i + f → gA n.ah n.ah (i : Int) = some (.inl ()) := by
   intro f
   induction f with
   | zero => intro i hi; rw [gA, if_neg atu]
   | succ f ih =>
    intro i hi
    rw [gA]
    by_cases hc : i < n.ah.length
    ·rw [if_pos atu, bB hc, sb, sb, tJ N _ (by have := dT (arc hc); omega) (wk hw _ (arc hc)), sb, if_pos rfl, bU atu, ih (i + 1) atu]
    ·rw [if_neg atu]
  have h0 := go n.ah.length 0 atu
  rw [show ((0 : Nat) : Int) = 0 from rfl] at h0
  rw [jG, if_pos rfl, if_pos rfl, if_pos rfl, oT, if_pos rfl, h0]; rfl
def Fit (n : ae) : Prop := n.aj.length ≤ 9223372036854775807 ∧ n.ah.length ≤ 9223372036854775807
inductive Bf : ae → Prop
 | mk (n : ae) (h : Fit n) (hk : ∀ x ∈ n.ah, Bf x) : Bf n
theorem Bf.inv {n : ae} (h : Bf n) : Fit n ∧ ∀ x ∈ n.ah, Bf x := by cases h; exact ⟨by assumption, by assumption⟩
theorem Bg : ∀ (l : List ae) (i : Nat) (h : i < l.length), G5 (l.drop i) = wt l[i] + G5 (l.drop (i + 1))
 | x :: r, 0, h => rfl
 | x :: r, i + 1, h => Bg r i atK
theorem TY : ∀ (N : Nat) (n : ae), sz n < N → Bf n → ∀ a : Int, 0 ≤ a → a ≤ 1048576 → ∃ v, jF n a = some v ∧ (v < 0 ∨ (v = a - (wt n : Int) ∧ 0 ≤ v))
 | 0, n, h, _, _, _, _ => by omega
 | N + 1, n, h, hF, a, h0, h1 => by
  obtain ⟨⟨f1, f2⟩, f3⟩ := hF.inv
  have hw := xJ n
  have go : ∀ (f i : Nat) (y : Int), n.ah.length ≤ i + f → 0 ≤ y → y ≤ 1048576 → fg n.ah y (i : Int) = some (.inr (-1)) ∨ ∃ v : Int, fg n.ah y (i : Int) = some (.inl v) ∧ v = y - (G5 (n.ah.drop i) : Int) ∧ 0 ≤ v := by
   intro f
   induction f with
   | zero =>
    intro i y hi q0 q1
    rw [fg, if_neg atu, aqV atu]
    exact .inr ⟨y, rfl, by simp [G5], q0⟩
   | succ f ih =>
    intro i y hi q0 q1
    rw [fg]
    by_cases hc : i < n.ah.length
    ·obtain ⟨v, e1, e2⟩ := TY N n.ah[i] (by have := dT (arc hc); omega) (f3 _ (arc hc)) y q0 q1
     rw [if_pos atu, bB hc, sb, e1, sb, bU atu]
     by_cases hv : v < 0
     ·rw [if_pos hv]; exact .inl rfl
     ·rw [if_neg hv]
      rcases e2 with e2 | ⟨e2, e3⟩
      ·exact absurd e2 hv
      ·rcases ih (i + 1) v atu e3 atu with g | ⟨u, g1, g2, g3⟩
       ·exact .inl g
       ·exact .inr ⟨u, g1, by rw [g2, Bg n.ah i hc, e2]; omega, g3⟩
    ·rw [if_neg atu, aqV atu]
     exact .inr ⟨y, rfl, by simp [G5], q0⟩
  have e1 : aU (a - (n.aj.length : Int)) = a - (n.aj.length : Int) := Ot atu atu
  rw [jF, e1]
  by_cases g1 : a - (n.aj.length : Int) < 0
  ·rw [if_pos g1]; exact ⟨-1, rfl, .inl atu⟩
  ·have e2 : aU (a - (n.aj.length : Int) - (n.ah.length : Int)) = a - (n.aj.length : Int) - (n.ah.length : Int) := Ot atu atu
   rw [if_neg g1, oU, e2]
   by_cases g2 : a - (n.aj.length : Int) - (n.ah.length : Int) < 0
   ·rw [if_pos g2]; exact ⟨-1, rfl, .inl atu⟩
   ·rw [if_neg g2]
    rcases go n.ah.length 0 (a - (n.aj.length : Int) - (n.ah.length : Int)) atu atu atu with g | ⟨v, q1, q2, q3⟩
    ·rw [show ((0 : Nat) : Int) = 0 from rfl] at g
     rw [g]; exact ⟨-1, rfl, .inl atu⟩
    ·rw [show ((0 : Nat) : Int) = 0 from rfl] at q1
     rw [arb] at q2
     rw [q1, sb, sb, if_neg atu]
     exact ⟨v, rfl, .inr ⟨by omega, q3⟩⟩
theorem vn (n : ae) (hF : Bf n) : fq n = some true := by
 unfold fq
 obtain ⟨v, e1, e2⟩ := TY _ n (arI _) hF 1048576 atu atu
 rw [e1, sb]
 by_cases hv : v < 0
 ·rw [if_pos hv]
 ·have hw : wt n ≤ 1048576 := by rcases e2 with e2 | e2 <;> omega
  obtain ⟨s, g1, g2⟩ := xa n hw
  have t1 := xQ _ n (arI _) hw
  have t2 := tJ _ n (arI _) hw
  simp only [hv, if_false, t1, t2, g1, g2, sb, if_true]
theorem Zv {n : ae} (h : n.Ok) : Bf n := by
 induction h with
 | mk a0 a1 a2 a3 h0 h1 h2 ih => exact .mk _ ⟨h0, h1⟩ ih
theorem wZ (n : ae) (h : n.Ok) : ACall Tryz.prog 3 [.agg n.lit] [] (fun res _ => res = .bool true) := (nE (vn n (Zv h))).mono (fun _ _ h => h.1)
end Go.Am
