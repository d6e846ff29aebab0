/- Steps that do nothing in the world: a row that its cell owns is brought to light, or put away. -/
import Derived.Test.YtcipcpjmialcoaaDoorBm9
set_option linter.unusedVariables false
set_option linter.unusedSimpArgs false
namespace Go.Am
open Go Go.RowKit
section
variable {P : Program} {T : Tab} {μ : Mu} {h h1 : List AObj} {S : Nat → Prop} {w : World}
theorem core_ex (hc : Core μ h S w) (hx : ExOk h h1) : ∃ μ', Fr μ h S w μ' h1 S w ∧ Core μ' h1 S w := by
 obtain ⟨id, g, sz, n, e, f, i, j, sz', n', e', f', F, f1, hh, hi, hj, hf1, hf2, rfl⟩ := hx
 have hid : id < h.length := (List.getElem?_eq_some_iff.1 hh).1
 obtain ⟨hl, hcell⟩ := hc.heap id g sz n e f hh
 have hjs : j < sz := by rw [← hl i hi]; exact (List.getElem?_eq_some_iff.1 hj).1
 have hval : ∃ b0 base0 cur0 v, μ id = some (b0, base0) ∧ w.heap[b0]? = some (.cells cur0 e (0, 0)) ∧ base0 + n * sz ≤ cur0.size ∧ cur0[base0 + i * sz + j]? = some v ∧ TRep S w (.osl sz' n' e' f' F) v ∧
   ∀ (i j : Nat) (pv : PV), i < n → (f i)[j]? = some pv → ∃ v : Value, cur0[base0 + i * sz + j]? = some v ∧ KRep μ h S w pv v := by
  cases hmu : μ id with
  | none => rw [hmu] at hcell; have hcell : n = 0 := hcell; omega
  | some p =>
   obtain ⟨b0, base0⟩ := p
   rw [hmu] at hcell
   obtain ⟨o, q1, q2⟩ := hcell
   cases o with
   | cells cur0 e0 z =>
    obtain ⟨rfl, rfl, q3, q4⟩ := q2
    obtain ⟨v, r1, r2⟩ := q4 i j _ hi hj
    exact ⟨b0, base0, cur0, v, rfl, q1, q3, r1, r2, q4⟩
   | map es c =>
    obtain ⟨kp, vp, en, y1, y2, y3, _⟩ := q2.2 i hi
    rw [y1] at hj
    match j, hj with
    | 0, hj => simp at hj; rw [hj] at y2; cases y2
    | 1, hj => simp at hj; rw [hj] at y3; cases y3
    | y + 2, hj => simp at hj
   | _ => exact q2.elim
 obtain ⟨b0, base0, cur0, v, hmu, hb0, hfit, hv0, htv, hcells⟩ := hval
 have hidF : ∀ b, F b → HidAt h id i j b := fun b hb => ⟨_, _, _, _, _, _, _, _, _, _, hh, hi, hj, hb⟩
 obtain ⟨p, hp⟩ : ∃ p : Option (Nat × Nat), match p with
   | none => v = .slice none 0 0 ∧ n' = 0
   | some (b, off) => F b ∧ ∃ (c : Nat) (a : Addr) (cur : Array Value), w.heap[b]? = some (.cells cur e' (0, 0)) ∧ v = .slice (some a) n' c ∧ n' ≤ c ∧ (0 < c → a = ⟨b, off, none⟩) ∧ off + c * sz' ≤ cur.size ∧ (∀ i, i < n' → (f' i).length = sz') ∧
     (∀ (i j : Nat) (pv : PV), i < n' → (f' i)[j]? = some pv → ∃ u, cur[off + i * sz' + j]? = some u ∧ (PRep S w pv u ∨ ∃ s2 n2 e2 f2 F2, pv = .osl s2 n2 e2 f2 F2 ∧ TRep S w (.osl s2 n2 e2 f2 F2) u)) ∧
     (∀ (i j sz2 n2 : Nat) (e2 : TypeId) (f2 : Nat → List PV) (F2 : Nat → Prop), i < n' → (f' i)[j]? = some (.osl sz2 n2 e2 f2 F2) → ∀ b', F2 b' → F b' ∧ b' ≠ b) ∧
     (∀ (i j sz2 n2 : Nat) (e2 : TypeId) (f2 : Nat → List PV) (F2 : Nat → Prop) (i' j' sz3 n3 : Nat) (e3 : TypeId) (f3 : Nat → List PV) (F3 : Nat → Prop), i < n' → (f' i)[j]? = some (.osl sz2 n2 e2 f2 F2) → i' < n' → (f' i')[j']? = some (.osl sz3 n3 e3 f3 F3) → ∀ b', F2 b' → F3 b' → i = i' ∧ j = j') := by
  cases htv with
  | nil _ _ _ _ hF => exact ⟨none, rfl, rfl⟩
  | blk _ _ _ _ _ b off c a cur vf hF hb hlen hcc ha hcap hcel hrep hosl hsub hdis =>
   refine ⟨some (b, off), hF, c, a, cur, hb, rfl, hcc, ha, hcap, hlen, fun i j pv hi hj => ⟨_, hcel i j pv hi hj, ?_⟩, hsub, hdis⟩
   rcases hrep i j pv hi hj with q | ⟨s2, n2, e2, f2, F2, rfl⟩
   ·exact .inl q
   ·exact .inr ⟨s2, n2, e2, f2, F2, rfl, hosl i j _ _ _ _ _ hi hj⟩
 have hpF : ∀ b off, p = some (b, off) → F b := fun b off hq => by subst hq; exact hp.1
 generalize hh1 : h.set id (AObj.row g sz n e f1) ++ [AObj.row 0 sz' n' e' f'] = h1
 have hlen1 : h1.length = h.length + 1 := by rw [← hh1]; simp
 have get_id : h1[id]? = some (AObj.row g sz n e f1) := by rw [← hh1, List.getElem?_append_left (by simpa using hid)]; simp [hid]
 have get_new : h1[h.length]? = some (AObj.row 0 sz' n' e' f') := by rw [← hh1, List.getElem?_append_right (by simp)]; simp
 have get_ne : ∀ k, k ≠ id → k < h.length → h1[k]? = h[k]? := fun k hk hkl => by rw [← hh1, List.getElem?_append_left (by simpa using hkl), List.getElem?_set_ne (Ne.symm hk)]
 have inv : ∀ k o, h1[k]? = some o → (k = id ∧ o = AObj.row g sz n e f1) ∨ (k = h.length ∧ o = AObj.row 0 sz' n' e' f') ∨ (k ≠ id ∧ k < h.length ∧ h[k]? = some o) := fun k o hk => by
  by_cases h2 : k = id
  ·subst h2; rw [get_id] at hk; injection hk with hk; exact .inl ⟨rfl, hk.symm⟩
  ·by_cases h3 : k = h.length
   ·subst h3; rw [get_new] at hk; injection hk with hk; exact .inr (.inl ⟨rfl, hk.symm⟩)
   ·have h4 : k < h.length := by have := (List.getElem?_eq_some_iff.1 hk).1; omega
    rw [get_ne k h2 h4] at hk
    exact .inr (.inr ⟨h2, h4, hk⟩)
 let μ1 : Mu := muSet μ h.length p
 have mu_new : μ1 h.length = p := muSet_self _ _ _
 have mu_old : ∀ k, k < h.length → μ1 k = μ k := fun k hk => muSet_ne μ _ (by omega)
 have hcell1 : ∀ x y pv, x < n → (f1 x)[y]? = some pv → ((x, y) = (i, j) ∧ pv = .own h.length 0 0 n') ∨ ((x, y) ≠ (i, j) ∧ (f x)[y]? = some pv) := fun x y pv hx hy => by
  by_cases hxi : x = i
  ·subst hxi
   rw [hf1, List.getElem?_set] at hy
   by_cases hyj : j = y
   ·subst hyj
    rw [if_pos rfl, if_pos (by rw [hl x hx]; exact hjs)] at hy
    injection hy with hy
    exact .inl ⟨rfl, hy.symm⟩
   ·rw [if_neg hyj] at hy
    exact .inr ⟨fun q => hyj (by injection q with _ q; exact q.symm), hy⟩
  ·rw [hf2 x hx hxi] at hy
   exact .inr ⟨fun q => hxi (by injection q), hy⟩
 have hidOld : ∀ k x y b, HidAt h1 k x y b → (k ≠ h.length ∧ ¬ (k = id ∧ x = i ∧ y = j) ∧ HidAt h k x y b) ∨ (k = h.length ∧ HidAt h id i j b ∧ ∃ sz2 n2 e2 f2 F2, x < n' ∧ (f' x)[y]? = some (.osl sz2 n2 e2 f2 F2) ∧ F2 b) := fun k x y b ⟨g2, s2, n2, e2, f2, s3, n3, e3, f3, F3, q1, q2, q3, q4⟩ => by
  rcases inv k _ q1 with ⟨rfl, ho⟩ | ⟨rfl, ho⟩ | ⟨h2, h3, h4⟩
  ·injection ho with a1 a2 a3 a4 a5
   subst a1 a2 a3 a4 a5
   rcases hcell1 x y _ q2 q3 with ⟨_, hq⟩ | ⟨hne, hq⟩
   ·cases hq
   ·exact .inl ⟨by omega, fun ⟨_, b1, b2⟩ => hne (by rw [b1, b2]), _, _, _, _, _, _, _, _, _, _, hh, q2, hq, q4⟩
  ·injection ho with a1 a2 a3 a4 a5
   subst a1 a2 a3 a4 a5
   refine .inr ⟨rfl, hidF b ?_, _, _, _, _, _, q2, q3, q4⟩
   cases p with
   | none => have := hp.2; omega
   | some pp =>
    obtain ⟨pb, poff⟩ := pp
    obtain ⟨_, _, _, _, _, _, _, _, _, _, _, hs, _⟩ := hp
    exact (hs x y _ _ _ _ _ q2 q3 b q4).1
  ·exact .inl ⟨by omega, fun ⟨b1, _⟩ => h2 b1, _, _, _, _, _, _, _, _, _, _, h4, q2, q3, q4⟩
 have visOld : ∀ b, Vis μ1 h1 b → Vis μ h b ∨ (∃ off, p = some (b, off)) := fun b ⟨k, g2, s2, n2, e2, f2, base, q1, q2⟩ => by
  rcases inv k _ q1 with ⟨rfl, ho⟩ | ⟨rfl, ho⟩ | ⟨h2, h3, h4⟩
  ·rw [mu_old k hid] at q2
   exact .inl ⟨k, _, _, _, _, _, _, hh, q2⟩
  ·rw [mu_new] at q2
   exact .inr ⟨base, q2⟩
  ·rw [mu_old k h3] at q2
   exact .inl ⟨k, _, _, _, _, _, _, h4, q2⟩
 have hown : ∀ b, Owned μ1 h1 b → Owned μ h b := fun b hb => by
  rcases hb with hb | ⟨k, x, y, hb⟩
  ·rcases visOld b hb with q | ⟨off, q⟩
   ·exact .inl q
   ·exact .inr ⟨_, _, _, hidF b (hpF b off q)⟩
  ·rcases hidOld k x y b hb with ⟨_, _, q⟩ | ⟨_, q, _⟩
   ·exact .inr ⟨_, _, _, q⟩
   ·exact .inr ⟨_, _, _, q⟩
 have hfr : Fr μ h S w μ1 h1 S w := by
  refine ⟨by omega, fun _ _ _ => rfl, fun _ hb => hb, fun _ hb => .inl hb, fun b hb => .inl (hown b hb), Nat.le_refl _, rfl, rfl, rfl, fun k g2 s2 n2 e2 f2 hk => ?_, fun k hk => ?_, fun _ _ _ hc => hc, fun k g2 s2 n2 e2 f2 b base hk hm hmb => ⟨hmb, .inr ⟨?_, ?_⟩⟩, fun _ _ _ _ _ hmb => hmb⟩
  ·have hkl := (List.getElem?_eq_some_iff.1 hk).1
   by_cases hki : k = id
   ·subst hki
    rw [hh] at hk
    injection hk with hk
    injection hk with a1 a2 a3 a4 a5
    subst a1 a2 a3 a4 a5
    rw [get_id]
    exact ⟨Nat.le_refl _, fun _ => ⟨mu_old _ hid, rfl, rfl, rfl⟩⟩
   ·rw [get_ne k hki hkl, hk]
    exact ⟨Nat.le_refl _, fun _ => ⟨mu_old k hkl, rfl, rfl, rfl⟩⟩
  ·have hkl := (List.getElem?_eq_some_iff.1 hk).1
   rw [get_ne k (by rintro rfl; rw [hh] at hk; cases hk) hkl]; exact hk
  ·have hkl := (List.getElem?_eq_some_iff.1 hk).1
   by_cases hki : k = id
   ·subst hki; exact ⟨_, _, _, _, _, get_id⟩
   ·exact ⟨_, _, _, _, _, (get_ne k hki hkl).trans hk⟩
  ·rw [mu_old k (List.getElem?_eq_some_iff.1 hk).1]; exact hm
 refine ⟨μ1, hfr, ⟨fun k g2 s2 n2 e2 f2 hk => ?_, ⟨fun b hb => hc.ok.apart b (hown b hb), fun b hb => hc.ok.lt b (hown b hb), hc.ok.slt, ?_, hc.ok.known, fun b hb k x y hx => ?_, fun b k x y k' x' y' hx hx' => ?_⟩⟩⟩
 ·rcases inv k _ hk with ⟨rfl, ho⟩ | ⟨rfl, ho⟩ | ⟨h2, h3, h4⟩
  ·injection ho with a1 a2 a3 a4 a5
   subst a1 a2 a3 a4 a5
   refine ⟨fun x hx => ?_, ?_⟩
   ·by_cases hxi : x = i
    ·subst hxi; rw [hf1, List.length_set]; exact hl x hx
    ·rw [hf2 x hx hxi]; exact hl x hx
   ·rw [mu_old k hid, hmu]
    refine ⟨_, hb0, rfl, rfl, hfit, fun x y pv hx hy => ?_⟩
    rcases hcell1 x y pv hx hy with ⟨hq, rfl⟩ | ⟨_, hq⟩
    ·injection hq with r1 r2
     subst r1 r2
     refine ⟨v, hv0, ?_⟩
     show OwnRep μ1 h1 w h.length 0 0 n' v
     unfold OwnRep
     rw [get_new]
     cases p with
     | none =>
      obtain ⟨rfl, rfl⟩ := hp
      exact ⟨⟨_, _, _, rfl⟩, Nat.le_refl _, fun _ => ⟨Nat.le_refl _, by rw [mu_new]⟩⟩
     | some pp =>
      obtain ⟨pb, poff⟩ := pp
      obtain ⟨_, c, a, cur, t1, rfl, t3, t4, t5, _⟩ := hp
      refine ⟨⟨_, _, _, rfl⟩, Nat.le_refl _, fun _ => ⟨by omega, ?_⟩⟩
      rw [mu_new]
      exact ⟨a, c, rfl, t3, fun h0 => by rw [t4 h0]; simp, cur, e', t1, by rw [Nat.zero_add]; exact t5⟩
    ·obtain ⟨u, r1, r2⟩ := hcells x y pv hx hq
     exact ⟨u, r1, r2.fr hfr hc.ok (fun _ _ _ _ _ _ _ _ => rfl)⟩
  ·injection ho with a1 a2 a3 a4 a5
   subst a1 a2 a3 a4 a5
   rw [mu_new]
   cases p with
   | none => exact ⟨fun x hx => by have := hp.2; omega, hp.2⟩
   | some pp =>
    obtain ⟨pb, poff⟩ := pp
    obtain ⟨_, c, a, cur, t1, _, t3, _, t5, t6, t7, _, _⟩ := hp
    refine ⟨t6, _, t1, rfl, rfl, Nat.le_trans (Nat.add_le_add_left (Nat.mul_le_mul_right _ t3) _) t5, fun x y pv hx hy => ?_⟩
    obtain ⟨u, r1, r2⟩ := t7 x y pv hx hy
    refine ⟨u, r1, ?_⟩
    rcases r2 with r2 | ⟨_, _, _, _, _, rfl, r2⟩
    ·exact (CRep.of_pure r2).k (PRep.no r2)
    ·exact r2
  ·obtain ⟨q1, q2⟩ := hc.heap k _ _ _ _ _ h4
   refine ⟨q1, ?_⟩
   rw [mu_old k h3]
   cases hm : μ k with
   | none => rw [hm] at q2; exact q2
   | some pp =>
    obtain ⟨b, base⟩ := pp
    rw [hm] at q2
    obtain ⟨o, r1, r2⟩ := q2
    exact ⟨o, r1, r2.mono (fun _ _ _ _ _ _ hr => hr.fr hfr hc.ok (fun _ _ _ _ _ _ _ _ => rfl))⟩
 ·intro a b ga sa na ea fa gb sb nb eb fb blk o o' ha hb hma hmb
  have old : ∀ k gk sk nk ek fk oo, h1[k]? = some (AObj.row gk sk nk ek fk) → μ1 k = some (blk, oo) → (k = h.length ∧ F blk) ∨ (k < h.length ∧ ∃ gk sk nk ek fk, h[k]? = some (AObj.row gk sk nk ek fk) ∧ μ k = some (blk, oo)) := fun k gk sk nk ek fk oo hk hm => by
   rcases inv k _ hk with ⟨rfl, ho⟩ | ⟨rfl, ho⟩ | ⟨h2, h3, h4⟩
   ·rw [mu_old k hid] at hm; exact .inr ⟨hid, _, _, _, _, _, hh, hm⟩
   ·rw [mu_new] at hm; exact .inl ⟨rfl, hpF _ _ hm⟩
   ·rw [mu_old k h3] at hm; exact .inr ⟨h3, _, _, _, _, _, h4, hm⟩
  rcases old a _ _ _ _ _ _ ha hma with ⟨rfl, q⟩ | ⟨q0, _, _, _, _, _, q1, q2⟩
  ·rcases old b _ _ _ _ _ _ hb hmb with ⟨rfl, _⟩ | ⟨r0, _, _, _, _, _, r1, r2⟩
   ·rfl
   ·exact absurd (hidF blk q) (hc.ok.hv blk ⟨b, _, _, _, _, _, _, r1, r2⟩ _ _ _)
  ·rcases old b _ _ _ _ _ _ hb hmb with ⟨rfl, r⟩ | ⟨r0, _, _, _, _, _, r1, r2⟩
   ·exact absurd (hidF blk r) (hc.ok.hv blk ⟨a, _, _, _, _, _, _, q1, q2⟩ _ _ _)
   ·exact hc.ok.inj a b _ _ _ _ _ _ _ _ _ _ _ _ _ q1 r1 q2 r2
 ·rcases visOld b hb with q | ⟨off, q⟩
  ·rcases hidOld k x y b hx with ⟨_, _, r⟩ | ⟨_, r, _⟩
   ·exact hc.ok.hv b q _ _ _ r
   ·exact hc.ok.hv b q _ _ _ r
  ·rcases hidOld k x y b hx with ⟨_, hne, r⟩ | ⟨_, r, sz2, n2, e2, f2, F2, r1, r2, r3⟩
   ·exact hne (hc.ok.hh b _ _ _ _ _ _ r (hidF b (hpF b off q)))
   ·subst q
    obtain ⟨_, _, _, _, _, _, _, _, _, _, _, hs, _⟩ := hp
    exact (hs x y _ _ _ _ _ r1 r2 b r3).2 rfl
 ·rcases hidOld k x y b hx with ⟨k1, hne, r⟩ | ⟨rfl, r, sz2, n2, e2, f2, F2, r1, r2, r3⟩
  ·rcases hidOld k' x' y' b hx' with ⟨k2, hne', r'⟩ | ⟨rfl, r', _⟩
   ·exact hc.ok.hh b _ _ _ _ _ _ r r'
   ·exact absurd (hc.ok.hh b _ _ _ _ _ _ r r') hne
  ·rcases hidOld k' x' y' b hx' with ⟨k2, hne', r'⟩ | ⟨rfl, r', sz3, n3, e3, f3, F3, t1, t2, t3⟩
   ·exact absurd (hc.ok.hh b _ _ _ _ _ _ r' r) hne'
   ·cases p with
    | none => have := hp.2; omega
    | some pp =>
     obtain ⟨pb, poff⟩ := pp
     obtain ⟨_, _, _, _, _, _, _, _, _, _, _, _, hd⟩ := hp
     obtain ⟨e1, e2⟩ := hd x y _ _ _ _ _ x' y' _ _ _ _ _ r1 r2 t1 t2 b r3 t3
     exact ⟨rfl, e1, e2⟩
def FAb (μ : Mu) (h : List AObj) (sub : Nat) (b : Nat) : Prop := (∃ g sz n e f base, h[sub]? = some (AObj.row g sz n e f) ∧ μ sub = some (b, base)) ∨ ∃ x y, HidAt h sub x y b
theorem core_ab (hc : Core μ h S w) {id i j sub : Nat} (hx : AbOk h id i j sub (FAb μ h sub) h1) : Fr μ h S w μ h1 S w ∧ Core μ h1 S w := by
 obtain ⟨g, sz, n, e, f, g2, sz2, n2, e2, f2, f1, hh, hs, hne, hi, hj, hpu, hf1, hf2, rfl⟩ := hx
 have hid : id < h.length := (List.getElem?_eq_some_iff.1 hh).1
 have hsl : sub < h.length := (List.getElem?_eq_some_iff.1 hs).1
 obtain ⟨hl, hcell⟩ := hc.heap id g sz n e f hh
 have hjs : j < sz := by rw [← hl i hi]; exact (List.getElem?_eq_some_iff.1 hj).1
 generalize hFF : FAb μ h sub = F
 rw [hFF] at hf1
 have hFown : ∀ b, F b → Owned μ h b := fun b hb => by
  rw [← hFF] at hb
  rcases hb with ⟨g, sz, n, e, f, base, q1, q2⟩ | ⟨x, y, q⟩
  ·exact .inl ⟨sub, _, _, _, _, _, _, q1, q2⟩
  ·exact .inr ⟨_, _, _, q⟩
 generalize hh1 : (h.set id (AObj.row g sz n e f1)).set sub AObj.dead = h1
 have get_id : h1[id]? = some (AObj.row g sz n e f1) := by rw [← hh1, List.getElem?_set_ne (Ne.symm hne)]; simp [hid]
 have get_sub : h1[sub]? = some AObj.dead := by rw [← hh1, List.getElem?_set_self (by simpa using hsl)]
 have get_ne : ∀ k, k ≠ id → k ≠ sub → h1[k]? = h[k]? := fun k h2 h3 => by rw [← hh1, List.getElem?_set_ne (Ne.symm h3), List.getElem?_set_ne (Ne.symm h2)]
 have inv : ∀ k gk sk nk ek fk, h1[k]? = some (AObj.row gk sk nk ek fk) → k ≠ sub ∧ ((k = id ∧ AObj.row gk sk nk ek fk = AObj.row g sz n e f1) ∨ (k ≠ id ∧ h[k]? = some (AObj.row gk sk nk ek fk))) := fun k gk sk nk ek fk hk => by
  have h3 : k ≠ sub := by rintro rfl; rw [get_sub] at hk; cases hk
  refine ⟨h3, ?_⟩
  by_cases h2 : k = id
  ·subst h2; rw [get_id] at hk; injection hk with hk; exact .inl ⟨rfl, hk.symm⟩
  ·rw [get_ne k h2 h3] at hk; exact .inr ⟨h2, hk⟩
 have hcell1 : ∀ x y pv, x < n → (f1 x)[y]? = some pv → ((x = i ∧ y = j) ∧ pv = .osl sz2 n2 e2 f2 F) ∨ (¬ (x = i ∧ y = j) ∧ (f x)[y]? = some pv) := fun x y pv hx hy => by
  by_cases hxi : x = i
  ·subst hxi
   rw [hf1, List.getElem?_set] at hy
   by_cases hyj : j = y
   ·subst hyj
    rw [if_pos rfl, if_pos (by rw [hl x hx]; exact hjs)] at hy
    injection hy with hy
    exact .inl ⟨⟨rfl, rfl⟩, hy.symm⟩
   ·rw [if_neg hyj] at hy
    exact .inr ⟨fun q => hyj q.2.symm, hy⟩
  ·rw [hf2 x hx hxi] at hy
   exact .inr ⟨fun q => hxi q.1, hy⟩
 have hidOld : ∀ k x y b, HidAt h1 k x y b → (k = id ∧ x = i ∧ y = j ∧ F b) ∨ (k ≠ sub ∧ ¬ (k = id ∧ x = i ∧ y = j) ∧ HidAt h k x y b) := fun k x y b ⟨g3, s3, n3, e3, f3, s4, n4, e4, f4, F4, q1, q2, q3, q4⟩ => by
  obtain ⟨h3, hq⟩ := inv k _ _ _ _ _ q1
  rcases hq with ⟨rfl, ho⟩ | ⟨h2, h4⟩
  ·injection ho with a1 a2 a3 a4 a5
   subst a1 a2 a3 a4 a5
   rcases hcell1 x y _ q2 q3 with ⟨⟨r1, r2⟩, hq⟩ | ⟨hne', hq⟩
   ·injection hq with _ _ _ _ hq
    subst hq
    exact .inl ⟨rfl, r1, r2, q4⟩
   ·exact .inr ⟨h3, fun ⟨_, b1⟩ => hne' b1, _, _, _, _, _, _, _, _, _, _, hh, q2, hq, q4⟩
  ·exact .inr ⟨h3, fun ⟨b1, _⟩ => h2 b1, _, _, _, _, _, _, _, _, _, _, h4, q2, q3, q4⟩
 have visOld : ∀ b, Vis μ h1 b → ∃ k gk sk nk ek fk base, k ≠ sub ∧ h[k]? = some (AObj.row gk sk nk ek fk) ∧ μ k = some (b, base) := fun b ⟨k, g3, s3, n3, e3, f3, base, q1, q2⟩ => by
  obtain ⟨h3, hq⟩ := inv k _ _ _ _ _ q1
  rcases hq with ⟨rfl, ho⟩ | ⟨h2, h4⟩
  ·exact ⟨k, _, _, _, _, _, _, h3, hh, q2⟩
  ·exact ⟨k, _, _, _, _, _, _, h3, h4, q2⟩
 have hown : ∀ b, Owned μ h1 b → Owned μ h b := fun b hb => by
  rcases hb with hb | ⟨k, x, y, hb⟩
  ·obtain ⟨k, _, _, _, _, _, _, _, q1, q2⟩ := visOld b hb
   exact .inl ⟨k, _, _, _, _, _, _, q1, q2⟩
  ·rcases hidOld k x y b hb with ⟨_, _, _, q⟩ | ⟨_, _, q⟩
   ·exact hFown b q
   ·exact .inr ⟨_, _, _, q⟩
 have hfr : Fr μ h S w μ h1 S w := by
  refine ⟨by rw [← hh1]; simp, fun _ _ _ => rfl, fun _ hb => hb, fun _ hb => .inl hb, fun b hb => .inl (hown b hb), Nat.le_refl _, rfl, rfl, rfl, fun k g3 s3 n3 e3 f3 hk => ?_, fun k hk => ?_, fun _ _ _ hc => hc, fun k g3 s3 n3 e3 f3 b base hk hm hmb => ⟨hmb, ?_⟩, fun _ _ _ _ _ hmb => hmb⟩
  ·by_cases hki : k = id
   ·subst hki
    rw [hh] at hk
    injection hk with hk
    injection hk with a1 a2 a3 a4 a5
    subst a1 a2 a3 a4 a5
    rw [get_id]
    exact ⟨Nat.le_refl _, fun _ => ⟨rfl, rfl, rfl, rfl⟩⟩
   ·by_cases hks : k = sub
    ·subst hks; rw [get_sub]; trivial
    ·rw [get_ne k hki hks, hk]
     exact ⟨Nat.le_refl _, fun _ => ⟨rfl, rfl, rfl, rfl⟩⟩
  ·by_cases hks : k = sub
   ·subst hks; exact get_sub
   ·rw [get_ne k (by rintro rfl; rw [hh] at hk; cases hk) hks]; exact hk
  ·by_cases hks : k = sub
   ·subst hks; exact .inl get_sub
   ·refine .inr ⟨?_, hm⟩
    by_cases hki : k = id
    ·subst hki; exact ⟨_, _, _, _, _, get_id⟩
    ·exact ⟨_, _, _, _, _, (get_ne k hki hks).trans hk⟩
 have hFhid : ∀ k x y b, k ≠ sub → HidAt h k x y b → ¬ F b := fun k x y b hk hx hF => by
  rw [← hFF] at hF
  rcases hF with ⟨_, _, _, _, _, _, q1, q2⟩ | ⟨_, _, q⟩
  ·exact hc.ok.hv b ⟨sub, _, _, _, _, _, _, q1, q2⟩ _ _ _ hx
  ·exact hk (hc.ok.hh b _ _ _ _ _ _ hx q).1
 refine ⟨hfr, ⟨fun k g3 s3 n3 e3 f3 hk => ?_, ⟨fun b hb => hc.ok.apart b (hown b hb), fun b hb => hc.ok.lt b (hown b hb), hc.ok.slt, ?_, hc.ok.known, fun b hb k x y hx => ?_, fun b k x y k' x' y' hx hx' => ?_⟩⟩⟩
 ·obtain ⟨h3, hq⟩ := inv k _ _ _ _ _ hk
  rcases hq with ⟨rfl, ho⟩ | ⟨h2, h4⟩
  ·injection ho with a1 a2 a3 a4 a5
   subst a1 a2 a3 a4 a5
   refine ⟨fun x hx => ?_, ?_⟩
   ·by_cases hxi : x = i
    ·subst hxi; rw [hf1, List.length_set]; exact hl x hx
    ·rw [hf2 x hx hxi]; exact hl x hx
   ·cases hmu : μ k with
    | none => rw [hmu] at hcell; exact hcell
    | some p =>
     obtain ⟨b0, base0⟩ := p
     rw [hmu] at hcell
     obtain ⟨o, q1, q2⟩ := hcell
     refine ⟨o, q1, ?_⟩
     cases o with
     | cells cur0 e0 z =>
      obtain ⟨rfl, rfl, q3, q4⟩ := q2
      refine ⟨rfl, rfl, q3, fun x y pv hx hy => ?_⟩
      rcases hcell1 x y pv hx hy with ⟨⟨rfl, rfl⟩, rfl⟩ | ⟨_, hq⟩
      ·obtain ⟨v, r1, r2⟩ := q4 x y _ hx hj
       refine ⟨v, r1, ?_⟩
       show TRep S w (.osl sz2 n2 e2 f2 F) v
       have r2 : OwnRep μ h w sub g2 0 n2 v := r2
       unfold OwnRep at r2
       rw [hs] at r2
       obtain ⟨_, _, r3⟩ := r2
       obtain ⟨_, r4⟩ := r3 rfl
       obtain ⟨s1, s2⟩ := hc.heap sub _ _ _ _ _ hs
       cases hms : μ sub with
       | none =>
        rw [hms] at r4 s2
        have s2 : n2 = 0 := s2
        have r4 : v = .slice none 0 0 := r4
        subst s2 r4
        refine .nil _ _ _ _ (fun b hb => ?_)
        rw [← hFF] at hb
        rcases hb with ⟨_, _, _, _, _, _, _, t2⟩ | ⟨x', y', t1, t2, t3, t4, t5, t6, t7, t8, t9, t10, u1, u2, u3, u4⟩
        ·rw [hms] at t2; cases t2
        ·rw [hs] at u1
         injection u1 with u1
         injection u1 with _ _ u1 _ _
         omega
       | some p =>
        obtain ⟨b, base⟩ := p
        rw [hms] at r4 s2
        obtain ⟨a, cap, rfl, t2, t3, t4⟩ := r4
        obtain ⟨cur, u1, u2, u3⟩ := HeapRep.cells t4 s2
        have hcap : base + cap * sz2 ≤ cur.size := by
         obtain ⟨cur', e', p1, p2⟩ := t4
         rw [u1] at p1
         injection p1 with p1
         injection p1 with p1 _ _
         subst p1
         rw [Nat.zero_add] at p2
         exact p2
        have vis : Vis μ h b := ⟨sub, _, _, _, _, _, _, hs, hms⟩
        have hidS : ∀ (x y s5 n5 : Nat) (e5 : TypeId) (f5 : Nat → List PV) (F5 : Nat → Prop), x < n2 → (f2 x)[y]? = some (.osl s5 n5 e5 f5 F5) → ∀ b', F5 b' → HidAt h sub x y b' := fun x y s5 n5 e5 f5 F5 hx hy b' hb' => ⟨_, _, _, _, _, _, _, _, _, _, hs, hx, hy, hb'⟩
        refine .blk sz2 n2 e2 f2 F b base cap a cur (fun x y => (cur[base + x * sz2 + y]?).getD undef) (by rw [← hFF]; exact .inl ⟨_, _, _, _, _, _, hs, hms⟩) u1 s1 t2 (fun h0 => by rw [t3 h0]; simp) hcap (fun x y pv hx hy => ?_) (fun x y pv hx hy => ?_) (fun x y s5 n5 e5 f5 F5 hx hy => ?_) (fun x y s5 n5 e5 f5 F5 hx hy b' hb' => ?_) (fun x y s5 n5 e5 f5 F5 x' y' s6 n6 e6 f6 F6 hx hy hx' hy' b' hb' hb6 => ?_)
        ·obtain ⟨u, w1, _⟩ := u3 x y pv hx hy
         rw [w1]; rfl
        ·obtain ⟨u, w1, w2⟩ := u3 x y pv hx hy
         rw [w1]
         rcases hpu x hx pv (List.mem_of_getElem? hy) with z1 | z1
         ·exact .inl (crep_pure z1 w2.c)
         ·exact .inr (by cases pv <;> first | exact ⟨_, _, _, _, _, rfl⟩ | cases z1)
        ·obtain ⟨u, w1, w2⟩ := u3 x y _ hx hy
         rw [w1]
         exact w2
        ·have hq := hidS x y s5 n5 e5 f5 F5 hx hy b' hb'
         refine ⟨by rw [← hFF]; exact .inr ⟨_, _, hq⟩, ?_⟩
         rintro rfl
         exact hc.ok.hv b' vis _ _ _ hq
        ·exact (hc.ok.hh b' _ _ _ _ _ _ (hidS x y s5 n5 e5 f5 F5 hx hy b' hb') (hidS x' y' s6 n6 e6 f6 F6 hx' hy' b' hb6)).2
      ·obtain ⟨u, r1, r2⟩ := q4 x y pv hx hq
       exact ⟨u, r1, r2.fr hfr hc.ok (fun _ _ _ _ _ _ _ _ => rfl)⟩
     | map es c =>
      obtain ⟨kp, vp, en, y1, y2, y3, _⟩ := q2.2 i hi
      rw [y1] at hj
      match j, hj with
      | 0, hj => simp at hj; rw [hj] at y2; cases y2
      | 1, hj => simp at hj; rw [hj] at y3; cases y3
      | y + 2, hj => simp at hj
     | _ => exact q2.elim
  ·obtain ⟨q1, q2⟩ := hc.heap k _ _ _ _ _ h4
   refine ⟨q1, ?_⟩
   cases hm : μ k with
   | none => rw [hm] at q2; exact q2
   | some pp =>
    obtain ⟨b, base⟩ := pp
    rw [hm] at q2
    obtain ⟨o, r1, r2⟩ := q2
    exact ⟨o, r1, r2.mono (fun _ _ _ _ _ _ hr => hr.fr hfr hc.ok (fun _ _ _ _ _ _ _ _ => rfl))⟩
 ·intro a b ga sa na ea fa gb sb nb eb fb blk o o' ha hb hma hmb
  have old : ∀ k gk sk nk ek fk, h1[k]? = some (AObj.row gk sk nk ek fk) → ∃ gk sk nk ek fk, h[k]? = some (AObj.row gk sk nk ek fk) := fun k gk sk nk ek fk hk => by
   rcases (inv k _ _ _ _ _ hk).2 with ⟨rfl, _⟩ | ⟨_, q⟩
   ·exact ⟨_, _, _, _, _, hh⟩
   ·exact ⟨_, _, _, _, _, q⟩
  obtain ⟨_, _, _, _, _, q1⟩ := old a _ _ _ _ _ ha
  obtain ⟨_, _, _, _, _, q2⟩ := old b _ _ _ _ _ hb
  exact hc.ok.inj a b _ _ _ _ _ _ _ _ _ _ _ _ _ q1 q2 hma hmb
 ·obtain ⟨k0, _, _, _, _, _, _, q0, q1, q2⟩ := visOld b hb
  rcases hidOld k x y b hx with ⟨_, _, _, q⟩ | ⟨_, _, q⟩
  ·rw [← hFF] at q
   rcases q with ⟨_, _, _, _, _, _, r1, r2⟩ | ⟨_, _, r⟩
   ·exact q0 (hc.ok.inj k0 sub _ _ _ _ _ _ _ _ _ _ _ _ _ q1 r1 q2 r2)
   ·exact hc.ok.hv b ⟨k0, _, _, _, _, _, _, q1, q2⟩ _ _ _ r
  ·exact hc.ok.hv b ⟨k0, _, _, _, _, _, _, q1, q2⟩ _ _ _ q
 ·rcases hidOld k x y b hx with ⟨rfl, rfl, rfl, q⟩ | ⟨k1, _, q⟩
  ·rcases hidOld k' x' y' b hx' with ⟨rfl, rfl, rfl, _⟩ | ⟨k2, _, r⟩
   ·exact ⟨rfl, rfl, rfl⟩
   ·exact absurd q (hFhid _ _ _ _ k2 r)
  ·rcases hidOld k' x' y' b hx' with ⟨rfl, rfl, rfl, r⟩ | ⟨k2, _, r⟩
   ·exact absurd r (hFhid _ _ _ _ k1 q)
   ·exact hc.ok.hh b _ _ _ _ _ _ q r
variable {C : Start} {env : Env} {a : Act}
theorem Sim.turn (hs : Sim C μ h S env a w) {μ' : Mu} (hf : Fr μ h S w μ' h1 S w) (hc : Core μ' h1 S w) : Sim C μ' h1 S env a w :=
 ⟨hc, hs.fr.trans hf, fun t => (hs.tmps t).fr hf hs.core.ok, hs.size, hs.far, hs.defers⟩
theorem Sim.ex (hs : Sim C μ h S env a w) (hx : ExOk h h1) : ∃ μ', Sim C μ' h1 S env a w := by
 obtain ⟨μ', hf, hc⟩ := core_ex hs.core hx
 exact ⟨μ', hs.turn hf hc⟩
theorem Sim.ab (hs : Sim C μ h S env a w) {id i j sub : Nat} {h1 : (Nat → Prop) → List AObj} (ha : ∀ F, AbOk h id i j sub F (h1 F)) : ∃ F, Sim C μ (h1 F) S env a w := by
 obtain ⟨hf, hc⟩ := core_ab hs.core (ha (FAb μ h sub))
 exact ⟨_, hs.turn hf hc⟩
end
end Go.Am
