/- Texts of the proof, joined and shortened. -/
import Derived.Test.YtiigfbapjeefbaaGreatDoorPk8
set_option linter.unusedVariables false
set_option linter.unusedSimpArgs false
set_option maxRecDepth 100000
namespace Go.Am
open Go Go.RowKit Go.Proofs
def mU (m : Int) : Int := (dk m).getD 0
def Ch (m : Int) : aq := (jw m).getD []
def lvl (n : ae) : Int :=
 if n.ai = 15 ∨ n.ai = 16 ∨ n.ai = 17 then 1 else if n.ai = 14 then 2 else if n.ai = 13 then 3 else if n.ai = 12 then 4 else if n.ai = 11 then 5 else if n.ai = 10 then mU n.aC
 else if n.ai = 9 then 11 else 12
def vi (k : Int) : Bool → List ae → aq
 | _, [] => []
 | f, x :: r => bif x.ai == k then (bif f then [] else [44, 32]) ++ (bif x.aC == 1 then [38] else []) ++ [36] ++ x.aj ++ vi k false r else vi k f r
def params (ks : List ae) (k : Int) : aq := [40] ++ vi k true ks ++ [41]
section
variable (X Y : ae → aq)
def nq (n : ae) (k : Int) : aq := if lvl n < k then [40] ++ X n ++ [41] else X n
def jn : Bool → List ae → aq
 | _, [] => []
 | f, x :: r => (bif f then [] else [44, 32]) ++ nq X x 1 ++ jn false r
def jm (ks : List ae) : aq := [40] ++ jn X true ks ++ [41]
def pr1 (x : ae) : aq := match x.ah with
 | [] => []
 | [a] => nq X a 1
 | a :: b :: _ => nq X a 1 ++ [32, 61, 62, 32] ++ nq X b 1
def wH : Bool → List ae → aq
 | _, [] => []
 | f, x :: r => (bif f then [] else [44, 32]) ++ pr1 X x ++ wH false r
def two (a : ae) (i : Int) (s : aq) (b : ae) (j : Int) : aq := nq X a i ++ s ++ nq X b j
def Qc (m : Int) : aq := if m = 0 then [110, 117, 108, 108] else if m = 1 then [102, 97, 108, 115, 101] else [116, 114, 117, 101]
def unW (m : Int) : aq := if m = 1 then [33] else [45]
inductive PX : Int → Int → aq → List ae → aq → Prop
 | num (m : Int) (t : aq) (h0 : 0 ≤ m) (h1 : m ≤ 1000000000) : PX 1 m t [] (Lib.itoa m)
 | txt (m : Int) (t : aq) (h0 : t.length ≤ 400) : PX 2 m t [] (qt t)
 | cst (m : Int) (t : aq) (h0 : 0 ≤ m) (h1 : m ≤ 2) : PX 3 m t [] (Qc m)
 | var (m : Int) (t : aq) : PX 4 m t [] ([36] ++ t)
 | arr (m : Int) (t : aq) (ks : List ae) (h : ks.all (Ce vE) = true) : PX 5 m t ks ([91] ++ wH X true ks ++ [93])
 | ix (m : Int) (t : aq) (a b : ae) (ha : vE a = true) (hb : vE b = true) : PX 7 m t [a, b] (two X a 12 [91] b 1 ++ [93])
 | fld (m : Int) (t : aq) (a : ae) (ha : vE a = true) : PX 8 m t [a] (nq X a 12 ++ [45, 62] ++ t)
 | un (m : Int) (t : aq) (a : ae) (h0 : 1 ≤ m) (h1 : m ≤ 2) (ha : vE a = true) : PX 9 m t [a] (unW m ++ nq X a 11)
 | bin (m : Int) (t : aq) (a b : ae) (h0 : 1 ≤ m) (h1 : m ≤ 15) (ha : vE a = true) (hb : vE b = true) : PX 10 m t [a, b] (two X a (mU m) ([32] ++ Ch m ++ [32]) b (mU m + 1))
 | and (m : Int) (t : aq) (a b : ae) (ha : vE a = true) (hb : vE b = true) : PX 11 m t [a, b] (two X a 5 [32, 38, 38, 32] b 6)
 | or (m : Int) (t : aq) (a b : ae) (ha : vE a = true) (hb : vE b = true) : PX 12 m t [a, b] (two X a 4 [32, 124, 124, 32] b 5)
 | akw (m : Int) (t : aq) (a b : ae) (ha : vE a = true) (hb : vE b = true) : PX 13 m t [a, b] (two X a 4 [32, 63, 63, 32] b 3)
 | cond (m : Int) (t : aq) (a b c : ae) (ha : vE a = true) (hb : vE b = true) (hc : vE c = true) : PX 14 m t [a, b, c] (two X a 3 [32, 63, 32] b 1 ++ [32, 58, 32] ++ nq X c 2)
 | asg (m : Int) (t : aq) (a b : ae) (ha : vE a = true) (hb : vE b = true) : PX 15 m t [a, b] (two X a 12 [32, 61, 32] b 1)
 | app (m : Int) (t : aq) (a b : ae) (ha : vE a = true) (hb : vE b = true) : PX 16 m t [a, b] (two X a 12 [91, 93, 32, 61, 32] b 1)
 | ref (m : Int) (t : aq) (a : ae) : PX 17 m t [a] ([36] ++ t ++ [32, 61, 32, 38, 36] ++ a.aj)
 | call (m : Int) (t : aq) (ks : List ae) (h : ks.all vE = true) : PX 18 m t ks (t ++ jm X ks)
 | stat (m : Int) (t : aq) (ks : List ae) (h : ks.all vE = true) : PX 21 m t ks (t ++ jm X ks)
 | new (m : Int) (t : aq) (ks : List ae) (h : ks.all vE = true) : PX 22 m t ks ([110, 101, 119, 32] ++ t ++ jm X ks)
 | Qd (m : Int) (t : aq) (a : ae) (r : List ae) (ha : vE a = true) (h : r.all vE = true) (h8 : a.ai = 8) : PX 19 m t (a :: r) ([40] ++ X a ++ [41] ++ jm X r)
 | dyn (m : Int) (t : aq) (a : ae) (r : List ae) (ha : vE a = true) (h : r.all vE = true) (h8 : ¬ a.ai = 8) : PX 19 m t (a :: r) (nq X a 12 ++ jm X r)
 | met (m : Int) (t : aq) (a : ae) (r : List ae) (ha : vE a = true) (h : r.all vE = true) : PX 20 m t (a :: r) (nq X a 12 ++ [45, 62] ++ t ++ jm X r)
 | lv (m : Int) (t : aq) (l : List ae) (z : ae) (hu : vh true false l = true) (tS : ¬ ∃ x ∈ l, x.ai = 25) (hk : z.ai = 48) (hz : vS z = true) : PX 23 m t (l ++ [z]) ([102, 117, 110, 99, 116, 105, 111, 110, 32] ++ params (l ++ [z]) 24 ++ [32] ++ Y z)
 | Qe (m : Int) (t : aq) (l : List ae) (z : ae) (hu : vh true false l = true) (tS : ∃ x ∈ l, x.ai = 25) (hk : z.ai = 48) (hz : vS z = true) : PX 23 m t (l ++ [z]) ([102, 117, 110, 99, 116, 105, 111, 110, 32] ++ params (l ++ [z]) 24 ++ [32, 117, 115, 101, 32] ++ params (l ++ [z]) 25 ++ [32] ++ Y z)
inductive PS : Int → Int → aq → List ae → aq → Prop
 | htm (m : Int) (t : aq) : PS 31 m t [] ([63, 62, 10] ++ t ++ [60, 63, 32])
 | P8 (m : Int) (t : aq) (a : ae) (ha : vE a = true) : PS 32 m t [a] ([101, 99, 104, 111, 32] ++ nq X a 1 ++ [59])
 | expr (m : Int) (t : aq) (a : ae) (ha : vE a = true) : PS 33 m t [a] (nq X a 1 ++ [59])
 | thr (m : Int) (t : aq) (a : ae) (ha : vE a = true) : PS 42 m t [a] ([116, 104, 114, 111, 119, 32] ++ nq X a 1 ++ [59])
 | brk (m : Int) (t : aq) : PS 37 m t [] [98, 114, 101, 97, 107, 59]
 | cont (m : Int) (t : aq) : PS 38 m t [] [99, 111, 110, 116, 105, 110, 117, 101, 59]
 | LP (m : Int) (t : aq) : PS 39 m t [] [114, 101, 116, 117, 114, 110, 59]
 | P9 (m : Int) (t : aq) (a : ae) (ha : vE a = true) : PS 39 m t [a] ([114, 101, 116, 117, 114, 110, 32] ++ nq X a 1 ++ [59])
 | glb (m : Int) (t : aq) : PS 40 m t [] ([103, 108, 111, 98, 97, 108, 32, 36] ++ t ++ [59])
 | uns (m : Int) (t : aq) (a : ae) (ha : vE a = true) : PS 41 m t [a] ([117, 110, 115, 101, 116, 40] ++ nq X a 12 ++ [41, 59])
 | if2 (m : Int) (t : aq) (a b : ae) (ha : vE a = true) (hb : vS b = true) (kb : b.ai = 48) : PS 34 m t [a, b] ([105, 102, 32, 40] ++ nq X a 1 ++ [41, 32] ++ Y b)
 | if3 (m : Int) (t : aq) (a b c : ae) (ha : vE a = true) (hb : vS b = true) (kb : b.ai = 48) (hc : vS c = true) (kc : c.ai = 48) : PS 34 m t [a, b, c] ([105, 102, 32, 40] ++ nq X a 1 ++ [41, 32] ++ Y b ++ [32, 101, 108, 115, 101, 32] ++ Y c)
 | whl (m : Int) (t : aq) (a b : ae) (ha : vE a = true) (hb : vS b = true) (kb : b.ai = 48) : PS 35 m t [a, b] ([119, 104, 105, 108, 101, 32, 40] ++ nq X a 1 ++ [41, 32] ++ Y b)
 | fe3 (m : Int) (t : aq) (a b c : ae) (ha : vE a = true) (hc : vS c = true) (kc : c.ai = 48) : PS 36 m t [a, b, c] ([102, 111, 114, 101, 97, 99, 104, 32, 40] ++ nq X a 1 ++ [32, 97, 115, 32, 36] ++ b.aj ++ [41, 32] ++ Y c)
 | fe4 (m : Int) (t : aq) (a b c d : ae) (ha : vE a = true) (hd : vS d = true) (kd : d.ai = 48) : PS 36 m t [a, b, c, d] ([102, 111, 114, 101, 97, 99, 104, 32, 40] ++ nq X a 1 ++ [32, 97, 115, 32, 36] ++ b.aj ++ [32, 61, 62, 32, 36] ++ c.aj ++ [41, 32] ++ Y d)
 | yl1 (m : Int) (t : aq) (a : ae) (ha : vE a = true) : PS 46 m t [a] ([121, 105, 101, 108, 100, 32] ++ nq X a 1 ++ [59])
 | yl2 (m : Int) (t : aq) (a b : ae) (ha : vE a = true) (hb : vE b = true) : PS 46 m t [a, b] ([36] ++ a.aj ++ [32, 61, 32, 121, 105, 101, 108, 100, 32] ++ nq X b 1 ++ [59])
 | inc (m : Int) (t : aq) (h0 : t.length ≤ 400) : PS 47 m t [] ([105, 110, 99, 108, 117, 100, 101, 32] ++ qt t ++ [59])
 | wG (m : Int) (t : aq) (ks : List ae) (h : ks.all vS = true) : PS 48 m t ks ([123, 32] ++ ks.flatMap (fun x => Y x ++ [32]) ++ [125])
 | DN (m : Int) (t : aq) (a b : ae) (ha : vS a = true) (ka : a.ai = 48) (hb : cat vE vS b = true) : PS 43 m t [a, b] ([116, 114, 121, 32] ++ Y a ++ Y b)
 | DO (m : Int) (t : aq) (a b : ae) (ha : vS a = true) (ka : a.ai = 48) (hb : fin vS b = true) : PS 43 m t [a, b] ([116, 114, 121, 32] ++ Y a ++ Y b)
 | Cg (m : Int) (t : aq) (a b c : ae) (ha : vS a = true) (ka : a.ai = 48) (hb : cat vE vS b = true) (hc : fin vS c = true) : PS 43 m t [a, b, c] ([116, 114, 121, 32] ++ Y a ++ Y b ++ Y c)
 | cat (m : Int) (t : aq) (a b : ae) (ha : vE a = true) (ka : a.ai = 4) (hb : vS b = true) (kb : b.ai = 48) : PS 44 m t [a, b] ([32, 99, 97, 116, 99, 104, 32, 40] ++ t ++ [32, 36] ++ a.aj ++ [41, 32] ++ Y b)
 | fin (m : Int) (t : aq) (a : ae) (ha : vS a = true) (ka : a.ai = 48) : PS 45 m t [a] ([32, 102, 105, 110, 97, 108, 108, 121, 32] ++ Y a)
theorem akx {k m : Int} {t : aq} {ks : List ae} (h : IE k m t ks) : ∃ s, PX X Y k m t ks s := by
 cases h
 case dyn a r ha h =>
  by_cases h8 : a.ai = 8
  ·exact ⟨_, .Qd _ _ _ _ ha h h8⟩
  ·exact ⟨_, .dyn _ _ _ _ ha h h8⟩
 case lv l z hu hk hz =>
  by_cases h8 : ∃ x ∈ l, x.ai = 25
  ·exact ⟨_, .Qe _ _ _ _ hu h8 hk hz⟩
  ·exact ⟨_, .lv _ _ _ _ hu h8 hk hz⟩
 all_goals exact ⟨_, by constructor <;> assumption⟩
theorem aky {k m : Int} {t : aq} {ks : List ae} (h : IS k m t ks) : ∃ s, PS X Y k m t ks s := by
 cases h
 case DN ha ka hb => exact ⟨_, .DN _ _ _ _ ha ka hb⟩
 case DO ha ka hb => exact ⟨_, .DO _ _ _ _ ha ka hb⟩
 all_goals exact ⟨_, by constructor <;> assumption⟩
end
set_option maxRecDepth 100000
theorem wI (m : Int) (h1 : 1 ≤ m) (h2 : m ≤ 15) : (Ch m).length ≤ 3 := by
 obtain ⟨k, rfl⟩ : ∃ k : Nat, m = (k : Int) := ⟨m.toNat, by omega⟩
 have h3 : k ≤ 15 := by omega
 have h4 : 1 ≤ k := by omega
 match k, h3, h4 with
 | 1, _, _ => decide
 | 2, _, _ => decide
 | 3, _, _ => decide
 | 4, _, _ => decide
 | 5, _, _ => decide
 | 6, _, _ => decide
 | 7, _, _ => decide
 | 8, _, _ => decide
 | 9, _, _ => decide
 | 10, _, _ => decide
 | 11, _, _ => decide
 | 12, _, _ => decide
 | 13, _, _ => decide
 | 14, _, _ => decide
 | 15, _, _ => decide
 | 0, _, h => omega
 | k + 16, h, _ => omega
theorem LU (t : aq) : (qt t).length ≤ 2 * t.length + 2 := by
 have := sy t
 simp only [qt, An, an, mg]; omega
theorem aa3 (t : aq) : 1 ≤ (qt t).length := by
 simp only [qt, An, an, mg]; omega
section
variable {X Y : ae → aq}
theorem dB (n : ae) (k : Int) : (nq X n k).length ≤ (X n).length + 2 := by
 unfold nq
 split
 ·simp only [An, an, mg]; omega
 ·omega
theorem LV (n : ae) (k : Int) (h : 1 ≤ (X n).length) : 1 ≤ (nq X n k).length := by
 unfold nq
 split
 ·simp only [An, an, mg]; omega
 ·omega
def Bd (X : ae → aq) (x : ae) : Prop := 1 ≤ (X x).length ∧ (X x).length + 24 ≤ 4194304 * sz x
theorem LW : ∀ (l : List ae) (f : Bool), (∀ x ∈ l, Bd X x) → (jn X f l).length ≤ 4194304 * gZ l
 | [], f, _ => by simp [jn]
 | x :: r, f, h => by
  have h1 := LW r false (fun y hy => h y avF)
  have h2 := (h x avj).2
  have h3 := dB (X := X) x 1
  rw [jn, gZ]
  cases f <;> simp only [cond_true, cond_false, An, an, mg] <;> omega
theorem qa (l : List ae) (h : ∀ x ∈ l, Bd X x) : (jm X l).length ≤ 4194304 * gZ l + 2 := by
 have := LW l true h
 simp only [jm, An, an, mg]; omega
theorem aa4 (x : ae) (h : ∀ y ∈ x.ah, Bd X y) : (pr1 X x).length + 20 ≤ 4194304 * sz x := by
 have hs := iK x
 unfold pr1
 generalize x.ah = ks at *
 match ks, h, hs with
 | [], _, _ => simp; omega
 | [a], h, hs =>
  have h2 := (h a avj).2
  have h3 := dB (X := X) a 1
  simp only [gZ] at hs
  show (nq X a 1).length + 20 ≤ _
  omega
 | a :: b :: r, h, hs =>
  have h2 := (h a avj).2
  have h3 := dB (X := X) a 1
  have h4 := (h b avj).2
  have h5 := dB (X := X) b 1
  simp only [gZ] at hs
  show (nq X a 1 ++ [32, 61, 62, 32] ++ nq X b 1).length + 20 ≤ _
  simp only [An, an, mg]
  omega
theorem Fq : ∀ (l : List ae) (f : Bool), (∀ x ∈ l, ∀ y ∈ x.ah, Bd X y) → (wH X f l).length ≤ 4194304 * gZ l
 | [], f, _ => by simp [wH]
 | x :: r, f, h => by
  have h1 := Fq r false (fun y hy => h y avF)
  have h2 := aa4 x (h x avj)
  rw [wH, gZ]
  cases f <;> simp only [cond_true, cond_false, An, an, mg] <;> omega
theorem Ai (k : Int) : ∀ (l : List ae) (f : Bool), (∀ x ∈ l, x.aj.length ≤ 1048576) → (vi k f l).length ≤ 1048584 * gZ l
 | [], f, _ => by simp [vi]
 | x :: r, f, h => by
  have h0 := Ai k r f (fun y hy => h y avF)
  have h1 := Ai k r false (fun y hy => h y avF)
  have h2 := h x avj
  have h3 := mT x
  rw [vi, gZ]
  cases (x.ai == k)
  ·simp only [cond_false]; omega
  ·cases f <;> cases (x.aC == 1) <;> simp only [cond_true, cond_false, An, an, mg] <;> omega
theorem wJ (k : Int) (z : ae) (hz : (z.ai == k) = false) : ∀ (l : List ae) (f : Bool), vi k f (l ++ [z]) = vi k f l
 | [], f => by simp [vi, hz]
 | x :: r, f => by
  rw [asz, vi, vi, wJ k z hz r, wJ k z hz r]
theorem vC : ∀ (l : List ae) (z : ae), gZ (l ++ [z]) = gZ l + sz z
 | [], z => by simp [gZ]
 | x :: r, z => by rw [asz, gZ, gZ, vC r z]; omega
theorem oc (k : Int) (l : List ae) (z : ae) (hz : (z.ai == k) = false) (h : ∀ x ∈ l, x.aj.length ≤ 1048576) : (params (l ++ [z]) k).length ≤ 1048584 * gZ l + 2 := by
 have := Ai k l true h
 rw [params, wJ k z hz]
 simp only [An, an, mg]; omega
theorem yS : ∀ (l : List ae), (∀ x ∈ l, Bd Y x) → (l.flatMap (fun x => Y x ++ [32])).length ≤ 4194304 * gZ l
 | [], _ => by simp
 | x :: r, h => by
  have h1 := yS r (fun y hy => h y avF)
  have h2 := (h x avj).2
  rw [asZ, gZ]
  simp only [An, an, mg]; omega
theorem bM {l : List ae} {P : ae → Bool} (h : l.all P = true) : ∀ x ∈ l, P x = true := by simpa using h
theorem aa5 {k m : Int} {t : aq} {ks : List ae} {s : aq} (h : PX X Y k m t ks s) (ht : t.length ≤ 1048576) (hk : ∀ x ∈ ks, x.aj.length ≤ 1048576)
  (hX : ∀ x ∈ ks, vE x = true → Bd X x) (hX2 : ∀ x ∈ ks, ∀ y ∈ x.ah, vE y = true → Bd X y) (hY : ∀ x ∈ ks, vQ x = true → Bd Y x) : 1 ≤ s.length ∧ s.length + 24 ≤ 4194304 * (1 + gZ ks) := by
 cases h
 case num h0 h1 => have := Lr m h0 h1; omega
 case txt h0 => have := LU t; have := aa3 t; omega
 case cst h0 h1 =>
  unfold Qc
  by_cases q : m = 0
  ·simp [q]; omega
  ·by_cases q2 : m = 1 <;> simp [q, q2] <;> omega
 case var => simp; omega
 case arr h =>
  have h1 := Fq (X := X) ks true (fun x hx y hy => by
   have h3 := bM h x hx
   simp only [Ce, As] at h3
   exact hX2 x hx y hy (bM h3.2.2.2.2 y hy))
  simp only [An, an, mg]; omega
 case ref a =>
  have h1 := hk a avj
  have := mT a
  simp only [gZ, An, an, mg]; omega
 case call h =>
  have h1 := qa (X := X) ks (fun x hx => hX x hx (bM h x hx))
  have h2 : 1 ≤ (jm X ks).length := by simp [jm]
  simp only [An, an, mg]; omega
 case stat h =>
  have h1 := qa (X := X) ks (fun x hx => hX x hx (bM h x hx))
  have h2 : 1 ≤ (jm X ks).length := by simp [jm]
  simp only [An, an, mg]; omega
 case new h =>
  have h1 := qa (X := X) ks (fun x hx => hX x hx (bM h x hx))
  simp only [An, an, mg]; omega
 case Qd a r ha h h8 =>
  have h1 := qa (X := X) r (fun x hx => hX x avu (bM h x hx))
  have h2 := hX a avj ha
  unfold Bd at h2
  simp only [gZ, An, an, mg]; omega
 case dyn a r ha h h8 =>
  have h1 := qa (X := X) r (fun x hx => hX x avu (bM h x hx))
  have h2 := hX a avj ha
  have h3 := dB (X := X) a 12
  have h4 := LV a 12 h2.1
  unfold Bd at h2
  simp only [gZ, An, an, mg]; omega
 case met a r ha h =>
  have h1 := qa (X := X) r (fun x hx => hX x avu (bM h x hx))
  have h2 := hX a avj ha
  have h3 := dB (X := X) a 12
  unfold Bd at h2
  simp only [gZ, An, an, mg]; omega
 case lv l z hu tS nU hz =>
  have h1 := oc 24 l z (by rw [nU]; rfl) (fun x hx => hk x avu)
  have h2 := hY z avj (jD hz)
  unfold Bd at h2
  rw [vC]
  simp only [An, an, mg]; omega
 case Qe l z hu tS nU hz =>
  have h1 := oc 24 l z (by rw [nU]; rfl) (fun x hx => hk x avu)
  have h3 := oc 25 l z (by rw [nU]; rfl) (fun x hx => hk x avu)
  have h2 := hY z avj (jD hz)
  unfold Bd at h2
  rw [vC]
  simp only [An, an, mg]; omega
 case un a ha h0 h1 =>
  have h2 := hX a avj ha
  have h3 := dB (X := X) a 11
  have h4 := LV a 11 h2.1
  have h5 : (unW m).length = 1 := by unfold unW; split <;> rfl
  unfold Bd at h2
  simp only [gZ, An, h5]; omega
 case fld a ha =>
  have h2 := hX a avj ha
  have h3 := dB (X := X) a 12
  unfold Bd at h2
  simp only [gZ, An, an, mg]; omega
 case bin a b ha hb h0 h1 =>
  have h2 := hX a avj ha
  have h3 := hX b avj hb
  have h4 := dB (X := X) a (mU m)
  have h5 := dB (X := X) b (mU m + 1)
  have h6 := wI m h0 h1
  unfold Bd at h2 h3
  simp only [two, gZ, An, an, mg]; omega
 case cond a b c ha hb hc =>
  have h2 := hX a avj ha
  have h3 := hX b avj hb
  have h7 := hX c avj hc
  have h4 := dB (X := X) a 3
  have h5 := dB (X := X) b 1
  have h6 := dB (X := X) c 2
  unfold Bd at h2 h3 h7
  simp only [two, gZ, An, an, mg]; omega
 all_goals
  rename_i a b ha hb
  have h2 := hX a avj ha
  have h3 := hX b avj hb
  have g1 := dB (X := X) a 4
  have g2 := dB (X := X) a 5
  have g3 := dB (X := X) a 12
  have g4 := dB (X := X) b 1
  have g5 := dB (X := X) b 3
  have g6 := dB (X := X) b 5
  have g7 := dB (X := X) b 6
  unfold Bd at h2 h3
  simp only [two, gZ, An, an, mg]; omega
theorem aa6 {k m : Int} {t : aq} {ks : List ae} {s : aq} (h : PS X Y k m t ks s) (ht : t.length ≤ 1048576) (hk : ∀ x ∈ ks, x.aj.length ≤ 1048576)
  (hX : ∀ x ∈ ks, vE x = true → Bd X x) (hY : ∀ x ∈ ks, vQ x = true → Bd Y x) : 1 ≤ s.length ∧ s.length + 24 ≤ 4194304 * (1 + gZ ks) := by
 cases h
 case wG h =>
  have h1 := yS (Y := Y) ks (fun x hx => hY x hx (jD (bM h x hx)))
  simp only [An, an, mg]; omega
 case inc h0 =>
  have := LU t
  simp only [gZ, An, an, mg]; omega
 case if2 a b ha hb kb =>
  have h2 := hX a avj ha
  have h3 := hY b avj (jD hb)
  have g1 := dB (X := X) a 1
  unfold Bd at h2 h3
  simp only [gZ, An, an, mg]; omega
 case if3 a b c ha hb kb hc kc =>
  have h2 := hX a avj ha
  have h3 := hY b avj (jD hb)
  have h4 := hY c avj (jD hc)
  have g1 := dB (X := X) a 1
  unfold Bd at h2 h3 h4
  simp only [gZ, An, an, mg]; omega
 case whl a b ha hb kb =>
  have h2 := hX a avj ha
  have h3 := hY b avj (jD hb)
  have g1 := dB (X := X) a 1
  unfold Bd at h2 h3
  simp only [gZ, An, an, mg]; omega
 case fe3 a b c ha hc kc =>
  have h2 := hX a avj ha
  have h3 := hY c avj (jD hc)
  have h4 := hk b avj
  have h5 := mT b
  have g1 := dB (X := X) a 1
  unfold Bd at h2 h3
  simp only [gZ, An, an, mg]; omega
 case fe4 a b c d ha hd kd =>
  have h2 := hX a avj ha
  have h3 := hY d avj (jD hd)
  have h4 := hk b avj
  have h5 := mT b
  have h6 := hk c avj
  have h7 := mT c
  have g1 := dB (X := X) a 1
  unfold Bd at h2 h3
  simp only [gZ, An, an, mg]; omega
 case yl2 a b ha hb =>
  have h2 := hX a avj ha
  have h3 := hX b avj hb
  have h4 := hk a avj
  have g1 := dB (X := X) b 1
  unfold Bd at h2 h3
  simp only [gZ, An, an, mg]; omega
 case DN a b ha ka hb =>
  have h2 := hY a avj (jD ha)
  have h3 := hY b avj (LR hb)
  unfold Bd at h2 h3
  simp only [gZ, An, an, mg]; omega
 case DO a b ha ka hb =>
  have h2 := hY a avj (jD ha)
  have h3 := hY b avj (LS hb)
  unfold Bd at h2 h3
  simp only [gZ, An, an, mg]; omega
 case Cg a b c ha ka hb hc =>
  have h2 := hY a avj (jD ha)
  have h3 := hY b avj (LR hb)
  have h4 := hY c avj (LS hc)
  unfold Bd at h2 h3 h4
  simp only [gZ, An, an, mg]; omega
 case cat a b ha ka hb kb =>
  have h2 := hX a avj ha
  have h3 := hY b avj (jD hb)
  have h4 := hk a avj
  unfold Bd at h2 h3
  simp only [gZ, An, an, mg]; omega
 case fin a ha ka =>
  have h2 := hY a avj (jD ha)
  unfold Bd at h2
  simp only [gZ, An, an, mg]; omega
 case htm => simp only [gZ, An, an, mg]; omega
 case glb => simp only [gZ, An, an, mg]; omega
 case brk => simp [gZ]
 case cont => simp [gZ]
 case LP => simp [gZ]
 all_goals
  rename_i a ha
  have h2 := hX a avj ha
  have g1 := dB (X := X) a 1
  have g3 := dB (X := X) a 12
  unfold Bd at h2
  simp only [gZ, An, an, mg]; omega
end
set_option maxRecDepth 100000
theorem aH {a b : aq} (h : a.length + b.length ≤ 4611686018427387904) : aI a b = some (a ++ b) := if_pos h
theorem akz (n : ae) : km n = some (lvl n) := by
 unfold km lvl
 generalize n.ai = k
 have Ae : dk n.aC = some (mU n.aC) := by
  unfold mU dk
  repeat' split
  all_goals rfl
 rw [Ae]
 by_cases LC : k = 15
 ·subst LC; rfl
 by_cases LD : k = 16
 ·subst LD; rfl
 by_cases P1 : k = 17
 ·subst P1; rfl
 by_cases LB : k = 14
 ·subst LB; rfl
 by_cases GI : k = 13
 ·subst GI; rfl
 by_cases GH : k = 12
 ·subst GH; rfl
 by_cases GG : k = 11
 ·subst GG; rfl
 by_cases Ae : k = 10
 ·subst Ae; rfl
 by_cases h9 : k = 9
 ·subst h9; rfl
 rw [if_neg LC, if_neg LD, if_neg (show ¬ (k = 15 ∨ k = 16 ∨ k = 17) by omega), beq_eq_false_iff_ne.2 P1, sb]
 rw [if_neg avn, if_neg LB, if_neg LB, if_neg GI, if_neg GI, if_neg GH, if_neg GH, if_neg GG, if_neg GG, if_neg Ae, if_neg Ae, if_neg h9, if_neg h9]
section
variable {X Y : ae → aq}
def OX (X : ae → aq) (x : ae) : Prop := gr x = some (X x) ∧ (X x).length ≤ 1099511627776
def OY (Y : ae → aq) (x : ae) : Prop := a8 x = some (Y x) ∧ (Y x).length ≤ 1099511627776
theorem oP {x : ae} (h : OX X x) (k : Int) : bJ x k = some (nq X x k) := by
 obtain ⟨h1, h2⟩ := h
 rw [bJ, akz, sb, h1, sb, sb, aH avq, sb, aH avl, sb, nq]
 split <;> rfl
theorem akA (ks : List ae) (c : Nat) (h : ∀ x ∈ ks.drop c, OX X x) (hl : ks.length ≤ 1048576) : ∀ (f i : Nat) (s : aq), ks.length ≤ i + f → c ≤ i → s.length + (jn X (decide (i = c)) (ks.drop i)).length ≤ 1099511627776 →
  fC ks (c : Int) s (i : Int) = some (s ++ jn X (decide (i = c)) (ks.drop i))
 | f, i, s, hf, hc, hb => by
  rw [fC]
  by_cases hi : i < ks.length
  ·obtain ⟨g, rfl⟩ : ∃ g, f = g + 1 := ⟨f - 1, by omega⟩
   have hd := asE hi
   have hx : OX X ks[i] := h _ (by
    rw [show ks.drop c = (ks.drop c) from rfl]
    exact atD.2 ⟨i - c, by simp; omega, by simp [show c + (i - c) = i by omega]⟩)
   have oY : decide (i + 1 = c) = false := decide_eq_false avh
   have IH : ∀ u : aq, u.length + (jn X false (ks.drop (i + 1))).length ≤ 1099511627776 → fC ks (c : Int) u ((i + 1 : Nat) : Int) = some (u ++ jn X false (ks.drop (i + 1))) := fun u mD => by
    rw [akA ks c h hl g (i + 1) u avh avh avO, oY]
   rw [hd, jn] at hb
   rw [if_pos avh, bc hi, bF avh, hd, jn]
   by_cases he : i = c
   ·rw [decide_eq_true he] at hb ⊢
    simp only [cond_true, An, an, mg] at hb
    rw [if_neg avh]
    simp (disch := first | omega | (simp only [An, an, mg]; omega)) only [aH, sb, oP hx, IH, cond_true, No, are, asz]
   ·rw [decide_eq_false he] at hb ⊢
    simp only [cond_false, An, an, mg] at hb
    rw [if_pos avh]
    simp (disch := first | omega | (simp only [An, an, mg]; omega)) only [aH, sb, oP hx, IH, cond_false, No, are, asz]
  ·rw [if_neg avh, asD avh]; simp [jn]
theorem LX (ks : List ae) (c : Nat) (h : ∀ x ∈ ks.drop c, OX X x) (hl : ks.length ≤ 1048576) (hb : (jm X (ks.drop c)).length ≤ 1099511627776) : eW ks (c : Int) = some (jm X (ks.drop c)) := by
 have kU := hb
 simp only [jm, An, an, mg] at hb
 have h0 := akA ks c h hl ks.length c [] avh avh avm
 rw [decide_eq_true rfl] at h0
 rw [eW, h0, sb, are, aH avq, sb, aH avl]
 rfl
theorem LY (ks : List ae) (k : Int) (hl : ks.length ≤ 1048576) : ∀ (f i : Nat) (s : aq), ks.length ≤ i + f → s.length + (vi k (s == ([] : aq)) (ks.drop i)).length ≤ 1099511627776 →
  db ks k s (i : Int) = some (s ++ vi k (s == ([] : aq)) (ks.drop i))
 | f, i, s, hf, hb => by
  rw [db]
  by_cases hi : i < ks.length
  ·obtain ⟨g, rfl⟩ : ∃ g, f = g + 1 := ⟨f - 1, by omega⟩
   have hd := asE hi
   rw [hd, vi] at hb
   rw [if_pos avh, bc hi, sb, bF avh, hd, vi]
   generalize ks[i] = x at hb
   by_cases hk : x.ai = k
   ·rw [if_pos hk, hk, atI, cond_true]
    rw [hk, atI, cond_true] at hb
    have IH : ∀ u : aq, u ≠ [] → u.length + (vi k false (ks.drop (i + 1))).length ≤ 1099511627776 → db ks k u ((i + 1 : Nat) : Int) = some (u ++ vi k false (ks.drop (i + 1))) := fun u hu mD => by
     have e1 : (u == ([] : aq)) = false := beq_eq_false_iff_ne.2 hu
     rw [LY ks k hl g (i + 1) u avh (by rw [e1]; exact mD), e1]
    by_cases hs : s = ([] : aq) <;> by_cases hn : x.aC = 1
    all_goals
     first | rw [hs] at hb ⊢ | skip
     first | rw [if_pos rfl] | rw [if_neg hs]
     first | rw [hn] at hb ⊢ | rw [beq_eq_false_iff_ne.2 hn] at hb ⊢
     first | rw [show (([] : aq) == ([] : aq)) = true from rfl] at hb ⊢ | rw [beq_eq_false_iff_ne.2 hs] at hb ⊢
     simp only [cond_true, cond_false, atI, An, an, mg] at hb
     simp (disch := first | omega | (simp only [An, an, mg]; omega) | simp) only [aH, sb, IH, hn, if_true, if_false, cond_true, cond_false, atI, No, are, asz]
   ·rw [if_neg hk, beq_eq_false_iff_ne.2 hk, cond_false]
    rw [beq_eq_false_iff_ne.2 hk, cond_false] at hb
    exact LY ks k hl g (i + 1) s avh hb
  ·rw [if_neg avh, asD avh]; simp [vi]
theorem sH (ks : List ae) (k : Int) (hl : ks.length ≤ 1048576) (hb : (params ks k).length ≤ 1099511627776) : gD ks k = some (params ks k) := by
 have h0 := LY ks k hl ks.length 0 [] avh (by rw [asJ]; simp only [params, An, an, mg] at hb; rw [show (([] : aq) == ([] : aq)) = true from rfl]; simp only [mg]; omega)
 rw [show ((0 : Nat) : Int) = 0 from rfl, asJ, are, show (([] : aq) == ([] : aq)) = true from rfl] at h0
 simp only [params, An, an, mg] at hb
 unfold gD
 rw [h0]
 simp (disch := first | omega | (simp only [An, an, mg]; omega)) only [aH, sb, params]
theorem Vp (n : ae) (h : ∀ x ∈ n.ah, ∀ y ∈ x.ah, OX X y) (hp : ∀ x ∈ n.ah, 1 ≤ (x.ah.length : Int) ∧ (x.ah.length : Int) ≤ 2) (hl : n.ah.length ≤ 1048576) : ∀ (f i : Nat) (s : aq), n.ah.length ≤ i + f → s.length + (wH X (decide (i = 0)) (n.ah.drop i)).length ≤ 1099511627776 →
  dX n s (i : Int) = some (s ++ wH X (decide (i = 0)) (n.ah.drop i))
 | f, i, s, hf, hb => by
  rw [dX]
  by_cases hi : i < n.ah.length
  ·obtain ⟨g, rfl⟩ : ∃ g, f = g + 1 := ⟨f - 1, by omega⟩
   have hd := asE hi
   have hx := h _ (asK hi)
   have GJ := hp _ (asK hi)
   have oY : decide (i + 1 = 0) = false := decide_eq_false avh
   have IH : ∀ u : aq, u.length + (wH X false (n.ah.drop (i + 1))).length ≤ 1099511627776 → dX n u ((i + 1 : Nat) : Int) = some (u ++ wH X false (n.ah.drop (i + 1))) := fun u mD => by
    rw [Vp n h hp hl g (i + 1) u avh avO, oY]
   rw [hd, wH, pr1] at hb
   rw [if_pos avh, bc hi, bF avh, hd, wH, pr1]
   generalize n.ah[i] = x at *
   generalize xO : x.ah = ks at *
   rcases ks with _ | ⟨a, _ | ⟨b, _ | ⟨c, r⟩⟩⟩
   ·simp at GJ
   ·have ha := hx a avj
    by_cases he : i = 0
    ·rw [decide_eq_true he] at hb ⊢
     simp only [cond_true, An, an, mg] at hb
     rw [if_neg avh]
     simp (disch := first | omega | (simp only [An, an, mg]; omega)) only [aH, sb, oP ha, aT, xO, IH, cond_true, No, are, asz, an, mg]
     rw [if_neg avn]
    ·rw [decide_eq_false he] at hb ⊢
     simp only [cond_false, An, an, mg] at hb
     rw [if_pos avh]
     simp (disch := first | omega | (simp only [An, an, mg]; omega)) only [aH, sb, oP ha, aT, xO, IH, cond_false, No, are, asz, an, mg]
     rw [if_neg avn]
   ·have ha := hx a avj
    have np := hx b avj
    by_cases he : i = 0
    ·rw [decide_eq_true he] at hb ⊢
     simp only [cond_true, An, an, mg] at hb
     rw [if_neg avh]
     simp (disch := first | omega | (simp only [An, an, mg]; omega)) only [aH, sb, oP ha, oP np, aT, eY, xO, IH, cond_true, No, are, asz, an, mg]
     rw [if_pos avn]
    ·rw [decide_eq_false he] at hb ⊢
     simp only [cond_false, An, an, mg] at hb
     rw [if_pos avh]
     simp (disch := first | omega | (simp only [An, an, mg]; omega)) only [aH, sb, oP ha, oP np, aT, eY, xO, IH, cond_false, No, are, asz, an, mg]
     rw [if_pos avn]
   ·simp at GJ; omega
  ·rw [if_neg avh, asD avh]; simp [wH]
def ed (Y : ae → aq) (l : List ae) : aq := l.flatMap fun x => bif x.ai == 52 then [] else Y x ++ [32]
theorem LZ (l : List ae) (h : ∀ x ∈ l, ¬ x.ai = 52 → OY Y x) (hl : l.length ≤ 1048576) : ∀ (f i : Nat) (s : aq), l.length ≤ i + f → s.length + (ed Y (l.drop i)).length ≤ 1099511627776 →
  fD l s (i : Int) = some (s ++ ed Y (l.drop i))
 | f, i, s, hf, hb => by
  rw [fD]
  by_cases hi : i < l.length
  ·obtain ⟨g, rfl⟩ : ∃ g, f = g + 1 := ⟨f - 1, by omega⟩
   have hd := asE hi
   have hx := h _ (asK hi)
   have IH : ∀ u : aq, u.length + (ed Y (l.drop (i + 1))).length ≤ 1099511627776 → fD l u ((i + 1 : Nat) : Int) = some (u ++ ed Y (l.drop (i + 1))) := fun u mD => LZ l h hl g (i + 1) u avh mD
   rw [hd, ed, asZ] at hb
   change s.length + ((bif l[i].ai == 52 then [] else Y l[i] ++ [32]) ++ ed Y (l.drop (i + 1))).length ≤ _ at hb
   rw [if_pos avh, bc hi, bF avh, hd, ed, asZ]
   change _ = some (s ++ ((bif l[i].ai == 52 then [] else Y l[i] ++ [32]) ++ ed Y (l.drop (i + 1))))
   generalize l[i] = x at *
   by_cases hk : x.ai = 52
   ·rw [hk] at hb ⊢
    simp only [atI, cond_true, are] at hb ⊢
    rw [sb, if_pos hk, IH s hb]
   ·rw [beq_eq_false_iff_ne.2 hk] at hb ⊢
    simp only [cond_false, An, an, mg] at hb
    rw [sb, if_neg hk]
    simp (disch := first | omega | (simp only [An, an, mg]; omega)) only [aH, sb, (hx hk).1, IH, cond_false, No, are, asz]
  ·rw [if_neg avh, asD avh]; simp [ed]
theorem Ci (l : List ae) (h : ∀ x ∈ l, ¬ x.ai = 52) : ed Y l = l.flatMap fun x => Y x ++ [32] := by
 induction l with
 | nil => rfl
 | cons x r ih =>
  have := ih (fun y hy => h y avF)
  rw [ed] at this ⊢
  rw [asZ, asZ, this, beq_eq_false_iff_ne.2 (h x avj)]; rfl
end
set_option maxRecDepth 100000
theorem DP (m : Int) : dk m = some (mU m) ∧ 6 ≤ mU m ∧ mU m ≤ 10 := by
 unfold mU dk
 repeat' split
 all_goals exact ⟨rfl, by decide, by decide⟩
theorem aa7 (m : Int) (h1 : 1 ≤ m) (h2 : m ≤ 15) : jw m = some (Ch m) := by
 obtain ⟨s, e, _⟩ := sOp m h1 h2
 rw [Ch, e]; rfl
theorem akB (m : Int) (h1 : 0 ≤ m) (h2 : m ≤ 2) : kQ ([[110, 117, 108, 108], [102, 97, 108, 115, 101], [116, 114, 117, 101]] : List aq) m = some (Qc m) := by
 rcases (by omega : m = 0 ∨ m = 1 ∨ m = 2) with h | h | h <;> subst h <;> rfl
theorem aqN (m : Int) (h1 : 1 ≤ m) (h2 : m ≤ 2) : kQ ([[], [33], [45]] : List aq) m = some (unW m) := by
 rcases (by omega : m = 1 ∨ m = 2) with h | h <;> subst h <;> rfl
theorem Cj (a : Bool) : ∀ (l : List ae) (b : Bool), vh a b l = true → (b = true ∨ ∃ x ∈ l, x.ai = 25) → l ≠ [] → ∃ l' w, l = l' ++ [w] ∧ w.ai = 25
 | [], b, _, _, h => absurd rfl h
 | [x], b, hu, he, _ => by
  refine ⟨[], x, rfl, ?_⟩
  simp only [vh, As, atg, beq_iff_eq] at hu
  rcases hu.1 with h | h
  ·exact h.1
  ·rcases he with q | ⟨y, q1, q2⟩
   ·simp [q] at h
   ·simp at q1; subst q1; exact q2
 | x :: y :: r, b, hu, he, _ => by
  rw [vh] at hu
  simp only [As] at hu
  obtain ⟨l', w, h1, h2⟩ := Cj a (y :: r) _ hu.2.2.2.2 (by
   rcases he with q | ⟨z, q1, q2⟩
   ·left; simp [q]
   ·rcases asI.1 q1 with q3 | q3
    ·left; rw [← q3, q2]; simp
    ·right; exact ⟨z, q3, q2⟩) avj
  exact ⟨x :: l', w, by rw [h1]; rfl, h2⟩
section
variable {X Y : ae → aq}
theorem akC (n a b : ae) (r : List ae) (i : Int) (s : aq) (j : Int) (hk : n.ah = a :: b :: r) (ha : OX X a) (hb : OX X b) (hl : (two X a i s b j).length ≤ 1099511627776) : eA n i s j = some (two X a i s b j) := by
 simp only [two, An] at hl
 rw [eA, hk]
 simp (disch := first | omega | (simp only [An, an, mg]; omega)) only [aT, eY, sb, oP ha, oP hb, aH, two]
set_option maxHeartbeats 4000000 in
theorem Qf (n : ae) {s : aq} (h : PX X Y n.ai n.aC n.aj n.ah s) (hw : wt n ≤ 1048576) (hs : s.length ≤ 1099511627776)
  (HX : ∀ x ∈ n.ah, vE x = true → OX X x) (HX2 : ∀ x ∈ n.ah, ∀ y ∈ x.ah, vE y = true → OX X y) (HY : ∀ x ∈ n.ah, vQ x = true → OY Y x) : gr n = some s := by
 have hl := (rl hw).2
 have hT : ∀ a b r i s j, n.ah = a :: b :: r → OX X a → OX X b → (two X a i s b j).length ≤ 1099511627776 → eA n i s j = some (two X a i s b j) := fun a b r i s j => akC n a b r i s j
 have hL : n.ah.all (Ce vE) = true → (wH X true n.ah).length ≤ 1099511627776 → dX n [] 0 = some (wH X true n.ah) := fun h1 h2 => by
  have := Vp n (X := X) (fun x hx y hy => by
   have h3 := bM h1 x hx
   simp only [Ce, As] at h3
   exact HX2 x hx y hy (bM h3.2.2.2.2 y hy)) (fun x hx => by
   have h3 := bM h1 x hx
   simp only [Ce, As] at h3
   exact of_decide_eq_true h3.2.2.2.1) hl n.ah.length 0 [] avh (by rw [asJ]; simpa using h2)
  rw [show ((0 : Nat) : Int) = 0 from rfl, asJ] at this
  exact this
 rw [gr]
 have mV : ∀ ks : List ae, ks.length ≤ 1048576 → (∀ x ∈ ks, OX X x) → (jm X ks).length ≤ 1099511627776 → eW ks 0 = some (jm X ks) := fun ks hl h hb => by
  have := LX (X := X) ks 0 h hl hb; exact this
 have hj1 : ∀ (a : ae) (ks : List ae), (a :: ks).length ≤ 1048576 → (∀ x ∈ ks, OX X x) → (jm X ks).length ≤ 1099511627776 → eW (a :: ks) 1 = some (jm X ks) := fun a ks hl h hb => by
  have := LX (X := X) (a :: ks) 1 h hl hb; exact this
 generalize n.ah = ks at *
 generalize n.aj = t at *
 generalize n.aC = m at *
 generalize n.ai = k at *
 cases h
 case num h0 h1 => rw [if_pos rfl, aaU m avh avh]; rfl
 case txt h0 => rw [if_neg avn, if_pos rfl, sQ t avh]; rfl
 case cst h0 h1 => rw [if_neg avn, if_neg avn, if_pos rfl, akB m h0 h1]; rfl
 case var =>
  simp only [An, an, mg] at hs
  simp (disch := first | omega | (simp only [An, an, mg]; omega)) only [Int.reduceEq, if_true, if_false, sb, aH]
 case arr h =>
  simp only [An, an, mg] at hs
  rw [hL h avh]
  simp (disch := first | omega | (simp only [An, an, mg]; omega)) only [Int.reduceEq, if_true, if_false, sb, aH]
 case ref a =>
  simp only [An, an, mg] at hs
  simp (disch := first | omega | (simp only [An, an, mg]; omega)) only [Int.reduceEq, if_true, if_false, sb, aH, aT]
 case call h =>
  simp only [An, an, mg] at hs
  have e := mV ks hl (fun x hx => HX x hx (bM h x hx)) avh
  simp (disch := first | omega | (simp only [An, an, mg]; omega)) only [Int.reduceEq, if_true, if_false, sb, aH, e]
 case stat h =>
  simp only [An, an, mg] at hs
  have e := mV ks hl (fun x hx => HX x hx (bM h x hx)) avh
  simp (disch := first | omega | (simp only [An, an, mg]; omega)) only [Int.reduceEq, if_true, if_false, sb, aH, e]
 case new h =>
  simp only [An, an, mg] at hs
  have e := mV ks hl (fun x hx => HX x hx (bM h x hx)) avh
  simp (disch := first | omega | (simp only [An, an, mg]; omega)) only [Int.reduceEq, if_true, if_false, sb, aH, e]
 case Qd a r ha h h8 =>
  simp only [An, an, mg] at hs
  have e := hj1 a r hl (fun x hx => HX x avu (bM h x hx)) avh
  have e2 := (HX a avj ha).1
  simp (disch := first | omega | (simp only [An, an, mg]; omega)) only [Int.reduceEq, if_true, if_false, sb, aH, e, aT, h8, e2]
 case dyn a r ha h h8 =>
  simp only [An, an, mg] at hs
  have e := hj1 a r hl (fun x hx => HX x avu (bM h x hx)) avh
  have e2 := oP (HX a avj ha) 12
  simp (disch := first | omega | (simp only [An, an, mg]; omega)) only [Int.reduceEq, if_true, if_false, sb, aH, e, aT, h8, e2]
 case met a r ha h =>
  simp only [An, an, mg] at hs
  have e := hj1 a r hl (fun x hx => HX x avu (bM h x hx)) avh
  have e2 := oP (HX a avj ha) 12
  simp (disch := first | omega | (simp only [An, an, mg]; omega)) only [Int.reduceEq, if_true, if_false, sb, aH, e, aT, e2]
 case lv l z hu tS nU hz =>
  simp only [An, an, mg] at hs
  have e := sH (l ++ [z]) 24 hl avh
  have e2 := (HY z avj (jD hz)).1
  have e3 : aS (((l ++ [z]).length : Int) - 1) = (l.length : Int) := kx avj avN
  rcases atP l with h5 | ⟨l', w, h5⟩
  ·subst h5
   rw [are] at *
   simp only [mg] at e3
   simp (disch := first | omega | (simp only [An, an, mg]; omega)) only [Int.reduceEq, if_true, if_false, sb, aH, e, e3]
   rw [if_neg (show ¬ (([z] : List ae).length : Int) > 1 by simp)]
   simp (disch := first | omega | (simp only [An, an, mg]; omega)) only [sb, aH, show (((0 : Nat) : Int)) = 0 from rfl, aT, e2]
  ·rw [atQ] at h5
   have e4 : aS (((l ++ [z]).length : Int) - 2) = (l'.length : Int) := kx (by rw [h5]; simp <;> omega) (by rw [h5] at hl; simp at hl; omega)
   have e5 : idx (l ++ [z]) (l'.length : Int) = some w := by rw [h5, bc (by simp <;> omega)]; simp
   have e6 : ¬ w.ai = 25 := fun q => tS ⟨w, by rw [h5]; simp, q⟩
   have e7 : ((l ++ [z]).length : Int) > 1 := by rw [h5]; simp <;> omega
   simp (disch := first | omega | (simp only [An, an, mg]; omega)) only [Int.reduceEq, if_true, if_false, sb, aH, e, e3, e4, e5, e6, lf, e2]
   rw [if_pos e7]; rfl
 case Qe l z hu tS nU hz =>
  simp only [An, an, mg] at hs
  have e := sH (l ++ [z]) 24 hl avh
  have e8 := sH (l ++ [z]) 25 hl avh
  have e2 := (HY z avj (jD hz)).1
  have e3 : aS (((l ++ [z]).length : Int) - 1) = (l.length : Int) := kx avj avN
  obtain ⟨l', w, h5, e6⟩ := Cj true l false hu (.inr tS) (by obtain ⟨x, q, _⟩ := tS; intro q2; rw [q2] at q; cases q)
  have e4 : aS (((l ++ [z]).length : Int) - 2) = (l'.length : Int) := kx (by rw [h5]; simp <;> omega) (by rw [h5] at hl; simp at hl; omega)
  have e5 : idx (l ++ [z]) (l'.length : Int) = some w := by rw [h5, bc (by simp <;> omega)]; simp
  have e7 : ((l ++ [z]).length : Int) > 1 := by rw [h5]; simp <;> omega
  simp (disch := first | omega | (simp only [An, an, mg]; omega)) only [Int.reduceEq, if_true, if_false, sb, aH, e, e3, e4, e5, e6, e8, lf, e2]
  rw [if_pos e7]; rfl
 case un a ha h0 h1 =>
  simp only [An, an, mg] at hs
  have e2 := oP (HX a avj ha) 11
  simp (disch := first | omega | (simp only [An, an, mg]; omega)) only [Int.reduceEq, if_true, if_false, sb, aH, aT, e2, aqN m h0 h1]
 case fld a ha =>
  simp only [An, an, mg] at hs
  have e2 := oP (HX a avj ha) 12
  simp (disch := first | omega | (simp only [An, an, mg]; omega)) only [Int.reduceEq, if_true, if_false, sb, aH, aT, e2]
 case bin a b ha hb h0 h1 =>
  obtain ⟨e1, e2, e3⟩ := DP m
  have e4 : aS (mU m + 1) = mU m + 1 := PT avh avh
  have e5 := hT a b [] (mU m) ([32] ++ Ch m ++ [32]) (mU m + 1) rfl (HX a avj ha) (HX b avj hb) hs
  have e6 := wI m h0 h1
  simp only [Int.reduceEq, if_true, if_false]
  rw [e1, sb, aa7 m h0 h1, sb, aH avq, sb, aH avl, sb, sb, e4, e5]; rfl
 case cond a b c ha hb hc =>
  simp only [An, an, mg] at hs
  have e5 := hT a b [c] 3 [32, 63, 32] 1 rfl (HX a avj ha) (HX b avj hb) avh
  have e6 := oP (HX c avj hc) 2
  simp (disch := first | omega | (simp only [An, an, mg]; omega)) only [Int.reduceEq, if_true, if_false, sb, aH, lH, e5, e6]
 case ix a b ha hb =>
  simp only [An, an, mg] at hs
  have e5 := hT a b [] 12 [91] 1 rfl (HX a avj ha) (HX b avj hb) avh
  simp (disch := first | omega | (simp only [An, an, mg]; omega)) only [Int.reduceEq, if_true, if_false, sb, aH, lH, e5]
 all_goals
  rename_i a b ha hb
  have e5 := fun i s j => hT a b [] i s j rfl (HX a avj ha) (HX b avj hb)
  rw [e5 _ _ _ hs]
  simp only [Int.reduceEq, if_true, if_false, sb]
end
set_option maxRecDepth 100000
theorem iL {a : ae} (hw : wt a ≤ 1048576) (h : vE a = true) : 1 ≤ a.ai ∧ a.ai ≤ 23 := by
 have := LO hw h
 clear h hw
 generalize a.ai = k at *
 generalize a.aC = m at *
 generalize a.aj = t at *
 generalize a.ah = ks at *
 cases this <;> omega
theorem Aj {a : ae} (hw : wt a ≤ 1048576) (h : vS a = true) : 31 ≤ a.ai ∧ a.ai ≤ 48 := by
 have := LQ hw h
 clear h hw
 generalize a.ai = k at *
 generalize a.aC = m at *
 generalize a.aj = t at *
 generalize a.ah = ks at *
 cases this <;> omega
theorem akD {a : ae} (h : a.ai ≤ 23) : bD a = some true := by
 unfold bD
 rw [if_pos avh]
 congr 1
 rw [bne_iff_ne]; omega
theorem akE {a : ae} (h : 31 ≤ a.ai) : bD a = some false := by
 unfold bD
 rw [if_neg avh]
section
variable {X Y : ae → aq}
theorem mE {a : ae} {r : List ae} (h : OX X a) (hk : a.ai ≤ 23) : (if ((a :: r).length : Int) > 0 then idx (a :: r) 0 >>= fun qT => bD qT >>= fun r7 => (if r7 = true then idx (a :: r) 0 >>= fun qU => bJ qU 1 >>= fun r8 => some r8 else some []) else some []) = some (nq X a 1) := by
 rw [if_pos avo, aT, sb, akD hk, sb, if_pos rfl, sb, oP h]; rfl
theorem wK {a : ae} {r : List ae} (hk : 31 ≤ a.ai) : (if ((a :: r).length : Int) > 0 then idx (a :: r) 0 >>= fun qT => bD qT >>= fun r7 => (if r7 = true then idx (a :: r) 0 >>= fun qU => bJ qU 1 >>= fun r8 => some r8 else some []) else some []) = some [] := by
 rw [if_pos avo, aT, sb, akE hk, sb, if_neg avn]
theorem wL : (if ((([] : List ae).length : Nat) : Int) > 0 then idx ([] : List ae) 0 >>= fun qT => bD qT >>= fun r7 => (if r7 = true then idx ([] : List ae) 0 >>= fun qU => bJ qU 1 >>= fun r8 => some r8 else some []) else some []) = some [] := rfl
theorem akF (n a b : ae) (s : aq) (hk : n.ah = [a, b]) (hb : OY Y b) (hl : s.length + (Y b).length ≤ 1099511627776) : bW n s 1 = some (s ++ Y b) := by
 rw [bW, hk, if_pos avj, eY, sb, hb.1, sb, aH avh, sb, show aS ((1 : Int) + 1) = 2 from rfl, bW, hk, if_neg avj]
theorem akG (n a b c : ae) (s : aq) (hk : n.ah = [a, b, c]) (hb : OY Y b) (hc : OY Y c) (hl : s.length + (Y b).length + (Y c).length ≤ 1099511627776) : bW n s 1 = some (s ++ Y b ++ Y c) := by
 rw [bW, hk, if_pos avj, eY, sb, hb.1, sb, aH avh, sb, show aS ((1 : Int) + 1) = 2 from rfl, bW, hk, if_pos avj, lH, sb, hc.1, sb, aH (by rw [An]; omega), sb,
  show aS ((2 : Int) + 1) = 3 from rfl, bW, hk, if_neg avj]
theorem wM (l : List ae) (h : ∀ x ∈ l, ¬ x.ai = 52 → OY Y x) (hl : l.length ≤ 1048576) (hb : (ed Y l).length ≤ 1099511627776) : eX l = some (ed Y l) := by
 have := LZ l h hl l.length 0 [] avh (by rw [asJ, mg]; omega)
 rw [show ((0 : Nat) : Int) = 0 from rfl, asJ, are] at this
 rw [eX, this]; rfl
set_option maxHeartbeats 4000000 in
theorem Qg (n : ae) {s : aq} (h : PS X Y n.ai n.aC n.aj n.ah s) (hw : wt n ≤ 1048576) (hs : s.length ≤ 1099511627776)
  (HX : ∀ x ∈ n.ah, vE x = true → OX X x) (HY : ∀ x ∈ n.ah, vQ x = true → OY Y x) : a8 n = some s := by
 have hl := (rl hw).2
 have sI := wk hw
 have hT2 : ∀ a b s, n.ah = [a, b] → OY Y b → s.length + (Y b).length ≤ 1099511627776 → bW n s 1 = some (s ++ Y b) := fun a b s => akF n a b s
 have hT3 : ∀ a b c s, n.ah = [a, b, c] → OY Y b → OY Y c → s.length + (Y b).length + (Y c).length ≤ 1099511627776 → bW n s 1 = some (s ++ Y b ++ Y c) := fun a b c s => akG n a b c s
 rw [a8]
 generalize n.ah = ks at *
 generalize n.aj = t at *
 generalize n.aC = m at *
 generalize n.ai = k at *
 cases h
 case htm =>
  rw [wL, sb]
  simp only [An, an, mg] at hs
  simp (disch := first | omega | (simp only [An, an, mg]; omega)) only [Int.reduceEq, if_true, if_false, sb, aH, sb]
 case glb =>
  rw [wL, sb]
  simp only [An, an, mg] at hs
  simp (disch := first | omega | (simp only [An, an, mg]; omega)) only [Int.reduceEq, if_true, if_false, sb, aH, sb]
 case brk =>
  rw [wL, sb]
  simp (disch := first | omega | (simp only [An, an, mg]; omega)) only [Int.reduceEq, if_true, if_false, sb, aH, sb]
 case cont =>
  rw [wL, sb]
  simp (disch := first | omega | (simp only [An, an, mg]; omega)) only [Int.reduceEq, if_true, if_false, sb, aH, sb]
 case LP =>
  rw [wL, sb]
  simp (disch := first | omega | (simp only [An, an, mg]; omega)) only [Int.reduceEq, if_true, if_false, sb, aH, mg, show (((0 : Nat) : Int)) = 0 from rfl]
 case inc h0 =>
  rw [wL, sb]
  simp only [An, an, mg] at hs
  have e := sQ t avh
  simp (disch := first | omega | (simp only [An, an, mg]; omega)) only [Int.reduceEq, if_true, if_false, sb, aH, e]
 case P8 a ha =>
  have ea := HX a avj ha
  have vj := (iL (sI a avj) ha).2
  rw [mE ea vj, sb]
  simp only [An, an, mg] at hs
  simp (disch := first | omega | (simp only [An, an, mg]; omega)) only [Int.reduceEq, if_true, if_false, sb, aH, sb]
 case expr a ha =>
  have ea := HX a avj ha
  have vj := (iL (sI a avj) ha).2
  rw [mE ea vj, sb]
  simp only [An, an, mg] at hs
  simp (disch := first | omega | (simp only [An, an, mg]; omega)) only [Int.reduceEq, if_true, if_false, sb, aH, sb]
 case thr a ha =>
  have ea := HX a avj ha
  have vj := (iL (sI a avj) ha).2
  rw [mE ea vj, sb]
  simp only [An, an, mg] at hs
  simp (disch := first | omega | (simp only [An, an, mg]; omega)) only [Int.reduceEq, if_true, if_false, sb, aH, sb]
 case P9 a ha =>
  have ea := HX a avj ha
  have vj := (iL (sI a avj) ha).2
  rw [mE ea vj, sb]
  simp only [An, an, mg] at hs
  have q : ¬ ((([a] : List ae).length : Int) = 0) := by simp
  simp (disch := first | omega | (simp only [An, an, mg]; omega)) only [Int.reduceEq, if_true, if_false, sb, aH, q]
 case yl1 a ha =>
  have ea := HX a avj ha
  have vj := (iL (sI a avj) ha).2
  rw [mE ea vj, sb]
  simp only [An, an, mg] at hs
  have q : ¬ ((([a] : List ae).length : Int) = 2) := by simp
  simp (disch := first | omega | (simp only [An, an, mg]; omega)) only [Int.reduceEq, if_true, if_false, sb, aH, q]
 case uns a ha =>
  have ea := HX a avj ha
  have vj := (iL (sI a avj) ha).2
  rw [mE ea vj, sb]
  simp only [An, an, mg] at hs
  have e2 := oP ea 12
  simp (disch := first | omega | (simp only [An, an, mg]; omega)) only [Int.reduceEq, if_true, if_false, sb, aH, aT, e2]
 case if2 a b ha hb kb =>
  have ea := HX a avj ha
  have vj := (iL (sI a avj) ha).2
  rw [mE ea vj, sb]
  have yb := (HY b avj (jD hb)).1
  simp only [An, an, mg] at hs
  have q : ¬ ((([a, b] : List ae).length : Int) = 3) := by simp
  simp (disch := first | omega | (simp only [An, an, mg]; omega)) only [Int.reduceEq, if_true, if_false, sb, aH, eY, yb, q]
 case if3 a b c ha hb kb hc kc =>
  have ea := HX a avj ha
  have vj := (iL (sI a avj) ha).2
  rw [mE ea vj, sb]
  have yb := (HY b avj (jD hb)).1
  have yc := (HY c avj (jD hc)).1
  simp only [An, an, mg] at hs
  have q : ((([a, b, c] : List ae).length : Int) = 3) := by simp
  simp (disch := first | omega | (simp only [An, an, mg]; omega)) only [Int.reduceEq, if_true, if_false, sb, aH, eY, lH, yb, yc, q]
 case whl a b ha hb kb =>
  have ea := HX a avj ha
  have vj := (iL (sI a avj) ha).2
  rw [mE ea vj, sb]
  have yb := (HY b avj (jD hb)).1
  simp only [An, an, mg] at hs
  simp (disch := first | omega | (simp only [An, an, mg]; omega)) only [Int.reduceEq, if_true, if_false, sb, aH, eY, yb]
 case fe3 a b c ha hc kc =>
  have ea := HX a avj ha
  have vj := (iL (sI a avj) ha).2
  rw [mE ea vj, sb]
  have yc := (HY c avj (jD hc)).1
  simp only [An, an, mg] at hs
  have q : ¬ ((([a, b, c] : List ae).length : Int) = 4) := by simp
  have q2 : aS ((([a, b, c] : List ae).length : Int) - 1) = 2 := rfl
  simp (disch := first | omega | (simp only [An, an, mg]; omega)) only [Int.reduceEq, if_true, if_false, sb, aH, eY, lH, yc, q, q2]
 case fe4 a b c d ha hd kd =>
  have ea := HX a avj ha
  have vj := (iL (sI a avj) ha).2
  rw [mE ea vj, sb]
  have yd := (HY d avj (jD hd)).1
  simp only [An, an, mg] at hs
  have q : ((([a, b, c, d] : List ae).length : Int) = 4) := by simp
  have q2 : aS ((([a, b, c, d] : List ae).length : Int) - 1) = 3 := rfl
  simp (disch := first | omega | (simp only [An, an, mg]; omega)) only [Int.reduceEq, if_true, if_false, sb, aH, q2, eY, lH, Ly, yd]
  rw [if_pos q]; rfl
 case yl2 a b ha hb =>
  have ea := HX a avj ha
  have vj := (iL (sI a avj) ha).2
  rw [mE ea vj, sb]
  simp only [An, an, mg] at hs
  have e2 := oP (HX b avj hb) 1
  have q : ((([a, b] : List ae).length : Int) = 2) := by simp
  simp (disch := first | omega | (simp only [An, an, mg]; omega)) only [Int.reduceEq, if_true, if_false, sb, aH, aT, eY, e2]
  rw [if_pos q]; rfl
 case wG h =>
  have hp : (if (ks.length : Int) > 0 then idx ks 0 >>= fun qT => bD qT >>= fun r7 => (if r7 = true then idx ks 0 >>= fun qU => bJ qU 1 >>= fun r8 => some r8 else some []) else some []) = some [] := by
   rcases ks with _ | ⟨a, r⟩
   ·rfl
   ·exact wK (Aj (sI a avj) (bM h a avj)).1
  rw [hp, sb]
  simp only [An, an, mg] at hs
  have Vq : ∀ x ∈ ks, ¬ x.ai = 52 := fun x hx => by have := Aj (sI x hx) (bM h x hx); omega
  have e := Ci (Y := Y) ks Vq
  have e2 := wM (Y := Y) ks (fun x hx _ => HY x hx (jD (bM h x hx))) hl (by rw [e]; omega)
  rw [e] at e2
  simp (disch := first | omega | (simp only [An, an, mg]; omega)) only [Int.reduceEq, if_true, if_false, sb, aH, e2]
 case DN a b ha ka hb =>
  have ya := (HY a avj (jD ha)).1
  rw [wK avh, sb]
  simp only [An, an, mg] at hs
  have e := hT2 a b ([116, 114, 121, 32] ++ Y a) rfl (HY b avj (LR hb)) avl
  simp (disch := first | omega | (simp only [An, an, mg]; omega)) only [Int.reduceEq, if_true, if_false, sb, aH, aT, ya, e]
 case DO a b ha ka hb =>
  have ya := (HY a avj (jD ha)).1
  rw [wK avh, sb]
  simp only [An, an, mg] at hs
  have e := hT2 a b ([116, 114, 121, 32] ++ Y a) rfl (HY b avj (LS hb)) avl
  simp (disch := first | omega | (simp only [An, an, mg]; omega)) only [Int.reduceEq, if_true, if_false, sb, aH, aT, ya, e]
 case Cg a b c ha ka hb hc =>
  have ya := (HY a avj (jD ha)).1
  rw [wK avh, sb]
  simp only [An, an, mg] at hs
  have e := hT3 a b c ([116, 114, 121, 32] ++ Y a) rfl (HY b avj (LR hb)) (HY c avj (LS hc)) avl
  simp (disch := first | omega | (simp only [An, an, mg]; omega)) only [Int.reduceEq, if_true, if_false, sb, aH, aT, ya, e]
 case cat a b ha ka hb kb =>
  have ea := HX a avj ha
  have vj := (iL (sI a avj) ha).2
  rw [mE ea vj, sb]
  have yb := (HY b avj (jD hb)).1
  simp only [An, an, mg] at hs
  simp (disch := first | omega | (simp only [An, an, mg]; omega)) only [Int.reduceEq, if_true, if_false, sb, aH, aT, eY, yb]
 case fin a ha ka =>
  have ya := (HY a avj (jD ha)).1
  rw [wK avh, sb]
  simp only [An, an, mg] at hs
  simp (disch := first | omega | (simp only [An, an, mg]; omega)) only [Int.reduceEq, if_true, if_false, sb, aH, aT, ya]
end
set_option maxRecDepth 100000
def tX (n : ae) : aq := (gr n).getD []
def tY (n : ae) : aq := (a8 n).getD []
theorem Fs : ∀ (N : Nat) (n : ae), sz n < N → wt n ≤ 1048576 → sz n ≤ 600 → (vE n = true → OX tX n ∧ Bd tX n ∧ PX tX tY n.ai n.aC n.aj n.ah (tX n)) ∧ (vQ n = true → OY tY n ∧ Bd tY n ∧ PS tX tY n.ai n.aC n.aj n.ah (tY n))
 | 0, n, h, _, _ => by omega
 | N + 1, n, h, hw, h6 => by
  have hk : ∀ x ∈ n.ah, _ := fun x hx => Fs N x avv avG avv
  have nU : ∀ x ∈ n.ah, ∀ y ∈ x.ah, _ := fun x hx y hy => Fs N y avt avw avt
  have ht := (rl hw).1
  have P3 : ∀ x ∈ n.ah, x.aj.length ≤ 1048576 := fun x hx => (rl (wk hw x hx)).1
  have hs := iK n
  refine ⟨fun hv => ?_, fun hv => ?_⟩
  ·obtain ⟨s, hp⟩ := akx tX tY (LO hw hv)
   have hl := aa5 hp ht P3 (fun x hx q => ((hk x hx).1 q).2.1) (fun x hx y hy q => ((nU x hx y hy).1 q).2.1) (fun x hx q => ((hk x hx).2 q).2.1)
   have e := Qf n hp hw avh (fun x hx q => ((hk x hx).1 q).1) (fun x hx y hy q => ((nU x hx y hy).1 q).1) (fun x hx q => ((hk x hx).2 q).1)
   have e2 : tX n = s := by rw [tX, e]; rfl
   exact ⟨⟨by rw [e, e2], by rw [e2]; omega⟩, ⟨by rw [e2]; omega, by rw [e2]; omega⟩, by rw [e2]; exact hp⟩
  ·obtain ⟨s, hp⟩ := aky tX tY (aa2 hw hv)
   have hl := aa6 hp ht P3 (fun x hx q => ((hk x hx).1 q).2.1) (fun x hx q => ((hk x hx).2 q).2.1)
   have e := Qg n hp hw avh (fun x hx q => ((hk x hx).1 q).1) (fun x hx q => ((hk x hx).2 q).1)
   have e2 : tY n = s := by rw [tY, e]; rfl
   exact ⟨⟨by rw [e, e2], by rw [e2]; omega⟩, ⟨by rw [e2]; omega, by rw [e2]; omega⟩, by rw [e2]; exact hp⟩
theorem pX {n : ae} (hw : wt n ≤ 1048576) (h6 : sz n ≤ 600) (hv : vE n = true) : OX tX n ∧ Bd tX n ∧ PX tX tY n.ai n.aC n.aj n.ah (tX n) := (Fs _ n (ate _) hw h6).1 hv
theorem pY {n : ae} (hw : wt n ≤ 1048576) (h6 : sz n ≤ 600) (hv : vQ n = true) : OY tY n ∧ Bd tY n ∧ PS tX tY n.ai n.aC n.aj n.ah (tY n) := (Fs _ n (ate _) hw h6).2 hv
def Bh (m : Int) : aq := (if m = 1 ∨ m = 3 then [112, 114, 105, 118, 97, 116, 101, 32] else []) ++ (if m = 2 ∨ m = 3 then [115, 116, 97, 116, 105, 99, 32] else [])
inductive PD : Int → Int → aq → List ae → aq → Prop
 | fn (k m : Int) (t : aq) (l : List ae) (z : ae) (hk : k = 49 ∨ k = 55) (h0 : 0 ≤ m) (h1 : m ≤ 3) (hu : vh false false l = true) (kz : z.ai = 48) (hz : vS z = true) : PD k m t (l ++ [z]) (Bh m ++ [102, 117, 110, 99, 116, 105, 111, 110, 32] ++ t ++ params (l ++ [z]) 24 ++ [32] ++ tY z)
 | use (t : aq) : PD 53 0 t [] ([117, 115, 101, 32] ++ t ++ [59])
 | prop (m : Int) (t : aq) (a : ae) (h0 : 0 ≤ m) (h1 : m ≤ 1) (ha : vE a = true) : PD 54 m t [a] (Bh m ++ [36] ++ t ++ [32, 61, 32] ++ tX a ++ [59])
def mb (x : ae) : Prop := ∃ s, PD x.ai x.aC x.aj x.ah s ∧ 53 ≤ x.ai
theorem Qh {ks : List ae} (h : OZ ks = true) : ∃ a, ks = [a] ∧ vE a = true := by
 rcases ks with _ | ⟨a, _ | ⟨b, r⟩⟩
 ·cases h
 ·have h' : (decide (1 ≤ a.ai ∧ a.ai ≤ 3) && vE a) = true := h
  rw [As] at h'
  exact ⟨a, rfl, h'.2⟩
 ·cases h
theorem vD {c f p : Bool} {x : ae} {r : List ae} (h : sG c f p (x :: r) = true) : ((x.ai = 52 ∧ f = true ∧ c = true ∧ x.ah = []) ∨ mb x) ∧ ∃ p', sG c false p' r = true := by
 rw [sG] at h
 unfold mb
 generalize x.ai = k at *
 generalize x.aC = m at *
 generalize x.aj = t at *
 generalize x.ah = ks at *
 by_cases h1 : k = 52
 ·rw [h1] at h
  simp only [atI, cond_true, As, beq_iff_eq] at h
  refine ⟨.inl ⟨h1, h.1.1, h.1.2.1, ?_⟩, _, h.2⟩
  exact atL.1 (by have := h.1.2.2.2.2; omega)
 rw [beq_eq_false_iff_ne.2 h1, cond_false] at h
 by_cases h2 : k = 53
 ·rw [h2] at h
  simp only [atI, cond_true, As, beq_iff_eq] at h
  refine ⟨.inr ?_, _, h.2⟩
  have e1 := h.1.2.1
  have e2 : ks = [] := atL.1 (by have := h.1.2.2.2; omega)
  subst h2; subst e1; subst e2
  exact ⟨_, .use _, by omega⟩
 rw [beq_eq_false_iff_ne.2 h2, cond_false] at h
 by_cases h3 : k = 54
 ·rw [h3] at h
  simp only [atI, cond_true, As, decide_eq_true_eq] at h
  refine ⟨.inr ?_, _, h.2⟩
  obtain ⟨a, e1, e2⟩ := Qh h.1.2.2
  subst h3; subst e1
  exact ⟨_, .prop _ _ _ h.1.1.1 h.1.1.2 e2, by omega⟩
 rw [beq_eq_false_iff_ne.2 h3, cond_false] at h
 simp only [As, decide_eq_true_eq, beq_iff_eq] at h
 obtain ⟨⟨h4, h5, h6, h7⟩, h8⟩ := h
 refine ⟨.inr ?_, _, h8⟩
 obtain ⟨l, z, e1, e2, e3, e4⟩ := DM h7
 subst h4; subst e1
 exact ⟨_, .fn _ _ _ _ _ (.inr rfl) h5.1 h5.2 e2 e3 e4, by omega⟩
theorem Ak {c : Bool} : ∀ {l : List ae} {p : Bool}, sG c false p l = true → ∀ x ∈ l, mb x
 | [], _, _, x, hx => by cases hx
 | y :: r, p, h, x, hx => by
  obtain ⟨h1, p', h2⟩ := vD h
  rcases asI.1 hx with e | e
  ·subst e
   rcases h1 with q | q
   ·cases q.2.1
   ·exact q
  ·exact Ak h2 x e
theorem qb (m : Int) : (Bh m).length ≤ 15 := by
 unfold Bh
 split <;> split <;> simp
theorem u24 {l : List ae} {b : Bool} (h : vh false b l = true) : ∀ x ∈ l, x.ai = 24 := by
 induction l generalizing b with
 | nil => intro x hx; cases hx
 | cons y r ih =>
  rw [vh] at h
  simp only [atl, atf, As, beq_iff_eq] at h
  intro x hx
  rcases asI.1 hx with e | e
  ·rw [e]; exact h.1.1
  ·exact ih h.2.2.2.2 x e
theorem aa8 {a : ae} (h : a.ai = 24) : bD a = some false := by
 unfold bD
 rw [if_pos avh, h]; rfl
theorem Qi (m : Int) (h0 : 0 ≤ m) (h1 : m ≤ 3) : (if (bits .and .i64 m 1) = 1 then some [112, 114, 105, 118, 97, 116, 101, 32] else (some [] : Option aq)) = some (if m = 1 ∨ m = 3 then [112, 114, 105, 118, 97, 116, 101, 32] else []) := by
 rcases (by omega : m = 0 ∨ m = 1 ∨ m = 2 ∨ m = 3) with h | h | h | h <;> subst h <;> rfl
theorem Qj (m : Int) (h0 : 0 ≤ m) (h1 : m ≤ 3) (s : aq) (hs : s.length ≤ 100) : (if (bits .and .i64 m 2) = 2 then aI s [115, 116, 97, 116, 105, 99, 32] >>= fun J9 => some J9 else some s) = some (s ++ (if m = 2 ∨ m = 3 then [115, 116, 97, 116, 105, 99, 32] else [])) := by
 rcases (by omega : m = 0 ∨ m = 1 ∨ m = 2 ∨ m = 3) with h | h | h | h <;> subst h
 ·rw [if_neg avn]; simp
 ·rw [if_neg avn]; simp
 ·rw [if_pos avn, aH avq]; rfl
 ·rw [if_pos avn, aH avq]; rfl
theorem L0 {k m : Int} {t : aq} {ks : List ae} {s : aq} (h : PD k m t ks s) (ht : t.length ≤ 1048576) (hk : ∀ x ∈ ks, wt x ≤ 1048576) (h6 : 1 + gZ ks ≤ 600) : s.length + 24 ≤ 4194304 * (1 + gZ ks) := by
 cases h
 case fn l z hu kz hz kk h0 h1 =>
  have e1 := oc 24 l z (by rw [kz]; rfl) (fun x hx => (rl (hk x avu)).1)
  have e3 := vC l z
  have e2 := (pY (hk z avj) avh (jD hz)).2.1.2
  have e4 := qb m
  simp only [An, an, mg]; omega
 case use => simp only [gZ, An, an, mg]; omega
 case prop a ha h0 h1 =>
  simp only [gZ] at h6
  have e2 := (pX (hk a avj) avh ha).2.1.2
  have e4 := qb m
  simp only [gZ, An, an, mg]; omega
set_option maxHeartbeats 4000000 in
theorem Qk (n : ae) {s : aq} (h : PD n.ai n.aC n.aj n.ah s) (hw : wt n ≤ 1048576) (h6 : sz n ≤ 600) : a8 n = some s := by
 have Vr := L0 h (rl hw).1 (wk hw) (by have := iK n; omega)
 have hs6 := iK n
 have hs : s.length ≤ 1099511627776 := by omega
 have hl := (rl hw).2
 have sI := wk hw
 have O0 : ∀ x ∈ n.ah, sz x ≤ 600 := fun x hx => by have := cJ hx; omega
 rw [a8, jO]
 generalize n.ah = ks at *
 generalize n.aj = t at *
 generalize n.aC = m at *
 generalize n.ai = k at *
 cases h
 case fn l z hu kz hz kk h0 h1 =>
  have hp : (if (((l ++ [z]).length : Nat) : Int) > 0 then idx (l ++ [z]) 0 >>= fun qT => bD qT >>= fun r7 => (if r7 = true then idx (l ++ [z]) 0 >>= fun qU => bJ qU 1 >>= fun r8 => some r8 else some []) else some []) = some [] := by
   rcases l with _ | ⟨a, r⟩
   ·exact wK avh
   ·rw [asz, if_pos avo, aT, sb, aa8 (u24 hu a avj), sb, if_neg avn]
  have e := sH (l ++ [z]) 24 hl (by simp only [An, an, mg] at hs; omega)
  have e2 := (pY (sI z avj) (O0 z avj) (jD hz)).1.1
  have e3 : aS (((l ++ [z]).length : Int) - 1) = (l.length : Int) := kx avj avN
  have e4 := qb m
  simp only [Bh, An] at e4
  simp only [Bh, An, an, mg] at hs
  rw [hp, sb, Qi m h0 h1, sb, Qj m h0 h1 _ avh, sb, e3]
  rcases kk with kk | kk <;> subst kk
  ·simp (disch := first | omega | (simp only [An, an, mg]; omega)) only [Int.reduceEq, Int.reduceBEq, if_true, if_false, sb, aH, e, e2, lf, Bh]
  ·simp (disch := first | omega | (simp only [An, an, mg]; omega)) only [Int.reduceEq, Int.reduceBEq, if_true, if_false, sb, aH, e, e2, lf, Bh]
 case use =>
  simp only [An, an, mg] at hs
  rw [wL, sb, Qi 0 avh avh, sb, Qj 0 avh avh _ avj, sb]
  simp (disch := first | omega | (simp only [An, an, mg]; omega)) only [Int.reduceEq, Int.reduceBEq, asG, if_true, if_false, sb, aH]
 case prop a ha h0 h1 =>
  obtain ⟨e1, e2, e3⟩ := pX (sI a avj) (O0 a avj) ha
  have e4 := qb m
  simp only [Bh, An] at e4
  simp only [Bh, An, an, mg] at hs
  rw [mE e1 (iL (sI a avj) ha).2, sb, Qi m h0 avh, sb, Qj m h0 avh _ avh, sb]
  simp (disch := first | omega | (simp only [An, an, mg]; omega)) only [Int.reduceEq, Int.reduceBEq, asG, if_true, if_false, sb, aH, aT, e1.1, Bh]
theorem pD {n : ae} {s : aq} (h : PD n.ai n.aC n.aj n.ah s) (hw : wt n ≤ 1048576) (h6 : sz n ≤ 600) : s = tY n ∧ OY tY n ∧ (tY n).length + 24 ≤ 4194304 * sz n := by
 have e := Qk n h hw h6
 have h0 := L0 h (rl hw).1 (wk hw) (by have := iK n; omega)
 have hs := iK n
 have e2 : tY n = s := by rw [tY, e]; rfl
 exact ⟨e2.symm, ⟨by rw [e, e2], by rw [e2]; omega⟩, by rw [e2]; omega⟩
set_option maxRecDepth 100000
def ext (ks : List ae) : aq := match ks with | x :: _ => (if x.ai = 52 then [32, 101, 120, 116, 101, 110, 100, 115, 32] ++ x.aj else []) | [] => []
def Ck (n : ae) : aq := (if n.ai = 50 then [99, 108, 97, 115, 115, 32] else [116, 114, 97, 105, 116, 32]) ++ n.aj ++ ext n.ah ++ [32, 123, 32] ++ ed tY n.ah ++ [125]
theorem tT : ∀ (l : List ae), (∀ x ∈ l, ¬ x.ai = 52 → (tY x).length + 24 ≤ 4194304 * sz x) → (ed tY l).length ≤ 4194304 * gZ l
 | [], _ => by simp [ed]
 | x :: r, h => by
  have h1 := tT r (fun y hy => h y avF)
  have h2 := h x avj
  unfold ed at h1 ⊢
  rw [asZ, gZ, An]
  by_cases h3 : x.ai = 52
  ·rw [h3]; simp only [atI, cond_true, mg]; omega
  ·rw [beq_eq_false_iff_ne.2 h3]; simp only [cond_false, An, an, mg]; have := h2 h3; omega
theorem L1 {x : ae} (h : mb x) (hw : wt x ≤ 1048576) (h6 : sz x ≤ 600) : PD x.ai x.aC x.aj x.ah (tY x) ∧ OY tY x ∧ (tY x).length + 24 ≤ 4194304 * sz x := by
 obtain ⟨s, h1, _⟩ := h
 obtain ⟨e, h2, h3⟩ := pD h1 hw h6
 exact ⟨by rw [← e]; exact h1, h2, h3⟩
theorem Ft {n : ae} {c : Bool} (h : sG c true false n.ah = true) : ∀ x ∈ n.ah, ¬ x.ai = 52 → mb x := by
 generalize n.ah = ks at *
 rcases ks with _ | ⟨a, r⟩
 ·intro x hx; cases hx
 ·obtain ⟨h1, p', h2⟩ := vD h
  intro x hx hk
  rcases asI.1 hx with e | e
  ·subst e
   rcases h1 with q | q
   ·exact absurd q.1 hk
   ·exact q
  ·exact Ak h2 x e
theorem vF {x : ae} (h : mb x) : 53 ≤ x.ai := by obtain ⟨_, _, h⟩ := h; exact h
set_option maxHeartbeats 4000000 in
theorem pC {n : ae} (hk : n.ai = 50 ∨ n.ai = 51) (hn : n.aC = 0) (h : sG (n.ai == 50) true false n.ah = true) (hw : wt n ≤ 1048576) (h6 : sz n ≤ 600) : tY n = Ck n ∧ OY tY n ∧ (tY n).length + 24 ≤ 4194304 * sz n := by
 have hs6 := iK n
 have hl := (rl hw).2
 have ht := (rl hw).1
 have sI := wk hw
 have O0 : ∀ x ∈ n.ah, sz x ≤ 600 := fun x hx => by have := cJ hx; omega
 have hm := Ft h
 have hE := tT n.ah (fun x hx q => (L1 (hm x hx q) (sI x hx) (O0 x hx)).2.2)
 have hx : (ext n.ah).length ≤ 1048585 := by
  unfold ext
  clear h hm hE hl hs6
  generalize n.ah = ks at *
  rcases ks with _ | ⟨a, r⟩
  ·simp
  ·have := (rl (sI a avj)).1
   dsimp only
   split
   ·simp only [An, an, mg]; omega
   ·simp
 have hL : (Ck n).length + 24 ≤ 4194304 * sz n := by
  unfold Ck
  split <;> simp only [An, an, mg] <;> omega
 have e : a8 n = some (Ck n) := by
  have eE := wM (Y := tY) n.ah (fun x hx q => (L1 (hm x hx q) (sI x hx) (O0 x hx)).2.1) hl avh
  have hp : (if (n.ah.length : Int) > 0 then idx n.ah 0 >>= fun qT => bD qT >>= fun r7 => (if r7 = true then idx n.ah 0 >>= fun qU => bJ qU 1 >>= fun r8 => some r8 else some []) else some []) = some [] := by
   generalize n.ah = ks at *
   rcases ks with _ | ⟨a, r⟩
   ·rfl
   ·refine wK ?_
    by_cases q : a.ai = 52
    ·omega
    ·have := vF (hm a avj q); omega
  rw [a8, jO, hp, sb, hn, Qi 0 avh avh, sb, Qj 0 avh avh _ avj, sb, eE]
  unfold Ck
  have hq : ∀ (a : ae) (r : List ae), n.ah = a :: r → a.ai = 52 → n.ai = 50 := fun a r e1 e2 => by
   rw [e1] at h
   obtain ⟨h1, _⟩ := vD h
   rcases h1 with q | q
   ·exact eq_of_beq q.2.2.1
   ·have := vF q; omega
  generalize ed tY n.ah = T at *
  generalize n.ah = ks at *
  generalize n.aj = t at *
  generalize n.ai = k at *
  rcases ks with _ | ⟨a, r⟩
  ·rcases hk with hk | hk <;> subst hk
   ·simp (disch := first | omega | (simp only [An, an, mg]; omega)) only [Int.reduceEq, Int.reduceBEq, asG, if_true, if_false, sb, aH, ext, atv]
    rw [if_neg avj]; rfl
   ·simp (disch := first | omega | (simp only [An, an, mg]; omega)) only [Int.reduceEq, Int.reduceBEq, asG, if_true, if_false, sb, aH, ext, atv]
  ·have htx := (rl (sI a avj)).1
   rcases hk with hk | hk <;> subst hk
   ·have q0 : (((a :: r).length : Nat) : Int) > 0 := by simp only [an]; omega
    by_cases q : a.ai = 52
    ·simp (disch := first | omega | (simp only [An, an, mg]; omega)) only [Int.reduceEq, Int.reduceBEq, asG, if_true, if_false, sb, aH, ext, aT, q]
     rw [if_pos q0]
     simp only [sb, No]
    ·simp (disch := first | omega | (simp only [An, an, mg]; omega)) only [Int.reduceEq, Int.reduceBEq, asG, if_true, if_false, sb, aH, ext, aT, q, atv]
     rw [if_pos q0]; rfl
   ·have q : ¬ a.ai = 52 := fun q => by have := hq a r rfl q; omega
    simp (disch := first | omega | (simp only [An, an, mg]; omega)) only [Int.reduceEq, Int.reduceBEq, asG, if_true, if_false, sb, aH, ext, q, atv]
 have e2 : tY n = Ck n := by rw [tY, e]; rfl
 exact ⟨e2, ⟨by rw [e, e2], by rw [e2]; omega⟩, by rw [e2]; omega⟩
inductive Top (n : ae) : Prop
 | st (h : vS n = true)
 | fn (hk : n.ai = 49) (hn : n.aC = 0) (h : PD n.ai n.aC n.aj n.ah (tY n))
 | cl (hk : n.ai = 50 ∨ n.ai = 51) (hn : n.aC = 0) (h : sG (n.ai == 50) true false n.ah = true) (e : tY n = Ck n)
theorem pP {n : ae} (h : vP n = true) (hw : wt n ≤ 1048576) (h6 : sz n ≤ 600) : Top n ∧ OY tY n ∧ (tY n).length + 24 ≤ 4194304 * sz n ∧ ¬ n.ai = 52 := by
 rw [vP, atg] at h
 rcases h with h | h
 ·rw [vT, As, As, beq_iff_eq] at h
  obtain ⟨h1, h2, h3⟩ := h
  by_cases h9 : n.ai = 49
  ·rw [h9, atI, cond_true] at h3
   obtain ⟨l, z, e1, e2, e3, e4⟩ := DM h3
   have hp : ∃ s, PD n.ai n.aC n.aj n.ah s := by
    rw [e1]; exact ⟨_, .fn _ _ _ _ _ (.inl h9) avh avh e2 e3 e4⟩
   obtain ⟨s, hp⟩ := hp
   obtain ⟨q1, q2, q3⟩ := pD hp hw h6
   exact ⟨.fn h9 h1 (by rw [← q1]; exact hp), q2, q3, by omega⟩
  ·rw [beq_eq_false_iff_ne.2 h9, cond_false, As, atg, beq_iff_eq, beq_iff_eq] at h3
   obtain ⟨q1, q2, q3⟩ := pC h3.1 h1 h3.2 hw h6
   exact ⟨.cl h3.1 h1 h3.2 q1, q2, q3, by omega⟩
 ·obtain ⟨q1, q2, _⟩ := pY hw h6 (jD h)
  have := Aj hw h
  exact ⟨.st h, q1, q2.2, by omega⟩
set_option maxRecDepth 100000
abbrev PP (p : aq) : av := av.mk (aE.mk () p)
theorem L2 (ss : List aq) (hl : ss.length ≤ 1048576) : ∀ (f i : Nat) (p : aq), ss.length ≤ i + f → p.length + (ss.drop i).flatten.length ≤ 140737488355328 → eu ss p (i : Int) = some (PP (p ++ (ss.drop i).flatten))
 | f, i, p, hf, hb => by
  rw [eu]
  by_cases hi : i < ss.length
  ·obtain ⟨g, rfl⟩ : ∃ g, f = g + 1 := ⟨f - 1, by omega⟩
   have hd := asE hi
   rw [hd, List.flatten_cons, An] at hb
   rw [if_pos avh, bc hi, sb, eN, if_pos (by simp only; omega), sb, bF avh]
   show eu ss (p ++ ss[i]) ((i + 1 : Nat) : Int) = _
   rw [L2 ss hl g (i + 1) (p ++ ss[i]) avh (by rw [An]; omega), hd, List.flatten_cons, No]
  ·rw [if_neg avh, asD avh]; simp
theorem put_eq {ss : List aq} {p : aq} (hl : ss.length ≤ 1048576) (hb : p.length + ss.flatten.length ≤ 140737488355328) : ak (PP p) ss = some (PP (p ++ ss.flatten)) := by
 have := L2 ss hl ss.length 0 p avh (by rw [asJ]; exact hb)
 rw [show ((0 : Nat) : Int) = 0 from rfl, asJ] at this
 exact this
theorem cf {a p : aq} (hb : p.length + a.length ≤ 140737488355328) : ak (PP p) [a] = some (PP (p ++ a)) := by
 rw [put_eq avj avH]; simp
theorem eR {a b p : aq} (hb : p.length + (a.length + b.length) ≤ 140737488355328) : ak (PP p) [a, b] = some (PP (p ++ (a ++ b))) := by
 rw [put_eq avj avH]; simp
theorem fM {a b c p : aq} (hb : p.length + (a.length + (b.length + c.length)) ≤ 140737488355328) : ak (PP p) [a, b, c] = some (PP (p ++ (a ++ (b ++ c)))) := by
 rw [put_eq avj avH]; simp
theorem fN {a b c d p : aq} (hb : p.length + (a.length + (b.length + (c.length + d.length))) ≤ 140737488355328) : ak (PP p) [a, b, c, d] = some (PP (p ++ (a ++ (b ++ (c ++ d))))) := by
 rw [put_eq avj avH]; simp
theorem aqO {a b c d e p : aq} (hb : p.length + (a.length + (b.length + (c.length + (d.length + e.length)))) ≤ 140737488355328) : ak (PP p) [a, b, c, d, e] = some (PP (p ++ (a ++ (b ++ (c ++ (d ++ e)))))) := by
 rw [put_eq avj avH]; simp
theorem L3 (m : Int) (h1 : 1 ≤ m) (h2 : m ≤ 15) : j7 m = some (mU m) ∧ kB m = some (Ch m) := by
 obtain ⟨s, e1, e2, k, e3, e4, _⟩ := sOp m h1 h2
 refine ⟨?_, ?_⟩
 ·rw [e4, mU, e3]; rfl
 ·rw [e2, Ch, e1]; rfl
theorem akH (n : ae) (h : n.ai = 10 → 1 ≤ n.aC ∧ n.aC ≤ 15) : lh n = some (lvl n) := by
 unfold lh lvl
 generalize n.ai = k at *
 by_cases LC : k = 15
 ·subst LC; rfl
 by_cases LD : k = 16
 ·subst LD; rfl
 by_cases P1 : k = 17
 ·subst P1; rfl
 by_cases LB : k = 14
 ·subst LB; rfl
 by_cases GI : k = 13
 ·subst GI; rfl
 by_cases GH : k = 12
 ·subst GH; rfl
 by_cases GG : k = 11
 ·subst GG; rfl
 by_cases Ae : k = 10
 ·rw [(L3 n.aC (h Ae).1 (h Ae).2).1]; subst Ae; rfl
 by_cases h9 : k = 9
 ·subst h9; rfl
 rw [if_neg LC, if_neg LD, if_neg (show ¬ (k = 15 ∨ k = 16 ∨ k = 17) by omega), beq_eq_false_iff_ne.2 P1, sb]
 rw [if_neg avn, if_neg LB, if_neg LB, if_neg GI, if_neg GI, if_neg GH, if_neg GH, if_neg GG, if_neg GG, if_neg Ae, if_neg Ae, if_neg h9, if_neg h9]
section
variable {X Y : ae → aq}
def IX (X : ae → aq) (x : ae) : Prop := (∀ p : aq, p.length + (X x).length ≤ 140737488355328 → gn (PP p) x = some (PP (p ++ X x))) ∧ (x.ai = 10 → 1 ≤ x.aC ∧ x.aC ≤ 15)
def IY (Y : ae → aq) (x : ae) : Prop := ∀ p : aq, p.length + (Y x).length ≤ 140737488355328 → cN (PP p) x = some (PP (p ++ Y x))
def IB (Y : ae → aq) (x : ae) : Prop := ∀ p : aq, p.length + (Y x).length ≤ 140737488355328 → aY (PP p) x = some (PP (p ++ Y x))
theorem mW {x : ae} (h : IX X x) {k : Int} {p : aq} (hb : p.length + (nq X x k).length ≤ 140737488355328) : aO (PP p) x k = some (PP (p ++ nq X x k)) := by
 rw [aO, akH x h.2, sb]
 unfold nq at hb ⊢
 by_cases hk : lvl x < k
 ·rw [if_pos hk] at hb ⊢
  rw [if_pos hk]
  simp only [An, an, mg] at hb
  rw [cf avq, sb, h.1 _ avl, sb, cf avl, sb]
  simp only [No]
 ·rw [if_neg hk] at hb ⊢
  rw [if_neg hk, h.1 _ hb]; rfl
theorem Vs {n a b : ae} {r : List ae} {i : Int} {s : aq} {j : Int} {p : aq} (hk : n.ah = a :: b :: r) (ha : IX X a) (hb : IX X b) (hl : p.length + (two X a i s b j).length ≤ 140737488355328) : bC (PP p) n i s j = some (PP (p ++ two X a i s b j)) := by
 simp only [two, An] at hl
 rw [bC, hk]
 simp (disch := first | omega | (simp only [An, an, mg]; omega)) only [aT, eY, sb, mW ha, mW hb, cf, two, No]
theorem akI (ks : List ae) (h : ∀ x ∈ ks, IX X x) (hl : ks.length ≤ 1048576) : ∀ (f i : Nat) (p : aq), ks.length ≤ i + f → p.length + (jn X (decide (i = 0)) (ks.drop i)).length ≤ 140737488355328 →
  cR ks p (i : Int) = some (p ++ jn X (decide (i = 0)) (ks.drop i))
 | f, i, p, hf, hb => by
  rw [cR]
  by_cases hi : i < ks.length
  ·obtain ⟨g, rfl⟩ : ∃ g, f = g + 1 := ⟨f - 1, by omega⟩
   have hd := asE hi
   have hx := h _ (asK hi)
   have oY : decide (i + 1 = 0) = false := decide_eq_false avh
   have IH : ∀ u : aq, u.length + (jn X false (ks.drop (i + 1))).length ≤ 140737488355328 → cR ks u ((i + 1 : Nat) : Int) = some (u ++ jn X false (ks.drop (i + 1))) := fun u mD => by
    rw [akI ks h hl g (i + 1) u avh avO, oY]
   rw [hd, jn] at hb
   rw [if_pos avh, bc hi, bF avh, hd, jn, sb]
   by_cases he : i = 0
   ·rw [decide_eq_true he] at hb ⊢
    simp only [cond_true, An, an, mg] at hb
    rw [if_neg avh]
    simp (disch := first | omega | (simp only [An, an, mg]; omega)) only [cf, sb, mW hx, IH, cond_true, No, are, asz]
   ·rw [decide_eq_false he] at hb ⊢
    simp only [cond_false, An, an, mg] at hb
    rw [if_pos avh]
    simp (disch := first | omega | (simp only [An, an, mg]; omega)) only [cf, sb, mW hx, IH, cond_false, No, are, asz]
  ·rw [if_neg avh, asD avh]; simp [jn]
theorem tU {ks : List ae} {p : aq} (h : ∀ x ∈ ks, IX X x) (hl : ks.length ≤ 1048576) (hb : p.length + (jm X ks).length ≤ 140737488355328) : dx (PP p) ks = some (PP (p ++ jm X ks)) := by
 simp only [jm, An, an, mg] at hb
 have h0 := akI ks h hl ks.length 0 (p ++ [40]) avh avL
 rw [decide_eq_true rfl, show ((0 : Nat) : Int) = 0 from rfl, asJ] at h0
 rw [dx]
 simp (disch := first | omega | (simp only [An, an, mg]; omega)) only [cf, sb, h0, jm, No, are, asz]
end
set_option maxRecDepth 100000
section
variable {X Y : ae → aq}
theorem Vt (n : ae) (h : ∀ x ∈ n.ah, ∀ y ∈ x.ah, IX X y) (hp : ∀ x ∈ n.ah, 1 ≤ (x.ah.length : Int) ∧ (x.ah.length : Int) ≤ 2) (hl : n.ah.length ≤ 1048576) : ∀ (f i : Nat) (p : aq), n.ah.length ≤ i + f → p.length + (wH X (decide (i = 0)) (n.ah.drop i)).length ≤ 140737488355328 →
  cU n p (i : Int) = some (p ++ wH X (decide (i = 0)) (n.ah.drop i))
 | f, i, p, hf, hb => by
  rw [cU]
  by_cases hi : i < n.ah.length
  ·obtain ⟨g, rfl⟩ : ∃ g, f = g + 1 := ⟨f - 1, by omega⟩
   have hd := asE hi
   have hx := h _ (asK hi)
   have GJ := hp _ (asK hi)
   have oY : decide (i + 1 = 0) = false := decide_eq_false avh
   have IH : ∀ u : aq, u.length + (wH X false (n.ah.drop (i + 1))).length ≤ 140737488355328 → cU n u ((i + 1 : Nat) : Int) = some (u ++ wH X false (n.ah.drop (i + 1))) := fun u mD => by
    rw [Vt n h hp hl g (i + 1) u avh avO, oY]
   rw [hd, wH, pr1] at hb
   rw [if_pos avh, bc hi, bF avh, hd, wH, pr1]
   generalize n.ah[i] = x at *
   have hP : ∀ a b i s j u, x.ah = [a, b] → IX X a → IX X b → u.length + (two X a i s b j).length ≤ 140737488355328 → bC (PP u) x i s j = some (PP (u ++ two X a i s b j)) := fun a b i s j u hk ha hb hl => Vs hk ha hb hl
   generalize xO : x.ah = ks at *
   rcases ks with _ | ⟨a, _ | ⟨b, _ | ⟨c, r⟩⟩⟩
   ·simp at GJ
   ·have ha := hx a avj
    have q1 : ¬ ((([a] : List ae).length : Int) = 2) := by simp
    by_cases he : i = 0
    ·rw [decide_eq_true he] at hb ⊢
     simp only [cond_true, An, an, mg] at hb
     rw [sb, if_neg avh]
     simp (disch := first | omega | (simp only [An, an, mg]; omega)) only [cf, sb, mW ha, aT, xO, IH, cond_true, No, are, asz, q1, if_false]
    ·rw [decide_eq_false he] at hb ⊢
     simp only [cond_false, An, an, mg] at hb
     rw [sb, if_pos avh]
     simp (disch := first | omega | (simp only [An, an, mg]; omega)) only [cf, sb, mW ha, aT, xO, IH, cond_false, No, are, asz, q1, if_false]
   ·have ha := hx a avj
    have np := hx b avj
    have q1 : ((([a, b] : List ae).length : Int) = 2) := by simp
    have hT := fun u => hP a b 1 [32, 61, 62, 32] 1 u rfl ha np
    simp only [two, An, an, mg] at hT
    by_cases he : i = 0
    ·rw [decide_eq_true he] at hb ⊢
     simp only [cond_true, An, an, mg] at hb
     rw [sb, if_neg avh, sb, if_pos (by rw [xO]; exact q1)]
     simp (disch := first | omega | (simp only [An, an, mg]; omega)) only [cf, sb, hT, IH, cond_true, No, are, asz]
    ·rw [decide_eq_false he] at hb ⊢
     simp only [cond_false, An, an, mg] at hb
     rw [sb, if_pos avh, cf avq, sb, sb, if_pos (by rw [xO]; exact q1)]
     simp (disch := first | omega | (simp only [An, an, mg]; omega)) only [cf, sb, hT, IH, cond_false, No, are, asz]
   ·simp at GJ; omega
  ·rw [if_neg avh, asD avh]; simp [wH]
theorem Vu (ks : List ae) (k : Int) (hl : ks.length ≤ 1048576) : ∀ (f i : Nat) (b : Bool) (p : aq), ks.length ≤ i + f → p.length + (vi k b (ks.drop i)).length ≤ 140737488355328 →
  bS ks k p b (i : Int) = some (p ++ vi k b (ks.drop i))
 | f, i, b, p, hf, hb => by
  rw [bS]
  by_cases hi : i < ks.length
  ·obtain ⟨g, rfl⟩ : ∃ g, f = g + 1 := ⟨f - 1, by omega⟩
   have hd := asE hi
   have IH : ∀ (b : Bool) (u : aq), u.length + (vi k b (ks.drop (i + 1))).length ≤ 140737488355328 → bS ks k u b ((i + 1 : Nat) : Int) = some (u ++ vi k b (ks.drop (i + 1))) := fun b u mD => Vu ks k hl g (i + 1) b u avh mD
   rw [hd, vi] at hb
   rw [if_pos avh, bc hi, sb, bF avh, hd, vi]
   generalize ks[i] = x at hb
   by_cases hk : x.ai = k
   ·rw [if_pos hk, hk, atI, cond_true]
    rw [hk, atI, cond_true] at hb
    cases b <;> by_cases hn : x.aC = 1
    all_goals
     first | rw [hn] at hb ⊢ | rw [beq_eq_false_iff_ne.2 hn] at hb ⊢
     simp only [cond_true, cond_false, atI, An, an, mg] at hb
     simp (disch := first | omega | (simp only [An, an, mg]; omega)) only [cf, eR, sb, IH, hn, if_true, if_false, cond_true, cond_false, atI, No, are, asz, asG]
   ·rw [if_neg hk, beq_eq_false_iff_ne.2 hk, cond_false]
    rw [beq_eq_false_iff_ne.2 hk, cond_false] at hb
    exact IH b p hb
  ·rw [if_neg avh, asD avh]; simp [vi]
theorem wN {ks : List ae} {k : Int} {p : aq} (hl : ks.length ≤ 1048576) (hb : p.length + (params ks k).length ≤ 140737488355328) : dq (PP p) ks k = some (PP (p ++ params ks k)) := by
 simp only [params, An, an, mg] at hb
 have h0 := Vu ks k hl ks.length 0 true (p ++ [40]) avh (by rw [asJ]; simp only [An, an, mg]; omega)
 rw [show ((0 : Nat) : Int) = 0 from rfl, asJ] at h0
 rw [dq]
 simp (disch := first | omega | (simp only [An, an, mg]; omega)) only [cf, sb, h0, params, No, are, asz]
theorem L4 (n : ae) (p : aq) (hl : n.ah.length ≤ 1048576) : ∀ (f i : Nat), n.ah.length ≤ i + f → (∀ x ∈ n.ah.drop i, ¬ x.ai = 25) → bL n (PP p) (i : Int) = some p
 | f, i, hf, h => by
  rw [bL]
  by_cases hi : i < n.ah.length
  ·obtain ⟨g, rfl⟩ : ∃ g, f = g + 1 := ⟨f - 1, by omega⟩
   have hd := asE hi
   rw [hd] at h
   rw [if_pos avh, bc hi, bF avh, sb, if_neg (h _ List.mem_cons_self), L4 n p hl g (i + 1) avh (fun x hx => h x (asO _ hx))]
  ·rw [if_neg avh]
theorem Fu (n : ae) (p : aq) (hl : n.ah.length ≤ 1048576) (hb : p.length + 5 + (params n.ah 25).length ≤ 140737488355328) : ∀ (f i : Nat), n.ah.length ≤ i + f → (∃ x ∈ n.ah.drop i, x.ai = 25) → bL n (PP p) (i : Int) = some (p ++ [32, 117, 115, 101, 32] ++ params n.ah 25)
 | f, i, hf, h => by
  rw [bL]
  by_cases hi : i < n.ah.length
  ·obtain ⟨g, rfl⟩ : ∃ g, f = g + 1 := ⟨f - 1, by omega⟩
   have hd := asE hi
   rw [hd] at h
   rw [if_pos avh, bc hi, bF avh, sb]
   by_cases hk : n.ah[i].ai = 25
   ·rw [if_pos hk]
    simp (disch := first | omega | (simp only [An, an, mg]; omega)) only [cf, sb, wN]
   ·rw [if_neg hk, Fu n p hl hb g (i + 1) avh (by
     obtain ⟨x, q1, q2⟩ := h
     rcases asI.1 q1 with e | e
     ·subst e; exact absurd q2 hk
     ·exact ⟨x, e, q2⟩)]
  ·rw [asD avh] at h
   obtain ⟨x, q1, _⟩ := h; cases q1
theorem Vv (n : ae) (h : ∀ x ∈ n.ah, IY Y x) (hl : n.ah.length ≤ 1048576) : ∀ (f i : Nat) (p : aq), n.ah.length ≤ i + f → p.length + ((n.ah.drop i).flatMap (fun x => Y x ++ [32])).length ≤ 140737488355328 →
  dt n p (i : Int) = some (p ++ (n.ah.drop i).flatMap (fun x => Y x ++ [32]))
 | f, i, p, hf, hb => by
  rw [dt]
  by_cases hi : i < n.ah.length
  ·obtain ⟨g, rfl⟩ : ∃ g, f = g + 1 := ⟨f - 1, by omega⟩
   have hd := asE hi
   have hx := h _ (asK hi)
   have IH : ∀ u : aq, u.length + ((n.ah.drop (i + 1)).flatMap (fun x => Y x ++ [32])).length ≤ 140737488355328 → dt n u ((i + 1 : Nat) : Int) = some (u ++ (n.ah.drop (i + 1)).flatMap (fun x => Y x ++ [32])) := fun u mD => Vv n h hl g (i + 1) u avh mD
   rw [hd, asZ] at hb
   simp only [An, an, mg] at hb
   rw [if_pos avh, bc hi, bF avh, hd, asZ, sb, hx p avh]
   simp (disch := first | omega | (simp only [An, an, mg]; omega)) only [cf, sb, IH, No, are, asz]
  ·rw [if_neg avh, asD avh]; simp
theorem L5 {n : ae} {p : aq} (h : ∀ x ∈ n.ah, IY Y x) (hl : n.ah.length ≤ 1048576) (hb : p.length + ([123, 32] ++ n.ah.flatMap (fun x => Y x ++ [32]) ++ [125]).length ≤ 140737488355328) : aY (PP p) n = some (PP (p ++ ([123, 32] ++ n.ah.flatMap (fun x => Y x ++ [32]) ++ [125]))) := by
 simp only [An, an, mg] at hb
 have h0 := Vv n h hl n.ah.length 0 (p ++ [123, 32]) avh (by rw [asJ]; simp only [An, an, mg]; omega)
 rw [show ((0 : Nat) : Int) = 0 from rfl, asJ] at h0
 rw [aY]
 simp (disch := first | omega | (simp only [An, an, mg]; omega)) only [cf, sb, h0, No, are, asz]
end
set_option maxRecDepth 100000
theorem akJ (m : Int) (h1 : 0 ≤ m) (h2 : m ≤ 2) : idx ([[110, 117, 108, 108], [102, 97, 108, 115, 101], [116, 114, 117, 101]] : List aq) m = some (Qc m) := by
 rcases (by omega : m = 0 ∨ m = 1 ∨ m = 2) with h | h | h <;> subst h <;> rfl
theorem aqP (m : Int) (h1 : 1 ≤ m) (h2 : m ≤ 2) : idx ([[], [33], [45]] : List aq) m = some (unW m) := by
 rcases (by omega : m = 1 ∨ m = 2) with h | h <;> subst h <;> rfl
theorem akK (m : Int) (h0 : 0 ≤ m) (h1 : m ≤ 1000000000) : jH m = some (Lib.itoa m) := by
 unfold jH m73
 rw [if_pos ⟨by omega, by omega⟩]; rfl
section
variable {X Y : ae → aq}
theorem akL (n z : ae) (l : List ae) (p : aq) (hk : n.ah = l ++ [z]) (hl : n.ah.length ≤ 1048576) (hz : IB Y z) (LF : z.ai = 48) (u : aq) (hu : ((¬ ∃ x ∈ l, x.ai = 25) ∧ u = []) ∨ ((∃ x ∈ l, x.ai = 25) ∧ u = [32, 117, 115, 101, 32] ++ params n.ah 25))
  (hb : p.length + 9 + (params n.ah 24).length + u.length + 1 + (Y z).length ≤ 140737488355328) : fF (PP p) n = some (PP (p ++ ([102, 117, 110, 99, 116, 105, 111, 110, 32] ++ (params n.ah 24 ++ (u ++ ([32] ++ Y z)))))) := by
 have e3 : aS ((n.ah.length : Int) - 1) = (l.length : Int) := kx (by rw [hk]; simp) (by rw [hk] at hl; simp at hl; omega)
 have e4 : idx n.ah (l.length : Int) = some z := by rw [hk]; exact lf
 have e5 : ∀ q : aq, q.length + u.length ≤ 140737488355328 → bL n (PP q) 0 = some (q ++ u) := by
  intro q hq
  rcases hu with ⟨h1, h2⟩ | ⟨h1, h2⟩
  ·have := L4 n q hl n.ah.length 0 avh (by
    rw [asJ, hk]
    intro x hx
    rcases asF.1 hx with e | e
    ·exact fun q => h1 ⟨x, e, q⟩
    ·simp at e; subst e; omega)
   rw [show ((0 : Nat) : Int) = 0 from rfl] at this
   rw [this, h2, atv]
  ·rw [h2] at hq
   simp only [An, an, mg] at hq
   have := Fu n q hl avh n.ah.length 0 avh (by
    rw [asJ, hk]
    obtain ⟨x, q1, q2⟩ := h1
    exact ⟨x, by simp [q1], q2⟩)
   rw [show ((0 : Nat) : Int) = 0 from rfl] at this
   rw [this, h2, No]
 rw [fF, e3, e4]
 have hz' := fun q (hq : q.length + (Y z).length ≤ 140737488355328) => hz q hq
 simp (disch := first | omega | (simp only [An, an, mg]; omega)) only [Int.reduceEq, if_true, if_false, sb, cf, eR, fM, fN, e5, wN hl, hz', No, are, asz]
set_option maxHeartbeats 4000000 in
theorem Ql (n : ae) {s : aq} (h : PX X Y n.ai n.aC n.aj n.ah s) (hw : wt n ≤ 1048576)
  (HX : ∀ x ∈ n.ah, vE x = true → IX X x) (HX2 : ∀ x ∈ n.ah, ∀ y ∈ x.ah, vE y = true → IX X y) (HY : ∀ x ∈ n.ah, vS x = true → x.ai = 48 → IB Y x) (p : aq) (hs : p.length + s.length ≤ 140737488355328) : gn (PP p) n = some (PP (p ++ s)) := by
 have hl := (rl hw).2
 have hT : ∀ a b r i s j q, n.ah = a :: b :: r → IX X a → IX X b → q.length + (two X a i s b j).length ≤ 140737488355328 → bC (PP q) n i s j = some (PP (q ++ two X a i s b j)) := fun a b r i s j q hk ha hb hl => Vs hk ha hb hl
 have hC : ∀ z l u q, n.ah = l ++ [z] → IB Y z → z.ai = 48 → (((¬ ∃ x ∈ l, x.ai = 25) ∧ u = []) ∨ ((∃ x ∈ l, x.ai = 25) ∧ u = [32, 117, 115, 101, 32] ++ params n.ah 25)) → q.length + 9 + (params n.ah 24).length + u.length + 1 + (Y z).length ≤ 140737488355328 → fF (PP q) n = some (PP (q ++ ([102, 117, 110, 99, 116, 105, 111, 110, 32] ++ (params n.ah 24 ++ (u ++ ([32] ++ Y z)))))) := fun z l u q hk hz LF hu hb => akL n z l q hk hl hz LF u hu hb
 have hL : n.ah.all (Ce vE) = true → ∀ q : aq, q.length + ([91] ++ wH X true n.ah ++ [93]).length ≤ 140737488355328 → jQ (PP q) n = some (PP (q ++ ([91] ++ wH X true n.ah ++ [93]))) := fun h1 q h2 => by
  simp only [An, an, mg] at h2
  have := Vt n (X := X) (fun x hx y hy => by
   have h3 := bM h1 x hx
   simp only [Ce, As] at h3
   exact HX2 x hx y hy (bM h3.2.2.2.2 y hy)) (fun x hx => by
   have h3 := bM h1 x hx
   simp only [Ce, As] at h3
   exact of_decide_eq_true h3.2.2.2.1) hl n.ah.length 0 (q ++ [91]) avh avL
  rw [show ((0 : Nat) : Int) = 0 from rfl, asJ, decide_eq_true rfl] at this
  rw [jQ]
  simp (disch := first | omega | (simp only [An, an, mg]; omega)) only [Int.reduceEq, if_true, if_false, sb, cf, eR, fM, fN, this, No, are, asz]
 rw [gn]
 generalize n.ah = ks at *
 generalize n.aj = t at *
 generalize n.aC = m at *
 generalize n.ai = k at *
 cases h
 case num h0 h1 =>
  rw [if_pos rfl, akK m h0 h1, sb, cf hs]; rfl
 case txt h0 =>
  rw [if_neg avn, if_pos rfl, iQ t avh, sb, cf hs]; rfl
 case cst h0 h1 =>
  rw [if_neg avn, if_neg avn, if_pos rfl, akJ m h0 h1, sb, cf hs]; rfl
 case var =>
  simp only [An, an, mg] at hs
  simp (disch := first | omega | (simp only [An, an, mg]; omega)) only [Int.reduceEq, if_true, if_false, sb, cf, eR, fM, fN, sb, No, are, asz]
 case arr h =>
  rw [if_neg avn, if_neg avn, if_neg avn, if_neg avn, if_pos rfl, hL h p hs]; rfl
 case ref a =>
  simp only [An, an, mg] at hs
  simp (disch := first | omega | (simp only [An, an, mg]; omega)) only [Int.reduceEq, if_true, if_false, sb, cf, eR, fM, fN, aT, No, are, asz]
 case call h =>
  simp only [An, an, mg] at hs
  have e := fun q => tU (p := q) (fun x hx => HX x hx (bM h x hx)) hl
  simp (disch := first | omega | (simp only [An, an, mg]; omega)) only [Int.reduceEq, if_true, if_false, sb, cf, eR, fM, fN, e, Int.reduceBEq, asG, No, are, asz]
 case stat h =>
  simp only [An, an, mg] at hs
  have e := fun q => tU (p := q) (fun x hx => HX x hx (bM h x hx)) hl
  simp (disch := first | omega | (simp only [An, an, mg]; omega)) only [Int.reduceEq, if_true, if_false, sb, cf, eR, fM, fN, e, Int.reduceBEq, asG, No, are, asz]
 case new h =>
  simp only [An, an, mg] at hs
  have e := fun q => tU (p := q) (fun x hx => HX x hx (bM h x hx)) hl
  simp (disch := first | omega | (simp only [An, an, mg]; omega)) only [Int.reduceEq, if_true, if_false, sb, cf, eR, fM, fN, e, Int.reduceBEq, asG, No, are, asz]
 case Qd a r ha h h8 =>
  simp only [An, an, mg] at hs
  have ea := HX a avj ha
  have mD : r.length ≤ 1048576 := by simp only [an] at hl; omega
  have e := fun q => tU (p := q) (fun x hx => HX x avu (bM h x hx)) mD
  have e2 : nq X a 13 = [40] ++ X a ++ [41] := by
   unfold nq lvl
   rw [h8]; rfl
  have e3 := fun q => mW (p := q) ea (k := 13)
  rw [e2] at e3
  simp only [An, an, mg] at e3
  simp (disch := first | omega | (simp only [An, an, mg]; omega)) only [Int.reduceEq, if_true, if_false, sb, cf, eR, fM, fN, e, e3, aT, lB, Int.reduceBEq, asG, h8, No, are, asz]
 case dyn a r ha h h8 =>
  simp only [An, an, mg] at hs
  have ea := HX a avj ha
  have mD : r.length ≤ 1048576 := by simp only [an] at hl; omega
  have e := fun q => tU (p := q) (fun x hx => HX x avu (bM h x hx)) mD
  simp (disch := first | omega | (simp only [An, an, mg]; omega)) only [Int.reduceEq, if_true, if_false, sb, cf, eR, fM, fN, e, mW ea, aT, lB, Int.reduceBEq, asG, h8, No, are, asz]
 case met a r ha h =>
  simp only [An, an, mg] at hs
  have ea := HX a avj ha
  have mD : r.length ≤ 1048576 := by simp only [an] at hl; omega
  have e := fun q => tU (p := q) (fun x hx => HX x avu (bM h x hx)) mD
  simp (disch := first | omega | (simp only [An, an, mg]; omega)) only [Int.reduceEq, if_true, if_false, sb, cf, eR, fM, fN, e, mW ea, aT, lB, Int.reduceBEq, asG, No, are, asz]
 case lv l z hu tS nU hz =>
  simp only [An, an, mg] at hs
  have e := hC z l [] p rfl (HY z avj hz nU) nU (.inl ⟨tS, rfl⟩) (by rw [mg]; omega)
  simp (disch := first | omega | (simp only [An, an, mg]; omega)) only [Int.reduceEq, if_true, if_false, sb, cf, eR, fM, fN, e, Int.reduceBEq, asG, No, are, asz]
 case Qe l z hu tS nU hz =>
  simp only [An, an, mg] at hs
  have e := hC z l ([32, 117, 115, 101, 32] ++ params (l ++ [z]) 25) p rfl (HY z avj hz nU) nU (.inr ⟨tS, rfl⟩) avl
  rw [e]
  simp (disch := first | omega | (simp only [An, an, mg]; omega)) only [Int.reduceEq, if_true, if_false, sb, cf, eR, fM, fN, Int.reduceBEq, asG, No, are, asz]
 case un a ha h0 h1 =>
  simp only [An, an, mg] at hs
  have ea := HX a avj ha
  simp (disch := first | omega | (simp only [An, an, mg]; omega)) only [Int.reduceEq, if_true, if_false, sb, cf, eR, fM, fN, aT, mW ea, aqP m h0 h1, No, are, asz]
 case fld a ha =>
  simp only [An, an, mg] at hs
  have ea := HX a avj ha
  simp (disch := first | omega | (simp only [An, an, mg]; omega)) only [Int.reduceEq, if_true, if_false, sb, cf, eR, fM, fN, aT, mW ea, No, are, asz]
 case bin a b ha hb h0 h1 =>
  have ea := HX a avj ha
  have eb := HX b avj hb
  obtain ⟨_, e2, e3⟩ := DP m
  obtain ⟨e1, e6⟩ := L3 m h0 h1
  have e4 : aS (mU m + 1) = mU m + 1 := PT avh avh
  have e5 := hT a b [] (mU m) ([32] ++ Ch m ++ [32]) (mU m + 1) p rfl ea eb hs
  have e7 := wI m h0 h1
  simp only [Int.reduceEq, if_true, if_false]
  rw [e1, sb, e6, sb, aH avq, sb, aH avl, sb, e4, e5]; rfl
 case cond a b c ha hb hc =>
  have ea := HX a avj ha
  have eb := HX b avj hb
  have ec := HX c avj hc
  simp only [An, an, mg] at hs
  have e5 := fun q => hT a b [c] 3 [32, 63, 32] 1 q rfl ea eb
  simp (disch := first | omega | (simp only [An, an, mg]; omega)) only [Int.reduceEq, if_true, if_false, sb, cf, eR, fM, fN, e5, lH, mW ec, No, are, asz]
 case ix a b ha hb =>
  have ea := HX a avj ha
  have eb := HX b avj hb
  simp only [two, An, an, mg] at hs
  simp (disch := first | omega | (simp only [An, an, mg]; omega)) only [Int.reduceEq, if_true, if_false, sb, cf, eR, fM, fN, aT, eY, mW ea, mW eb, two, No, are, asz]
 all_goals
  rename_i a b ha hb
  have ea := HX a avj ha
  have eb := HX b avj hb
  have e5 := fun i s j => hT a b [] i s j p rfl ea eb
  rw [e5 _ _ _ hs]
  simp only [Int.reduceEq, if_true, if_false, sb]
end
set_option maxRecDepth 100000
section
variable {X Y : ae → aq}
theorem rm {x : ae} {w p : aq} (h : IX X x) (hb : p.length + (w.length + ((nq X x 1).length + 1)) ≤ 140737488355328) : cw (PP p) w x = some (PP (p ++ (w ++ (nq X x 1 ++ [59])))) := by
 rw [cw]
 simp (disch := first | omega | (simp only [An, an, mg]; omega)) only [Int.reduceEq, if_true, if_false, sb, cf, eR, fM, fN, mW h, No, are, asz]
def IC (Y : ae → aq) (b : ae) : Prop := ∀ (l : List ae) (i : Nat) (hi : i < l.length), l.length ≤ 1048576 → l[i] = b → ∀ p : aq, p.length + (Y b).length ≤ 140737488355328 → bR l p (i : Int) = bR l (p ++ Y b) ((i + 1 : Nat) : Int)
theorem yT (l : List ae) (p : aq) (i : Nat) (h : l.length ≤ i) : bR l p (i : Int) = some (PP p) := by
 rw [bR, if_neg avh]
theorem akM {b a c : ae} (h4 : b.ai = 44) (hk : b.ah = [a, c]) (hc : IB Y c) (hY : Y b = [32, 99, 97, 116, 99, 104, 32, 40] ++ b.aj ++ [32, 36] ++ a.aj ++ [41, 32] ++ Y c) : IC Y b := by
 intro l i hi hl he p hb
 rw [hY] at hb ⊢
 simp only [An, an, mg] at hb
 rw [bR, if_pos avh, bc hi, sb, he, if_pos h4, hk, aT, eY, sb, bF avh]
 have Vw := fun q (hq : q.length + (Y c).length ≤ 140737488355328) => hc q hq
 simp (disch := first | omega | (simp only [An, an, mg]; omega)) only [Int.reduceEq, if_true, if_false, sb, cf, eR, fM, fN, aqO, Vw, No, are, asz]
theorem akN {b a : ae} (h4 : b.ai = 45) (hk : b.ah = [a]) (hc : IB Y a) (hY : Y b = [32, 102, 105, 110, 97, 108, 108, 121, 32] ++ Y a) : IC Y b := by
 intro l i hi hl he p hb
 rw [hY] at hb ⊢
 simp only [An, an, mg] at hb
 rw [bR, if_pos avh, bc hi, sb, he, if_neg avh, hk, aT, bF avh]
 have Vw := fun q (hq : q.length + (Y a).length ≤ 140737488355328) => hc q hq
 simp (disch := first | omega | (simp only [An, an, mg]; omega)) only [Int.reduceEq, if_true, if_false, sb, cf, eR, fM, fN, Vw, No, are, asz]
theorem aa9 {n a b : ae} {p : aq} (hk : n.ah = [a, b]) (ha : IB Y a) (hb : IC Y b) (hl : p.length + ([116, 114, 121, 32] ++ Y a ++ Y b).length ≤ 140737488355328) : ee (PP p) n = some (PP (p ++ ([116, 114, 121, 32] ++ Y a ++ Y b))) := by
 simp only [An, an, mg] at hl
 rw [ee, hk, cf avq, sb, aT, sb, ha _ avl, sb, lB, sb]
 have h1 := hb [b] 0 avj avj rfl (p ++ [116, 114, 121, 32] ++ Y a) avl
 rw [yT [b] _ (0 + 1) avj] at h1
 rw [show ((0 : Nat) : Int) = 0 from rfl] at h1
 rw [h1]; simp
theorem aba {n a b c : ae} {p : aq} (hk : n.ah = [a, b, c]) (ha : IB Y a) (hb : IC Y b) (hc : IC Y c) (hl : p.length + ([116, 114, 121, 32] ++ Y a ++ Y b ++ Y c).length ≤ 140737488355328) : ee (PP p) n = some (PP (p ++ ([116, 114, 121, 32] ++ Y a ++ Y b ++ Y c))) := by
 simp only [An, an, mg] at hl
 rw [ee, hk, cf avq, sb, aT, sb, ha _ avl, sb, lB, sb]
 have h1 := hb [b, c] 0 avj avj rfl (p ++ [116, 114, 121, 32] ++ Y a) avl
 have h2 := hc [b, c] 1 avj avj rfl (p ++ [116, 114, 121, 32] ++ Y a ++ Y b) avl
 rw [yT [b, c] _ (1 + 1) avj] at h2
 rw [h2] at h1
 rw [show ((0 : Nat) : Int) = 0 from rfl] at h1
 rw [h1]; simp
set_option maxHeartbeats 4000000 in
theorem Qm (n : ae) {s : aq} (h : PS X Y n.ai n.aC n.aj n.ah s) (hw : wt n ≤ 1048576) (h44 : ¬ n.ai = 44) (h45 : ¬ n.ai = 45)
  (HX : ∀ x ∈ n.ah, vE x = true → IX X x) (HY : ∀ x ∈ n.ah, vS x = true → IY Y x) (HB : ∀ x ∈ n.ah, vS x = true → x.ai = 48 → IB Y x) (HC : ∀ x ∈ n.ah, cat vE vS x = true → IC Y x) (HF : ∀ x ∈ n.ah, fin vS x = true → IC Y x)
  (p : aq) (hs : p.length + s.length ≤ 140737488355328) : cN (PP p) n = some (PP (p ++ s)) := by
 have hl := (rl hw).2
 have hT2 : ∀ a b, n.ah = [a, b] → IB Y a → IC Y b → p.length + ([116, 114, 121, 32] ++ Y a ++ Y b).length ≤ 140737488355328 → ee (PP p) n = some (PP (p ++ ([116, 114, 121, 32] ++ Y a ++ Y b))) := fun a b h1 h2 h3 h4 => aa9 h1 h2 h3 h4
 have hT3 : ∀ a b c, n.ah = [a, b, c] → IB Y a → IC Y b → IC Y c → p.length + ([116, 114, 121, 32] ++ Y a ++ Y b ++ Y c).length ≤ 140737488355328 → ee (PP p) n = some (PP (p ++ ([116, 114, 121, 32] ++ Y a ++ Y b ++ Y c))) := fun a b c h1 h2 h3 h5 h4 => aba h1 h2 h3 h5 h4
 have hK : (∀ x ∈ n.ah, IY Y x) → p.length + ([123, 32] ++ n.ah.flatMap (fun x => Y x ++ [32]) ++ [125]).length ≤ 140737488355328 → aY (PP p) n = some (PP (p ++ ([123, 32] ++ n.ah.flatMap (fun x => Y x ++ [32]) ++ [125]))) := fun h1 h2 => L5 h1 hl h2
 rw [cN]
 generalize n.ah = ks at *
 generalize n.aj = t at *
 generalize n.aC = m at *
 generalize n.ai = k at *
 cases h
 case htm =>
  simp only [An, an, mg] at hs
  simp (disch := first | omega | (simp only [An, an, mg]; omega)) only [Int.reduceEq, if_true, if_false, sb, cf, eR, fM, fN, sb, No, are, asz]
 case glb =>
  simp only [An, an, mg] at hs
  simp (disch := first | omega | (simp only [An, an, mg]; omega)) only [Int.reduceEq, if_true, if_false, sb, cf, eR, fM, fN, sb, No, are, asz]
 case brk =>
  simp only [An, an, mg] at hs
  simp (disch := first | omega | (simp only [An, an, mg]; omega)) only [Int.reduceEq, if_true, if_false, sb, cf, eR, fM, fN, sb, No, are, asz]
 case cont =>
  simp only [An, an, mg] at hs
  simp (disch := first | omega | (simp only [An, an, mg]; omega)) only [Int.reduceEq, if_true, if_false, sb, cf, eR, fM, fN, sb, No, are, asz]
 case LP =>
  simp only [An, an, mg] at hs
  simp (disch := first | omega | (simp only [An, an, mg]; omega)) only [Int.reduceEq, if_true, if_false, sb, cf, eR, fM, fN, mg, show (((0 : Nat) : Int)) = 0 from rfl, No, are, asz]
 case inc h0 =>
  simp only [An, an, mg] at hs
  have e := iQ t avh
  simp (disch := first | omega | (simp only [An, an, mg]; omega)) only [Int.reduceEq, if_true, if_false, sb, cf, eR, fM, fN, e, No, are, asz]
 case P8 a ha =>
  have ea := HX a avj ha
  simp only [An, an, mg] at hs
  simp (disch := first | omega | (simp only [An, an, mg]; omega)) only [Int.reduceEq, if_true, if_false, sb, cf, eR, fM, fN, aT, rm ea, No, are, asz]
 case expr a ha =>
  have ea := HX a avj ha
  simp only [An, an, mg] at hs
  simp (disch := first | omega | (simp only [An, an, mg]; omega)) only [Int.reduceEq, if_true, if_false, sb, cf, eR, fM, fN, aT, rm ea, No, are, asz]
 case thr a ha =>
  have ea := HX a avj ha
  simp only [An, an, mg] at hs
  simp (disch := first | omega | (simp only [An, an, mg]; omega)) only [Int.reduceEq, if_true, if_false, sb, cf, eR, fM, fN, aT, rm ea, No, are, asz]
 case P9 a ha =>
  have ea := HX a avj ha
  simp only [An, an, mg] at hs
  have q : ¬ ((([a] : List ae).length : Int) = 0) := by simp
  simp (disch := first | omega | (simp only [An, an, mg]; omega)) only [Int.reduceEq, if_true, if_false, sb, cf, eR, fM, fN, aT, rm ea, q, No, are, asz]
 case yl1 a ha =>
  have ea := HX a avj ha
  simp only [An, an, mg] at hs
  have q : ¬ ((([a] : List ae).length : Int) = 2) := by simp
  have q2 : aS ((([a] : List ae).length : Int) - 1) = 0 := rfl
  simp (disch := first | omega | (simp only [An, an, mg]; omega)) only [Int.reduceEq, if_true, if_false, sb, cf, eR, fM, fN, aT, rm ea, q, q2, No, are, asz]
 case yl2 a b ha hb =>
  have eb := HX b avj hb
  simp only [An, an, mg] at hs
  have q : ((([a, b] : List ae).length : Int) = 2) := by simp
  have q2 : aS ((([a, b] : List ae).length : Int) - 1) = 1 := rfl
  rw [q2]
  simp only [Int.reduceEq, if_false, if_true, q]
  simp (disch := first | omega | (simp only [An, an, mg]; omega)) only [Int.reduceEq, if_true, if_false, sb, cf, eR, fM, fN, aT, eY, rm eb, No, are, asz]
 case uns a ha =>
  have ea := HX a avj ha
  simp only [An, an, mg] at hs
  simp (disch := first | omega | (simp only [An, an, mg]; omega)) only [Int.reduceEq, if_true, if_false, sb, cf, eR, fM, fN, aT, mW ea, No, are, asz]
 case if2 a b ha hb kb =>
  have ea := HX a avj ha
  have yb := fun q (hq : q.length + (Y b).length ≤ 140737488355328) => HB b avj hb kb q hq
  simp only [An, an, mg] at hs
  have q : ¬ ((([a, b] : List ae).length : Int) = 3) := by simp
  simp (disch := first | omega | (simp only [An, an, mg]; omega)) only [Int.reduceEq, if_true, if_false, sb, cf, eR, fM, fN, aT, eY, mW ea, yb, q, No, are, asz]
 case if3 a b c ha hb kb hc kc =>
  have ea := HX a avj ha
  have yb := fun q (hq : q.length + (Y b).length ≤ 140737488355328) => HB b avj hb kb q hq
  have yc := fun q (hq : q.length + (Y c).length ≤ 140737488355328) => HB c avj hc kc q hq
  simp only [An, an, mg] at hs
  have q : ((([a, b, c] : List ae).length : Int) = 3) := by simp
  simp only [Int.reduceEq, if_false, if_true, q]
  simp (disch := first | omega | (simp only [An, an, mg]; omega)) only [Int.reduceEq, if_true, if_false, sb, cf, eR, fM, fN, aT, eY, lH, mW ea, yb, yc, No, are, asz]
 case whl a b ha hb kb =>
  have ea := HX a avj ha
  have yb := fun q (hq : q.length + (Y b).length ≤ 140737488355328) => HB b avj hb kb q hq
  simp only [An, an, mg] at hs
  simp (disch := first | omega | (simp only [An, an, mg]; omega)) only [Int.reduceEq, if_true, if_false, sb, cf, eR, fM, fN, aT, eY, mW ea, yb, No, are, asz]
 case fe3 a b c ha hc kc =>
  have ea := HX a avj ha
  have yc := fun q (hq : q.length + (Y c).length ≤ 140737488355328) => HB c avj hc kc q hq
  simp only [An, an, mg] at hs
  have q : ¬ ((([a, b, c] : List ae).length : Int) = 4) := by simp
  have q2 : aS ((([a, b, c] : List ae).length : Int) - 1) = 2 := rfl
  rw [q2]
  simp (disch := first | omega | (simp only [An, an, mg]; omega)) only [Int.reduceEq, if_true, if_false, sb, cf, eR, fM, fN, aT, eY, lH, mW ea, yc, q, No, are, asz]
 case fe4 a b c d ha hd kd =>
  have ea := HX a avj ha
  have yd := fun q (hq : q.length + (Y d).length ≤ 140737488355328) => HB d avj hd kd q hq
  simp only [An, an, mg] at hs
  have q : ((([a, b, c, d] : List ae).length : Int) = 4) := by simp
  have q2 : aS ((([a, b, c, d] : List ae).length : Int) - 1) = 3 := rfl
  rw [q2]
  simp only [Int.reduceEq, if_false, if_true, q]
  simp (disch := first | omega | (simp only [An, an, mg]; omega)) only [Int.reduceEq, if_true, if_false, sb, cf, eR, fM, fN, aT, eY, lH, Ly, mW ea, yd, No, are, asz]
 case wG h =>
  have e := hK (fun x hx => HY x hx (bM h x hx)) hs
  rw [e]
  simp only [Int.reduceEq, if_true, if_false, sb]
 case DN a b ha ka hb =>
  have e := hT2 a b rfl (HB a avj ha ka) (HC b avj hb) hs
  rw [e]
  simp only [Int.reduceEq, if_true, if_false, sb]
 case DO a b ha ka hb =>
  have e := hT2 a b rfl (HB a avj ha ka) (HF b avj hb) hs
  rw [e]
  simp only [Int.reduceEq, if_true, if_false, sb]
 case Cg a b c ha ka hb hc =>
  have e := hT3 a b c rfl (HB a avj ha ka) (HC b avj hb) (HF c avj hc) hs
  rw [e]
  simp only [Int.reduceEq, if_true, if_false, sb]
 case cat a b ha ka hb kb =>
  exact absurd rfl h44
 case fin a ha ka =>
  exact absurd rfl h45
end
set_option maxRecDepth 100000
theorem abb {X Y : ae → aq} {k m : Int} {t : aq} {ks : List ae} {s : aq} (h : PS X Y k m t ks s) (hk : k = 44) : ∃ a c, ks = [a, c] ∧ vS c = true ∧ c.ai = 48 ∧ s = [32, 99, 97, 116, 99, 104, 32, 40] ++ t ++ [32, 36] ++ a.aj ++ [41, 32] ++ Y c := by
 cases h <;> first | (exfalso; omega) | exact ⟨_, _, rfl, by assumption, by assumption, rfl⟩
theorem abc {X Y : ae → aq} {k m : Int} {t : aq} {ks : List ae} {s : aq} (h : PS X Y k m t ks s) (hk : k = 45) : ∃ a, ks = [a] ∧ vS a = true ∧ a.ai = 48 ∧ s = [32, 102, 105, 110, 97, 108, 108, 121, 32] ++ Y a := by
 cases h <;> first | (exfalso; omega) | exact ⟨_, rfl, by assumption, by assumption, rfl⟩
theorem abd {X Y : ae → aq} {k m : Int} {t : aq} {ks : List ae} {s : aq} (h : PS X Y k m t ks s) (hk : k = 48) : ks.all vS = true ∧ s = [123, 32] ++ ks.flatMap (fun x => Y x ++ [32]) ++ [125] := by
 cases h <;> first | (exfalso; omega) | exact ⟨by assumption, rfl⟩
theorem akO {x : ae} (h : cat vE vS x = true) : x.ai = 44 := by
 rw [cat, As, beq_iff_eq] at h; exact h.1
theorem akP {x : ae} (h : fin vS x = true) : x.ai = 45 := by
 rw [fin, As, beq_iff_eq] at h; exact h.1
theorem akQ {n : ae} (hw : wt n ≤ 1048576) (h : vS n = true) : ¬ n.ai = 44 ∧ ¬ n.ai = 45 := by
 obtain ⟨_, _, h3⟩ := Fp hw h
 constructor
 ·intro q
  rw [q] at h3; cases h3
 ·intro q
  rw [q] at h3; cases h3
theorem Cl : ∀ (N : Nat) (n : ae), sz n < N → wt n ≤ 1048576 → sz n ≤ 600 → (vE n = true → IX tX n) ∧ (vS n = true → IY tY n ∧ (n.ai = 48 → IB tY n))
 | 0, n, h, _, _ => by omega
 | N + 1, n, h, hw, h6 => by
  have hk : ∀ x ∈ n.ah, _ := fun x hx => Cl N x avv avG avv
  have nU : ∀ x ∈ n.ah, ∀ y ∈ x.ah, _ := fun x hx y hy => Cl N y avt avw avt
  have w1 := wk hw
  have s1 : ∀ x ∈ n.ah, sz x ≤ 600 := fun x hx => by have := cJ hx; omega
  have HB : ∀ x ∈ n.ah, vS x = true → x.ai = 48 → IB tY x := fun x hx q => ((hk x hx).2 q).2
  refine ⟨fun hv => ⟨fun p hp => ?_, fun Ae => ?_⟩, fun hv => ⟨fun p hp => ?_, fun LF p hp => ?_⟩⟩
  ·exact Ql n (pX hw h6 hv).2.2 hw (fun x hx q => (hk x hx).1 q) (fun x hx y hy q => (nU x hx y hy).1 q) HB p hp
  ·have h1 := (Fo hw hv).1
   rw [Ae] at h1
   exact of_decide_eq_true h1
  ·have q := akQ hw hv
   refine Qm n (pY hw h6 (jD hv)).2.2 hw q.1 q.2 (fun x hx q => (hk x hx).1 q) (fun x hx q => ((hk x hx).2 q).1) HB (fun x hx q => ?_) (fun x hx q => ?_) p hp
   ·have h44 := akO q
    obtain ⟨a, c, e1, e2, e3, e4⟩ := abb (pY (w1 x hx) (s1 x hx) (LR q)).2.2 h44
    exact akM h44 e1 (((nU x hx c (by rw [e1]; simp)).2 e2).2 e3) e4
   ·have h45 := akP q
    obtain ⟨a, e1, e2, e3, e4⟩ := abc (pY (w1 x hx) (s1 x hx) (LS q)).2.2 h45
    exact akN h45 e1 (((nU x hx a (by rw [e1]; simp)).2 e2).2 e3) e4
  ·obtain ⟨e1, e2⟩ := abd (pY hw h6 (jD hv)).2.2 LF
   rw [e2] at hp ⊢
   exact L5 (fun x hx => ((hk x hx).2 (bM e1 x hx)).1) (rl hw).2 hp
theorem qX {n : ae} (hw : wt n ≤ 1048576) (h6 : sz n ≤ 600) (hv : vE n = true) : IX tX n := (Cl _ n (ate _) hw h6).1 hv
theorem qY {n : ae} (hw : wt n ≤ 1048576) (h6 : sz n ≤ 600) (hv : vS n = true) : IY tY n := ((Cl _ n (ate _) hw h6).2 hv).1
theorem qB {n : ae} (hw : wt n ≤ 1048576) (h6 : sz n ≤ 600) (hv : vS n = true) (hk : n.ai = 48) : IB tY n := ((Cl _ n (ate _) hw h6).2 hv).2 hk
theorem Vx {n z : ae} {l : List ae} {p : aq} (hk : n.ah = l ++ [z]) (hl : n.ah.length ≤ 1048576) (hz : IB tY z) (hb : p.length + 9 + n.aj.length + (params (l ++ [z]) 24).length + 1 + (tY z).length ≤ 140737488355328) : cA (PP p) n = some (PP (p ++ ([102, 117, 110, 99, 116, 105, 111, 110, 32] ++ (n.aj ++ (params (l ++ [z]) 24 ++ ([32] ++ tY z)))))) := by
 have e3 : aS ((n.ah.length : Int) - 1) = (l.length : Int) := kx (by rw [hk]; simp) (by rw [hk] at hl; simp at hl; omega)
 rw [hk] at hl
 rw [cA, e3, hk]
 have hz' := fun q (hq : q.length + (tY z).length ≤ 140737488355328) => hz q hq
 simp (disch := first | omega | (simp only [An, an, mg]; omega)) only [Int.reduceEq, if_true, if_false, sb, cf, eR, fM, fN, lf, wN hl, hz', No, are, asz]
theorem Fv (m : Int) (h0 : 0 ≤ m) (h1 : m ≤ 3) (l : aq) (hb : l.length + (Bh m).length ≤ 140737488355328) {β : Type} (K : List UInt8 → Option β) :
  ((if (bits .and .i64 m 1) = 0 then some l else ak (av.mk (aE.mk () l)) ([[112, 114, 105, 118, 97, 116, 101, 32]] : List aq) >>= fun wO => some wO.af.ao) >>= fun pz =>
   ((if (bits .and .i64 m 2) = 0 then some pz else ak (av.mk (aE.mk () pz)) ([[115, 116, 97, 116, 105, 99, 32]] : List aq) >>= fun wP => some wP.af.ao) >>= K)) = K (l ++ Bh m) := by
 rcases (by omega : m = 0 ∨ m = 1 ∨ m = 2 ∨ m = 3) with h | h | h | h <;> subst h
 ·rw [if_pos avn, sb, if_pos avn, sb]; simp [Bh]
 ·have e : Bh 1 = [112, 114, 105, 118, 97, 116, 101, 32] := rfl
  rw [e] at hb ⊢
  rw [if_neg avn, cf hb, sb, sb, if_pos avn, sb]
 ·have e : Bh 2 = [115, 116, 97, 116, 105, 99, 32] := rfl
  rw [e] at hb ⊢
  rw [if_pos avn, sb, if_neg avn, cf hb, sb, sb]
 ·have e : Bh 3 = [112, 114, 105, 118, 97, 116, 101, 32] ++ [115, 116, 97, 116, 105, 99, 32] := rfl
  rw [e] at hb ⊢
  simp only [An, an, mg] at hb
  rw [if_neg avn, cf avq, sb, sb, if_neg avn, cf avl, sb, sb, No]
theorem at1 (X : ae → aq) (a : ae) : nq X a 1 = X a := by
 have h : ¬ lvl a < 1 := by
  unfold lvl
  have := (DP a.aC).2.1
  repeat' split
  all_goals omega
 rw [nq, if_neg h]
theorem Vy (l : List ae) (h : ∀ x ∈ l, mb x ∧ wt x ≤ 1048576 ∧ sz x ≤ 600) (hl : l.length ≤ 1048576) : ∀ (f i : Nat) (p : aq), l.length ≤ i + f → p.length + (ed tY (l.drop i)).length ≤ 140737488355328 →
  bN l p (i : Int) = some (p ++ ed tY (l.drop i))
 | f, i, p, hf, hb => by
  rw [bN]
  by_cases hi : i < l.length
  ·obtain ⟨g, rfl⟩ : ∃ g, f = g + 1 := ⟨f - 1, by omega⟩
   have hd := asE hi
   obtain ⟨hm, hw, h6⟩ := h _ (asK hi)
   have IH : ∀ u : aq, u.length + (ed tY (l.drop (i + 1))).length ≤ 140737488355328 → bN l u ((i + 1 : Nat) : Int) = some (u ++ ed tY (l.drop (i + 1))) := fun u mD => Vy l h hl g (i + 1) u avh mD
   rw [hd, ed, asZ] at hb
   change p.length + ((bif l[i].ai == 52 then [] else tY l[i] ++ [32]) ++ ed tY (l.drop (i + 1))).length ≤ _ at hb
   rw [if_pos avh, bc hi, bF avh, hd, ed, asZ]
   change _ = some (p ++ ((bif l[i].ai == 52 then [] else tY l[i] ++ [32]) ++ ed tY (l.drop (i + 1))))
   generalize l[i] = x at *
   generalize ed tY (l.drop (i + 1)) = R at *
   have hk := vF hm
   have hP := (L1 hm hw h6).1
   have hlx := (rl hw).2
   have hwx := wk hw
   have hsx : ∀ y ∈ x.ah, sz y ≤ 600 := fun y hy => by have := cJ hy; omega
   have hF : ∀ z l' q, x.ah = l' ++ [z] → IB tY z → q.length + 9 + x.aj.length + (params (l' ++ [z]) 24).length + 1 + (tY z).length ≤ 140737488355328 → cA (PP q) x = some (PP (q ++ ([102, 117, 110, 99, 116, 105, 111, 110, 32] ++ (x.aj ++ (params (l' ++ [z]) 24 ++ ([32] ++ tY z)))))) := fun z l' q hk hz hb => Vx hk hlx hz hb
   rw [beq_eq_false_iff_ne.2 (show ¬ x.ai = 52 by omega)] at hb ⊢
   rw [cond_false] at hb ⊢
   rw [sb]
   generalize tY x = T at *
   generalize x.ah = ks at *
   generalize x.aj = t at *
   generalize x.aC = m at *
   generalize x.ai = k at *
   cases hP
   case use =>
    simp only [An, an, mg] at hb
    simp (disch := first | omega | (simp only [An, an, mg]; omega)) only [Int.reduceEq, if_true, if_false, sb, cf, eR, fM, fN, IH, No, are, asz]
   case prop a ha h0 h1 =>
    have e4 := qb m
    simp only [An, an, mg] at hb
    have ea := qX (hwx a avj) (hsx a avj) ha
    have e1 := at1 tX a
    have e2 := fun q w => rm (p := q) (w := w) ea
    rw [e1] at e2
    rw [if_neg avn, Fv m h0 avh p avh]
    simp (disch := first | omega | (simp only [An, an, mg]; omega)) only [Int.reduceEq, if_true, if_false, sb, cf, eR, fM, fN, aH, aT, e2, IH, No, are, asz]
   case fn l' z hu kz hz kk h0 h1 =>
    have e4 := qb m
    simp only [An, an, mg] at hb
    have k55 : k = 55 := by omega
    subst k55
    have ez := qB (hwx z avj) (hsx z avj) hz kz
    have e2 := fun q => hF z l' q rfl ez
    rw [if_neg avn, Fv m h0 h1 p avh]
    simp (disch := first | omega | (simp only [An, an, mg]; omega)) only [Int.reduceEq, if_true, if_false, sb, cf, eR, fM, fN, e2, IH, No, are, asz]
  ·rw [if_neg avh, asD avh]; simp [ed]
set_option maxRecDepth 100000
theorem Vz {n : ae} {w p : aq} (hk : n.ai = 50 ∨ n.ai = 51) (h : sG (n.ai == 50) true false n.ah = true) (hw : wt n ≤ 1048576) (h6 : sz n ≤ 600) (hb : p.length + (w ++ n.aj ++ ext n.ah ++ [32, 123, 32] ++ ed tY n.ah ++ [125]).length ≤ 140737488355328) :
  gR (PP p) w n = some (PP (p ++ (w ++ n.aj ++ ext n.ah ++ [32, 123, 32] ++ ed tY n.ah ++ [125]))) := by
 have hm := Ft h
 have hl := (rl hw).2
 have sI := wk hw
 have O0 : ∀ x ∈ n.ah, sz x ≤ 600 := fun x hx => by have := cJ hx; omega
 rw [gR]
 have hM : ∀ (l : List ae) (q : aq), (∀ x ∈ l, mb x ∧ wt x ≤ 1048576 ∧ sz x ≤ 600) → l.length ≤ 1048576 → q.length + (ed tY l).length ≤ 140737488355328 → bN l q 0 = some (q ++ ed tY l) := fun l q h1 h2 h3 => by
  have := Vy l h1 h2 l.length 0 q avh (by rw [asJ]; exact h3)
  rw [show ((0 : Nat) : Int) = 0 from rfl, asJ] at this
  exact this
 generalize n.ah = ks at *
 rcases ks with _ | ⟨a, r⟩
 ·have e := fun q => hM [] q (fun x hx => by cases hx) avj
  simp only [ext, An, an, mg] at hb
  rw [eR avh, sb, if_neg (show ¬ ((([] : List ae).length : Int) > 0) by simp)]
  simp (disch := first | omega | (simp only [An, an, mg]; omega)) only [Int.reduceEq, if_true, if_false, sb, cf, eR, fM, fN, ext, e, No, are, asz]
 ·obtain ⟨h1, p', h2⟩ := vD h
  have hr := Ak h2
  have q0 : (((a :: r).length : Nat) : Int) > 0 := by simp only [an]; omega
  have hlr : r.length ≤ 1048576 := by simp only [an] at hl; omega
  have kS := hb
  simp only [An] at kS
  rw [eR avh, sb, if_pos q0, aT, sb]
  by_cases Vq : a.ai = 52
  ·have e := fun q => hM r q (fun x hx => ⟨hr x hx, sI x avu, O0 x avu⟩) hlr
   have eT : ed tY (a :: r) = ed tY r := by
    unfold ed
    rw [asZ, Vq]; rfl
   rw [eT] at hb ⊢
   simp only [ext, Vq, if_true, An, an, mg] at hb
   simp (disch := first | omega | (simp only [An, an, mg]; omega)) only [Int.reduceEq, if_true, if_false, sb, cf, eR, fM, fN, ext, e, Vq, lB, No, are, asz]
  ·have e := fun q => hM (a :: r) q (fun x hx => ⟨hm x hx (fun q => by
    rcases asI.1 hx with e | e
    ·subst e; exact Vq q
    ·have := vF (hr x e); omega), sI x hx, O0 x hx⟩) hl
   simp only [ext, Vq, if_false, An, an, mg] at hb
   simp (disch := first | omega | (simp only [An, an, mg]; omega)) only [Int.reduceEq, if_true, if_false, sb, cf, eR, fM, fN, ext, e, Vq, No, are, asz]
theorem akR {n : ae} (h : Top n) (hw : wt n ≤ 1048576) (h6 : sz n ≤ 600) : IY tY n := by
 intro p hb
 have hl := (rl hw).2
 have sI := wk hw
 have O0 : ∀ x ∈ n.ah, sz x ≤ 600 := fun x hx => by have := cJ hx; omega
 cases h with
 | st h => exact qY hw h6 h p hb
 | fn hk hn h =>
  have hF : ∀ z l' q, n.ah = l' ++ [z] → IB tY z → q.length + 9 + n.aj.length + (params (l' ++ [z]) 24).length + 1 + (tY z).length ≤ 140737488355328 → cA (PP q) n = some (PP (q ++ ([102, 117, 110, 99, 116, 105, 111, 110, 32] ++ (n.aj ++ (params (l' ++ [z]) 24 ++ ([32] ++ tY z)))))) := fun z l' q hk hz hb => Vx hk hl hz hb
  have hm : n.aC = 0 → Bh n.aC = [] := fun e => by rw [e]; rfl
  rw [cN, hk]
  rw [hk] at h
  generalize tY n = T at *
  generalize n.ah = ks at *
  generalize n.aj = t at *
  generalize n.aC = m at *
  cases h
  case fn l z hu kz hz kk h0 h1 =>
   rw [hm hn] at hb ⊢
   simp only [are, An, an, mg] at hb
   have ez := qB (sI z avj) (O0 z avj) hz kz
   have e2 := fun q => hF z l q rfl ez
   simp (disch := first | omega | (simp only [An, an, mg]; omega)) only [Int.reduceEq, if_true, if_false, sb, cf, eR, fM, fN, e2, No, are, asz]
 | cl hk hn h e =>
  rw [e] at hb ⊢
  unfold Ck at hb ⊢
  rw [cN]
  rcases hk with hk | hk
  ·rw [hk] at hb ⊢
   rw [if_pos rfl] at hb
   have := Vz (w := [99, 108, 97, 115, 115, 32]) (.inl hk) h hw h6 hb
   rw [this]
   simp only [Int.reduceEq, if_true, if_false, sb]
  ·rw [hk] at hb ⊢
   rw [if_neg avn] at hb
   have := Vz (w := [116, 114, 97, 105, 116, 32]) (.inr hk) h hw h6 hb
   rw [this]
   simp only [Int.reduceEq, if_true, if_false, sb]
theorem VA (n : ae) (h : ∀ x ∈ n.ah, IY tY x) (hl : n.ah.length ≤ 1048576) : ∀ (f i : Nat) (p : aq), n.ah.length ≤ i + f → p.length + ((n.ah.drop i).flatMap (fun x => tY x ++ [32])).length ≤ 140737488355328 →
  cV n p (i : Int) = some (p ++ (n.ah.drop i).flatMap (fun x => tY x ++ [32]))
 | f, i, p, hf, hb => by
  rw [cV]
  by_cases hi : i < n.ah.length
  ·obtain ⟨g, rfl⟩ : ∃ g, f = g + 1 := ⟨f - 1, by omega⟩
   have hd := asE hi
   have hx := h _ (asK hi)
   have IH : ∀ u : aq, u.length + ((n.ah.drop (i + 1)).flatMap (fun x => tY x ++ [32])).length ≤ 140737488355328 → cV n u ((i + 1 : Nat) : Int) = some (u ++ (n.ah.drop (i + 1)).flatMap (fun x => tY x ++ [32])) := fun u mD => VA n h hl g (i + 1) u avh mD
   rw [hd, asZ] at hb
   simp only [An, an, mg] at hb
   rw [if_pos avh, bc hi, bF avh, hd, asZ, sb, hx p avh]
   simp (disch := first | omega | (simp only [An, an, mg]; omega)) only [Int.reduceEq, if_true, if_false, sb, cf, eR, fM, fN, IH, No, are, asz]
  ·rw [if_neg avh, asD avh]; simp
theorem Al {s : aq} (h : 1 ≤ s.length) (hb : s.length ≤ 140737488355328) : eO (aE.mk () s) = some (s, aE.mk () s) := by
 unfold eO
 rw [if_pos ⟨by intro q; simp only at q; rw [q] at h; simp at h, by simp only; omega⟩]
theorem wQ (n : ae) (hw : wt n ≤ 1048576) : ∃ s, im n = some s ∧ iu n = some s := by
 obtain ⟨e1, e2⟩ := Cf n hw
 unfold im iu
 rw [e1, e2, sb, sb]
 cases hv : vZ n
 ·exact ⟨_, rfl, rfl⟩
 ·rw [vZ] at hv
  simp only [As, decide_eq_true_eq] at hv
  obtain ⟨_, _, _, h6, ha⟩ := hv
  have hl := (rl hw).2
  have w1 := wk hw
  have s1 : ∀ x ∈ n.ah, sz x ≤ 600 := fun x hx => by have := cJ hx; omega
  have hp := fun x hx => pP (bM ha x hx) (w1 x hx) (s1 x hx)
  have hE := tT n.ah (fun x hx _ => (hp x hx).2.2.1)
  have hs := iK n
  have e3 := wM (Y := tY) n.ah (fun x hx _ => (hp x hx).2.1) hl avh
  have e4 := Ci (Y := tY) n.ah (fun x hx => (hp x hx).2.2.2)
  rw [e4] at e3 hE
  have e5 := VA n (fun x hx => akR (hp x hx).1 (w1 x hx) (s1 x hx)) hl n.ah.length 0 [60, 63, 32] avh (by rw [asJ]; simp only [an, mg]; omega)
  rw [show ((0 : Nat) : Int) = 0 from rfl, asJ] at e5
  refine ⟨[60, 63, 32] ++ n.ah.flatMap (fun x => tY x ++ [32]), ?_, ?_⟩
  ·rw [if_pos rfl, e3, sb, aH avq]; rfl
  ·rw [if_pos rfl, cf avj, sb, are]
   show (cV n [60, 63, 32] 0 >>= _) = _
   rw [e5, sb, Al avl avl]; rfl
set_option maxRecDepth 100000
theorem Fw {α : Type} (a : List α) {L : List α → Int → Option (List α)} (hs : ∀ (l : List α) (k : Nat) (h : k < a.length), l.length = a.length → L l (k : Int) = L (l.set k a[k]) ((k + 1 : Nat) : Int))
  (he : ∀ l, L l (a.length : Int) = some l) : ∀ (f k : Nat) (l : List α), a.length ≤ k + f → k ≤ a.length → l.length = a.length → (∀ j, j < k → l[j]? = a[j]?) → L l (k : Int) = some a
 | f, k, l, hf, hk, hl, hj => by
  by_cases hc : k < a.length
  ·obtain ⟨g, rfl⟩ : ∃ g, f = g + 1 := ⟨f - 1, by omega⟩
   rw [hs l k hc hl]
   refine Fw a hs he g (k + 1) _ avh avh (by rw [atU]; exact hl) (fun j hj2 => ?_)
   rw [aub]
   by_cases h : k = j
   ·subst h
    rw [if_pos rfl, if_pos avh, amb hc]
   ·rw [if_neg h]; exact hj j avh
  ·have : k = a.length := by omega
   subst this
   rw [he l]
   congr 1
   refine List.ext_getElem? fun j => ?_
   by_cases h : j < a.length
   ·exact hj j h
   ·rw [atj avh, atj avh]
theorem mk_eq {α : Type} [Inhabited α] {b n : Nat} (hn : n ≤ 2000000) (hb : b ≤ 1000) : (yU b (n : Int) (n : Int) : Option (List α)) = some (List.replicate n default) := by
 unfold yU
 have : n * b ≤ 2000000 * 1000 := Nat.mul_le_mul hn hb
 rw [if_pos ⟨by omega, by omega, by omega, by simp only [Int.toNat_natCast]; omega⟩]; rfl
theorem yV : ∀ (N : Nat) (n : ae), sz n < N → wt n ≤ 1048576 → ib n = some n
 | 0, n, h, _ => by omega
 | N + 1, n, h, hw => by
  have hl := (rl hw).2
  have e := Fw n.ah (L := gT n.ah) (fun l k hk mD => by
   rw [gT, if_pos avh, bc hk, sb, yV N _ (by have := cJ (asK hk); omega) (wk hw _ (asK hk)), sb, bc avh, sb, bF avh]; rfl)
   (fun l => by rw [gT, if_neg avh]) n.ah.length 0 (List.replicate n.ah.length default) avh avh avj (fun j h => absurd h avh)
  rw [show ((0 : Nat) : Int) = 0 from rfl] at e
  rw [ib, pA, mk_eq avh avh, sb, e]
  cases n; rfl
theorem uK : ∀ (N : Nat) (n : ae), sz n < N → wt n ≤ 1048576 → jY n n = some true
 | 0, n, h, _ => by omega
 | N + 1, n, h, hw => by
  have hl := (rl hw).2
  have go : ∀ f i : Nat, n.ah.length ≤ i + f → gU n.ah n.ah (i : Int) = some (.inl ()) := by
   intro f
   induction f with
   | zero => intro i hi; rw [gU, if_neg avh]
   | succ f ih =>
    intro i hi
    rw [gU]
    by_cases hc : i < n.ah.length
    ·rw [if_pos avh, bc hc, sb, sb, uK N _ (by have := cJ (asK hc); omega) (wk hw _ (asK hc)), sb, if_pos rfl, bF avh, ih (i + 1) avh]
    ·rw [if_neg avh]
  have h0 := go n.ah.length 0 avh
  rw [show ((0 : Nat) : Int) = 0 from rfl] at h0
  rw [jY, if_pos rfl, if_pos rfl, if_pos rfl, pB, if_pos rfl, h0]; rfl
def Fit (n : ae) : Prop := n.aj.length ≤ 9223372036854775807 ∧ n.ah.length ≤ 9223372036854775807
inductive Cm : ae → Prop
 | mk (n : ae) (h : Fit n) (hk : ∀ x ∈ n.ah, Cm x) : Cm n
theorem Cm.inv {n : ae} (h : Cm n) : Fit n ∧ ∀ x ∈ n.ah, Cm x := by cases h; exact ⟨by assumption, by assumption⟩
theorem Cn : ∀ (l : List ae) (i : Nat) (h : i < l.length), Is (l.drop i) = wt l[i] + Is (l.drop (i + 1))
 | x :: r, 0, h => rfl
 | x :: r, i + 1, h => Cn r i avx
theorem VB : ∀ (N : Nat) (n : ae), sz n < N → Cm n → ∀ a : Int, 0 ≤ a → a ≤ 1048576 → ∃ v, jX n a = some v ∧ (v < 0 ∨ (v = a - (wt n : Int) ∧ 0 ≤ v))
 | 0, n, h, _, _, _, _ => by omega
 | N + 1, n, h, hF, a, h0, h1 => by
  obtain ⟨⟨f1, f2⟩, f3⟩ := hF.inv
  have hw := yQ n
  have go : ∀ (f i : Nat) (y : Int), n.ah.length ≤ i + f → 0 ≤ y → y ≤ 1048576 → fG n.ah y (i : Int) = some (.inr (-1)) ∨ ∃ v : Int, fG n.ah y (i : Int) = some (.inl v) ∧ v = y - (Is (n.ah.drop i) : Int) ∧ 0 ≤ v := by
   intro f
   induction f with
   | zero =>
    intro i y hi q0 q1
    rw [fG, if_neg avh, asD avh]
    exact .inr ⟨y, rfl, by simp [Is], q0⟩
   | succ f ih =>
    intro i y hi q0 q1
    rw [fG]
    by_cases hc : i < n.ah.length
    ·obtain ⟨v, e1, e2⟩ := VB N n.ah[i] (by have := cJ (asK hc); omega) (f3 _ (asK hc)) y q0 q1
     rw [if_pos avh, bc hc, sb, e1, sb, bF avh]
     by_cases hv : v < 0
     ·rw [if_pos hv]; exact .inl rfl
     ·rw [if_neg hv]
      rcases e2 with e2 | ⟨e2, e3⟩
      ·exact absurd e2 hv
      ·rcases ih (i + 1) v avh e3 avh with g | ⟨u, g1, g2, g3⟩
       ·exact .inl g
       ·exact .inr ⟨u, g1, by rw [g2, Cn n.ah i hc, e2]; omega, g3⟩
    ·rw [if_neg avh, asD avh]
     exact .inr ⟨y, rfl, by simp [Is], q0⟩
  have e1 : aS (a - (n.aj.length : Int)) = a - (n.aj.length : Int) := PT avh avh
  rw [jX, e1]
  by_cases g1 : a - (n.aj.length : Int) < 0
  ·rw [if_pos g1]; exact ⟨-1, rfl, .inl avh⟩
  ·have e2 : aS (a - (n.aj.length : Int) - (n.ah.length : Int)) = a - (n.aj.length : Int) - (n.ah.length : Int) := PT avh avh
   rw [if_neg g1, pE, e2]
   by_cases g2 : a - (n.aj.length : Int) - (n.ah.length : Int) < 0
   ·rw [if_pos g2]; exact ⟨-1, rfl, .inl avh⟩
   ·rw [if_neg g2]
    rcases go n.ah.length 0 (a - (n.aj.length : Int) - (n.ah.length : Int)) avh avh avh with g | ⟨v, q1, q2, q3⟩
    ·rw [show ((0 : Nat) : Int) = 0 from rfl] at g
     rw [g]; exact ⟨-1, rfl, .inl avh⟩
    ·rw [show ((0 : Nat) : Int) = 0 from rfl] at q1
     rw [asJ] at q2
     rw [q1, sb, sb, if_neg avh]
     exact ⟨v, rfl, .inr ⟨by omega, q3⟩⟩
theorem vk (n : ae) (hF : Cm n) : eP n = some true := by
 unfold eP
 obtain ⟨v, e1, e2⟩ := VB _ n (ate _) hF 1048576 avh avh
 rw [e1, sb]
 by_cases hv : v < 0
 ·rw [if_pos hv]
 ·have hw : wt n ≤ 1048576 := by rcases e2 with e2 | e2 <;> omega
  obtain ⟨s, g1, g2⟩ := wQ n hw
  have t1 := yV _ n (ate _) hw
  have t2 := uK _ n (ate _) hw
  simp only [hv, if_false, t1, t2, g1, g2, sb, if_true]
theorem abe {n : ae} (h : n.Ok) : Cm n := by
 induction h with
 | mk a0 a1 a2 a3 h0 h1 h2 ih => exact .mk _ ⟨h0, h1⟩ ih
theorem wz (n : ae) (h : n.Ok) : ACall Tryz.prog 5 [.agg n.lit] [] (fun res _ => res = .bool true) := (nB (vk n (abe h))).mono (fun _ _ h => h.1)
end Go.Am
