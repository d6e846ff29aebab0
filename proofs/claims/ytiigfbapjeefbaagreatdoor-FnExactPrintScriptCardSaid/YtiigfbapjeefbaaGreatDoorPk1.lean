/- Texts of the proof, joined and shortened. -/
import Derived.Test.YtiigfbapjeefbaaGreatDoorPk0
import Derived.WalkLawsBesides
set_option linter.unusedVariables false
set_option linter.unusedSimpArgs false
namespace Go.Am
open Go Go.RowKit
def wR : TypeDesc → Bool
 | .struct _ => true
 | .array _ _ => true
 | _ => false
def ic (P : Program) : Nat → List Field → List PV → Bool
 | _, [], [] => true
 | n, f :: r, .int k _ :: z => f.name != "_" && Nat.beq f.offset n && (match P.underlying f.type with | some (.int k') => mX k k' | _ => false) && ic P (n + 1) r z
 | n, f :: r, .bool _ :: z => f.name != "_" && Nat.beq f.offset n && (match P.underlying f.type with | some .bool => true | _ => false) && ic P (n + 1) r z
 | n, f :: r, .str _ :: z => f.name != "_" && Nat.beq f.offset n && (match P.underlying f.type with | some .string => true | _ => false) && ic P (n + 1) r z
 | _, _, _ => false
def Ao (P : Program) (t : Nat) (z : List PV) : Bool := match P.underlying t with
 | some (.struct fs) => !(P.stoodInHeld t) && !(P.eqGuardType P.depth t) && ic P 0 fs.toList z
 | _ => false
structure cn (P : Program) (T : lO) : Prop where
 flat : ∀ t sz fl z, T.get t = .struct sz fl z → uL z = true → Ao P t z = true
 int : ∀ t k, T.get t = .int k → P.underlying t = some (.int k)
 bool : ∀ t, T.get t = .bool → P.underlying t = some .bool
 str : ∀ t, T.get t = .str → P.underlying t = some .string
 ptr : ∀ t e, T.get t = .ptr e → P.underlying t = some (.pointer e)
 slice : ∀ t e sz L6 z, T.get t = .slice e sz L6 z → P.underlying t = some (.slice e) ∧ 0 < sz ∧ ∃ i zv, P.info? e = some i ∧ i.size = sz ∧ i.bytes = L6 ∧ i.zero = some zv ∧ zv.cells.size = sz ∧ z.length = sz ∧
  ∀ (j : Nat) (u : Value), zv.cells[j]? = some u → ∃ pv : PV, z[j]? = some pv ∧ u.oneCell' = true ∧ ∀ S w, aF S w pv u
 map : ∀ t k e z, T.get t = .map k e z → P.underlying t = some (.map k e) ∧ ∃ i zv, P.info? e = some i ∧ i.zero = some zv ∧ mY z zv ∧ iM z = true ∧ storable z = true
 bytes : ∀ t e sz L6 z, T.get t = .slice e sz L6 z → 0 < L6
 one : ∀ t, jE (T.get t) = 1 → (∀ sz fl z, T.get t ≠ .struct sz fl z) → ∃ i, P.info? t = some i ∧ i.size = 1
 zero : ∀ t z, wS (T.get t) = some z → ∃ i zv, P.info? t = some i ∧ i.zero = some zv ∧ zv.cells.size = jE (T.get t) ∧ z.length = jE (T.get t) ∧
  ∀ (j : Nat) (u : Value), zv.cells[j]? = some u → ∃ pv : PV, z[j]? = some pv ∧ u.oneCell' = true ∧ ∀ S w, aF S w pv u
 struct : ∀ t sz fl z, T.get t = .struct sz fl z → ∃ fs i, P.underlying t = some (.struct fs) ∧ P.info? t = some i ∧ i.size = sz ∧ fl.length = fs.size ∧
  (∃ zv, i.zero = some zv ∧ zv.cells.size = sz ∧ z.length = sz ∧ ∀ (j : Nat) (u : Value), zv.cells[j]? = some u → ∃ pv : PV, z[j]? = some pv ∧ u.oneCell' = true ∧ ∀ S w, aF S w pv u) ∧
  ∀ (k : Nat) (off size : Nat) (ag : Bool), fl[k]? = some (off, size, ag) → ∃ f j d, fs[k]? = some f ∧ f.offset = off ∧ P.info? f.type = some j ∧ j.size = size ∧ 0 < size ∧
   P.underlying f.type = some d ∧ ag = wR d
section
variable {P : Program} {T : lO} {μ : Mu} {h : List ar} {S : Nat → Prop} {w : World}
theorem aZ.jA {k : IntKind} {n : Int} {v : Value} (hv : aZ μ h S w (.int k n) v) : v = .int k n := by
 have hv : aF S w (.int k n) v := hv
 cases hv; rfl
theorem aZ.ku {b : Bool} {v : Value} (hv : aZ μ h S w (.bool b) v) : v = .bool b := by
 have hv : aF S w (.bool b) v := hv
 cases hv; rfl
theorem aZ.kE {s : List UInt8} {v : Value} (hv : aZ μ h S w (.str s) v) : v = .string ⟨⟨s⟩⟩ := by
 have hv : aF S w (.str s) v := hv
 cases hv; rfl
theorem aZ.nF {v : Value} (hv : aZ μ h S w .bm v) : v = .slice none 0 0 := by
 have hv : aF S w .bm v := hv
 cases hv; rfl
theorem aZ.L7 {f : Nat} {v : Value} (hv : aZ μ h S w (.fn f) v) : v = .func (.func f) #[] #[] := by
 have hv : aF S w (.fn f) v := hv
 cases hv; rfl
theorem aZ.qc {sz n : Nat} {f : Nat → List PV} {v : Value} (hv : aZ μ h S w (.eG sz n f) v) :
  (∃ a c, v = .slice a n c ∧ n = 0) ∨ ∃ (b off c : Nat) (vf : Nat → Nat → Value), v = .slice (some ⟨b, off, none⟩) n c ∧ S b ∧ (∀ i, i < n → (f i).length = sz) ∧ n ≤ c ∧
   (∀ (i j : Nat) (pv : PV), i < n → (f i)[j]? = some pv → w.cell? ⟨b, off + i * sz + j, none⟩ = some (vf i j)) ∧ (∀ (i j : Nat) (pv : PV), i < n → (f i)[j]? = some pv → aF S w pv (vf i j)) := by
 have hv : aF S w (.eG sz n f) v := hv
 cases hv with
 | mr _ _ a c => exact .inl ⟨a, c, rfl, rfl⟩
 | eG _ _ _ b off c vf h1 h2 h3 h4 h5 => exact .inr ⟨b, off, c, vf, rfl, h1, h2, h3, h4, h5⟩
theorem aZ.sJ {cs : List PV} {v : Value} (hv : aZ μ h S w (.eh cs) v) :
  ∃ (b off : Nat) (vf : Nat → Value), v = .pointer (some ⟨b, off, none⟩) ∧ S b ∧ (∀ (j : Nat) (pv : PV), cs[j]? = some pv → w.cell? ⟨b, off + j, none⟩ = some (vf j)) ∧ (∀ (j : Nat) (pv : PV), cs[j]? = some pv → aF S w pv (vf j)) := by
 have hv : aF S w (.eh cs) v := hv
 cases hv with
 | eh _ b off vf h1 h4 h5 => exact ⟨b, off, vf, rfl, h1, h4, h5⟩
theorem L8 {v : Value} {p : PV} (h : abf v = some p) : aF S w p v := by
 cases v with
 | int k n => cases h; exact aF.int k n
 | bool b => cases h; exact aF.bool b
 | string s =>
  obtain ⟨⟨l⟩⟩ := s
  cases h
  exact aF.str l
 | slice a n c =>
  cases a with
  | none =>
   cases n with
   | zero =>
    cases c with
    | zero => cases h; exact aF.bm
    | succ c => cases h
   | succ n => cases h
  | some a => cases h
 | pointer a =>
  cases a with
  | none => cases h; exact aF.dA
  | some a => cases h
 | _ => cases h
theorem Co : ∀ {vs : List Value} {l : List PV}, GK vs = some l → vs.length = l.length ∧ ∀ (j : Nat) (pv : PV), l[j]? = some pv → ∃ u, vs[j]? = some u ∧ aF S w pv u
 | [], l, h => by
  cases h
  exact ⟨rfl, fun j pv hj => by simp at hj⟩
 | v :: r, l, h => by
  unfold GK at h
  cases h1 : abf v with
  | none => rw [h1] at h; cases h
  | some p =>
   cases h2 : GK r with
   | none => rw [h1, h2] at h; cases h
   | some q =>
    rw [h1, h2] at h
    cases h
    obtain ⟨q1, q2⟩ := Co h2
    refine ⟨by simp [q1], fun j pv hj => ?_⟩
    cases j with
    | zero => simp at hj; subst hj; exact ⟨v, rfl, L8 h1⟩
    | succ j => obtain ⟨u, r1, r2⟩ := q2 j pv avr; exact ⟨u, by simpa using r1, r2⟩
theorem Cp (v : Value) : aZ μ h S w (ofValue v) v := by
 cases v with
 | int k n => exact aF.int k n
 | bool b => exact aF.bool b
 | string s =>
  obtain ⟨⟨l⟩⟩ := s
  exact aF.str l
 | slice a n c =>
  cases a with
  | none =>
   cases n with
   | zero =>
    cases c with
    | zero => exact aF.bm
    | succ c => trivial
   | succ n => trivial
  | some a => trivial
 | pointer a =>
  cases a with
  | none => exact aF.dA
  | some a => trivial
 | agg vs =>
  simp only [ofValue]
  cases hl : GK vs.toList with
  | none => trivial
  | some l =>
   obtain ⟨q1, q2⟩ := Co (S := S) (w := w) hl
   exact ⟨vs, rfl, by simpa using q1, fun j pv hj => by obtain ⟨u, r1, r2⟩ := q2 j pv hj; exact ⟨u, by simpa using r1, bq.jy r2⟩⟩
 | _ => trivial
theorem bp {env : Env} {a : Act} (ht : ∀ t, aZ μ h S w (env t) (a.tmps.getD t undef)) (x : Operand) : aZ μ h S w (ev env x) (a.eval x) := by
 cases x with
 | tmp t => exact ht t
 | const v => exact Cp v
 | global g => trivial
 | func f => exact aF.fn f
def cC (P : Program) (o : Oper) (a : Act) (μ : Mu) (h : List ar) (S : Nat → Prop) (w : World) (K : PV → Prop) : Prop :=
 ∃ v val, K v ∧ aZ μ h S w v val ∧ ∀ w', bK w w' → (execOp a.eval o).run P w' = .ok (.value val) w'
theorem cC.mk {o : Oper} {a : Act} {K : PV → Prop} {v : PV} {val : Value} (hK : K v) (hv : aZ μ h S w v val) (hr : ∀ w', bK w w' → (execOp a.eval o).run P w' = .ok (.value val) w') : cC P o a μ h S w K := ⟨v, val, hK, hv, hr⟩
variable {a : Act} {env : Env} {K : PV → Prop} {dst : Option Tmp} {ty : TypeId} {pos : String} {after : Array Edge} {guard : Option (Nat × Bool)}
theorem uM {s : Sem Value} {w' L9 : World} {val : Value} (hs : s.run P w' = .ok val L9) : (do pure (Next.value (← s)) : Sem Next).run P w' = .ok (.value val) L9 := by
 simp [hs]
theorem toList_mk (l : List UInt8) : (ByteArray.mk ⟨l⟩).toList = l := by
 have h : (ByteArray.mk ⟨l⟩).toList = (ByteArray.mk ⟨l⟩).data.toList := by simp
 rw [h]
theorem Fx {bo : BinOp} {t : TypeId} {x y : Operand} {u u' val : Value} {w' : World} (hg : eqGuard bo t x y u u' = pure ()) (hb : (binOp bo t u u').run P w' = .ok val w') :
  (do eqGuard bo t x y u u'; binOp bo t u u' : Sem Value).run P w' = .ok val w' := by
 rw [hg]
 simp [hb]
theorem oe {P : Program} {t : TypeId} {d : TypeDesc} (hu : P.underlying t = some d) (hd : wR d = false) (cs : Array Value) (off : Nat) (v : Value) (hc : cs[off]? = some v) (w : World) : (part t cs off).run P w = .ok v w := by
 have : (isAgg t).run P w = .ok false w := by
  unfold isAgg
  simp only [Sem.run_bind, run_underlying hu, Result.andThen]
  cases d <;> first | rfl | cases hd
 simp [part, this, hc]
theorem bG {g q : Bool} {o : Option Bool} {b : Bool} (h : Cq g q o = some b) : g = true ∧ ∃ c, o = some c ∧ b = (q && c) := by
 cases o with
 | none => cases h
 | some c => cases g with
  | true => exact ⟨rfl, c, rfl, (ato h).symm⟩
  | false => cases h
theorem mZ {P : Program} {μ : Mu} {h : List ar} {S : Nat → Prop} {w w' : World} {xs ys : Array Value} (d : Nat) : ∀ (fs : List Field) (z Qn Fy : List PV) (n : Nat) (b : Bool), ic P n fs z = true →
  (∀ (j : Nat) (pv : PV), Qn[j]? = some pv → ∃ u, xs[n + j]? = some u ∧ bq μ h S w pv u) → (∀ (j : Nat) (pv : PV), Fy[j]? = some pv → ∃ u, ys[n + j]? = some u ∧ bq μ h S w pv u) →
  yW z Qn Fy = some b → (Op.eqFields (d + 1) xs ys fs).run P w' = .ok b w'
 | [], z, Qn, Fy, n, b, hf, _, _, hk => by
  cases z with
  | nil =>
   cases Qn with
   | nil => cases Fy with
    | nil => cases hk; rfl
    | cons _ _ => cases hk
   | cons _ _ => cases hk
  | cons _ _ => simp [ic] at hf
 | f :: fs, z, Qn, Fy, n, b, hf, hx, hy, hk => by
  have go : ∀ (c1 c2 : PV) (v1 v2 : Value) (q c : Bool) (dd : TypeDesc) (z r r' : List PV), Qn = c1 :: r → Fy = c2 :: r' → (∀ u, bq μ h S w c1 u → u = v1) → (∀ u, bq μ h S w c2 u → u = v2) → f.name ≠ "_" → f.offset = n → P.underlying f.type = some dd → wR dd = false →
    (Op.equalIn (d + 1) f.type v1 v2).run P w' = .ok q w' → ic P (n + 1) fs z = true → yW z r r' = some c → (Op.eqFields (d + 1) xs ys (f :: fs)).run P w' = .ok (q && c) w' := by
   intro c1 c2 v1 v2 q c dd z r r' e1 e2 hi1 hi2 OT akS hu hd hq hfs qw
   subst e1 e2
   obtain ⟨u1, Bf, hr1⟩ := hx 0 c1 rfl
   obtain ⟨u2, tS, hr2⟩ := hy 0 c2 rfl
   obtain rfl := hi1 u1 hr1
   obtain rfl := hi2 u2 hr2
   have jN := mZ (w' := w') d fs z r r' (n + 1) c hfs (fun j pv hj => by
     obtain ⟨u, q1, q2⟩ := hx (j + 1) pv avr
     exact ⟨u, by rw [← q1]; congr 1; omega, q2⟩) (fun j pv hj => by
     obtain ⟨u, q1, q2⟩ := hy (j + 1) pv avr
     exact ⟨u, by rw [← q1]; congr 1; omega, q2⟩) qw
   have p1 := oe hu hd xs f.offset u1 (by rw [akS]; exact Bf) w'
   have p2 := oe hu hd ys f.offset u2 (by rw [akS]; exact tS) w'
   unfold Op.eqFields
   rw [if_pos OT]
   simp only [Sem.run_bind, p1, p2, hq, Result.andThen_ok]
   cases q with
   | true => simpa using jN
   | false => simp
  unfold yW at hk
  split at hk
  ·simp [ic] at hf
  ·rename_i k n0 z k1 a r k2 b' r'
   simp only [ic, As, bne_iff_ne] at hf
   obtain ⟨⟨⟨h1, h2⟩, h3⟩, h4⟩ := hf
   have h2 := Of h2
   obtain ⟨hg, c, hc, rfl⟩ := bG hk
   simp only [As] at hg
   obtain rfl := dy hg.1
   obtain rfl := dy hg.2
   split at h3
   ·rename_i k' hu
    exact go _ _ (.int k a) (.int k b') (a == b') c _ z r r' rfl rfl (fun u hu => by have hu : aF S w (.int k a) u := hu; cases hu; rfl) (fun u hu => by have hu : aF S w (.int k b') u := hu; cases hu; rfl) h1 h2 hu rfl (run_equalIn_int w' d _ _ _ _ _ hu) h4 hc
   ·cases h3
  ·rename_i n0 z a r b' r'
   simp only [ic, As, bne_iff_ne] at hf
   obtain ⟨⟨⟨h1, h2⟩, h3⟩, h4⟩ := hf
   have h2 := Of h2
   obtain ⟨hg, c, hc, rfl⟩ := bG hk
   split at h3
   ·rename_i hu
    exact go _ _ (.bool a) (.bool b') (a == b') c _ z r r' rfl rfl (fun u hu => by have hu : aF S w (.bool a) u := hu; cases hu; rfl) (fun u hu => by have hu : aF S w (.bool b') u := hu; cases hu; rfl) h1 h2 hu rfl (run_equalIn_bool w' d _ _ _ hu) h4 hc
   ·cases h3
  ·rename_i n0 z a r b' r'
   simp only [ic, As, bne_iff_ne] at hf
   obtain ⟨⟨⟨h1, h2⟩, h3⟩, h4⟩ := hf
   have h2 := Of h2
   obtain ⟨hg, c, hc, rfl⟩ := bG hk
   split at h3
   ·rename_i hu
    exact go _ _ (.string ⟨⟨a⟩⟩) (.string ⟨⟨b'⟩⟩) (a == b') c _ z r r' rfl rfl (fun u hu => by have hu : aF S w (.str a) u := hu; cases hu; rfl) (fun u hu => by have hu : aF S w (.str b') u := hu; cases hu; rfl) h1 h2 hu rfl (by
     rw [run_equalIn_string w' d _ _ _ hu, toList_mk, toList_mk]) h4 hc
   ·cases h3
  ·cases hk
theorem GL (hT : cn P T) (bo : BinOp) (t t' : TypeId) (x y : Operand) (px py : PV) (hx : aZ μ h S w px (a.eval x)) (hy : aZ μ h S w py (a.eval y)) (hp : GM (T.get t) bo px py K) :
  cC P ⟨dst, .binOp bo t x y t', ty, pos, after, guard⟩ a μ h S w K := by
 have key : ∀ (v : PV) (val : Value), K v → aZ μ h S w v val → eqGuard bo t x y (a.eval x) (a.eval y) = pure () → (∀ w', (binOp bo t (a.eval x) (a.eval y)).run P w' = .ok val w') →
   cC P ⟨dst, .binOp bo t x y t', ty, pos, after, guard⟩ a μ h S w K := fun v val hK hv hg hr => .mk hK hv fun w' _ => uM (Fx hg (hr w'))
 unfold GM at hp
 split at hp
 ·rename_i k n k' n'
  have ex := hx.jA
  have ey := hy.jA
  have hg : eqGuard bo t x y (a.eval x) (a.eval y) = pure () := by rw [ex]; apply eqGuard_at_int
  cases bo <;> simp only at hp
  case shl =>
   have h0 : ¬ n' < 0 := by omega
   exact key _ _ hp.2 (aF.int _ _) hg fun w' => by rw [ex, ey, binOp_shl]; simp only [Op.shift, if_neg h0]; rfl
  case shr =>
   have h0 : ¬ n' < 0 := by omega
   exact key _ _ hp.2 (aF.int _ _) hg fun w' => by rw [ex, ey, binOp_shr]; simp only [Op.shift, if_neg h0]; rfl
  all_goals
   replace hp := aU hp
   obtain ⟨hk, hp⟩ := hp
   obtain rfl := dy hk
  case and => exact key _ _ hp (aF.int _ _) hg fun w' => by rw [ex, ey, binOp_and, intBits_and]; rfl
  case or => exact key _ _ hp (aF.int _ _) hg fun w' => by rw [ex, ey, binOp_or, intBits_or]; rfl
  case xor => exact key _ _ hp (aF.int _ _) hg fun w' => by rw [ex, ey, binOp_xor, intBits_xor]; rfl
  case andNot => exact key _ _ hp (aF.int _ _) hg fun w' => by rw [ex, ey, binOp_andNot, intBits_andNot]; rfl
  case add => exact key _ _ hp (aF.int _ _) hg fun w' => by rw [ex, ey, binOp_add]; rfl
  case sub => exact key _ _ hp (aF.int _ _) hg fun w' => by rw [ex, ey, binOp_sub]; rfl
  case mul => exact key _ _ hp (aF.int _ _) hg fun w' => by rw [ex, ey, binOp_mul]; rfl
  case quo => exact key _ _ hp.2 (aF.int _ _) hg fun w' => by rw [ex, ey, binOp_quo]; simp [Op.intDiv, hp.1]
  case rem => exact key _ _ hp.2 (aF.int _ _) hg fun w' => by rw [ex, ey, binOp_rem]; simp [Op.intDiv, hp.1]
  case eql => exact key _ _ hp (aF.bool _) hg fun w' => by rw [ex, ey, binOp_eql]; rfl
  case neq => exact key _ _ hp (aF.bool _) hg fun w' => by rw [ex, ey, binOp_neq]; rfl
  case lss => exact key _ _ hp (aF.bool _) hg fun w' => by rw [ex, ey, binOp_lss]; rfl
  case leq => exact key _ _ hp (aF.bool _) hg fun w' => by rw [ex, ey, binOp_leq]; rfl
  case gtr => exact key _ _ hp (aF.bool _) hg fun w' => by rw [ex, ey, binOp_gtr]; rfl
  case geq => exact key _ _ hp (aF.bool _) hg fun w' => by rw [ex, ey, binOp_geq]; rfl
 ·rename_i b b'
  have ex := hx.ku
  have ey := hy.ku
  have hg : eqGuard bo t x y (a.eval x) (a.eval y) = pure () := by rw [ex]; apply eqGuard_at_bool
  split at hp
  ·rename_i eZ
   exact key _ _ hp (aF.bool _) hg fun w' => by rw [ex, ey]; exact run_eql_bool w' t _ _ (hT.bool _ eZ)
  ·rename_i eZ
   exact key _ _ hp (aF.bool _) hg fun w' => by rw [ex, ey]; exact run_neq_bool w' t _ _ (hT.bool _ eZ)
  ·exact auJ
 ·rename_i s s'
  have ex := hx.kE
  have ey := hy.kE
  have hg : eqGuard bo t x y (a.eval x) (a.eval y) = pure () := by rw [ex]; apply eqGuard_at_string
  cases bo <;> simp only at hp
  case add =>
   obtain ⟨GJ, _, rfl, OV⟩ := hp
   refine key _ _ OV (aF.str _) hg fun w' => ?_
   rw [ex, ey, binOp_string_add]
   have h1 : ¬ (((ByteArray.mk ⟨s⟩).size + (ByteArray.mk ⟨s'⟩).size : Nat) : Int) > IntKind.i64.max := by
    have e1 : (ByteArray.mk ⟨s⟩).size = s.length := rfl
    have e2 : (ByteArray.mk ⟨s'⟩).size = s'.length := rfl
    rw [e1, e2, IntKind.max_i64]
    omega
   simp only [Op.stringOp, if_neg h1]
   have h2 : ByteArray.mk ⟨s⟩ ++ ByteArray.mk ⟨s'⟩ = ByteArray.mk ⟨s ++ s'⟩ := by
    apply ByteArray.ext
    simp [ByteArray.data_append]
   rw [h2]
   rfl
  case eql => exact key _ _ hp (aF.bool _) hg fun w' => by rw [ex, ey, binOp_string_eql, toList_mk, toList_mk]; rfl
  case neq => exact key _ _ hp (aF.bool _) hg fun w' => by rw [ex, ey, binOp_string_neq, toList_mk, toList_mk]; rfl
  case lss => exact key _ _ hp (aF.bool _) hg fun w' => by rw [ex, ey, binOp_string_lss, toList_mk, toList_mk]; rfl
  case leq => exact key _ _ hp (aF.bool _) hg fun w' => by rw [ex, ey, binOp_string_leq, toList_mk, toList_mk]; rfl
  case gtr => exact key _ _ hp (aF.bool _) hg fun w' => by rw [ex, ey, binOp_string_gtr, toList_mk, toList_mk]; rfl
  case geq => exact key _ _ hp (aF.bool _) hg fun w' => by rw [ex, ey, binOp_string_geq, toList_mk, toList_mk]; rfl
  all_goals exact hp.elim
 ·rename_i Qn Fy
  split at hp
  ·rename_i sz fl z eZ
   replace hp := aU hp
   obtain ⟨hz, hp⟩ := hp
   have DQ := hT.flat _ _ _ _ eZ hz
   unfold Ao at DQ
   split at DQ
   ·rename_i fs hu
    simp only [As, atm] at DQ
    obtain ⟨⟨h1, h2⟩, h3⟩ := DQ
    obtain ⟨xs, ex, _, hxs⟩ := hx
    obtain ⟨ys, ey, _, hys⟩ := hy
    have DS : P.fieldsOf t = fs := by simp [Program.fieldsOf, hu]
    have jN : ∀ b, yW z Qn Fy = some b → ∀ w', (Op.equalIn 10000 t (.agg xs) (.agg ys)).run P w' = .ok b w' := fun b hk w' => by
     rw [run_equalIn_struct w' 9999 t xs ys (by rw [DS]; exact hu) h1, DS]
     exact mZ (μ := μ) (h := h) (S := S) (w := w) 9998 fs.toList z Qn Fy 0 b h3 (fun j pv hj => by rw [asN]; exact hxs j pv hj) (fun j pv hj => by rw [asN]; exact hys j pv hj) hk
    have akT : ∀ (b : Bool), K (.bool b) → (∀ w', (binOp bo t (.agg xs) (.agg ys)).run P w' = .ok (.bool b) w') → cC P ⟨dst, .binOp bo t x y t', ty, pos, after, guard⟩ a μ h S w K := fun b hK hr => .mk hK (aF.bool b) fun w' _ => uM (by
     rw [ex, ey]
     simp [run_eqGuard_agg w' bo t x y xs ys h2, hr w'])
    split at hp
    ·rename_i b hb
     split at hp
     ·obtain ⟨_, rfl, hK⟩ := hp
      exact akT _ hK fun w' => by rw [run_eql_struct, jN b hb w']; rfl
     ·obtain ⟨_, rfl, hK⟩ := hp
      exact akT _ hK fun w' => by rw [run_neq_struct, jN b hb w']; rfl
     ·exact auJ
    ·exact auJ
   ·cases DQ
  ·exact auJ
 ·exact auJ
theorem sK {t : TypeId} {d : TypeDesc} (hu : P.underlying t = some d) (w' : World) : (isAgg t).run P w' = .ok (wR d) w' := by
 unfold isAgg
 simp only [Sem.run_bind, run_underlying hu, Result.andThen]
 cases d <;> rfl
def Qo (μ : Mu) (h : List ar) (S : Nat → Prop) (w : World) (cells : List PV) (b off : Nat) : Prop :=
 ∀ (j : Nat) (pv : PV), cells[j]? = some pv → ∃ u, w.cell? ⟨b, off + j, none⟩ = some u ∧ bq μ h S w pv u
theorem wT (hT : cn P T) (t : Nat) (x : Operand) (cells : List PV) (b off : Nat) (hx : a.eval x = .pointer (some ⟨b, off, none⟩)) (hc : Qo μ h S w cells b off) (hp : tV T t cells K)
  (Qp : ∀ pv u, pv ∈ cells → bq μ h S w pv u → aZ μ h S w pv u) :
  cC P ⟨dst, .load t x, ty, pos, after, guard⟩ a μ h S w K := by
 have key : ∀ (v : PV) (val : Value), K v → aZ μ h S w v val → (∀ w', bK w w' → (loadVar t ⟨b, off, none⟩).run P w' = .ok val w') →
   cC P ⟨dst, .load t x, ty, pos, after, guard⟩ a μ h S w K := fun v val hK hv hr => .mk hK hv fun w' ha => by
  refine uM ?_
  rw [hx]
  simp [Instr.loadAt, Instr.sureAddr, hr w' ha]
 have one : ∀ d, P.underlying t = some d → wR d = false → (∃ c r, cells = c :: r ∧ K c) →
   cC P ⟨dst, .load t x, ty, pos, after, guard⟩ a μ h S w K := fun d hu hd ⟨c, r, O1, hK⟩ => by
  obtain ⟨u, Bf, tS⟩ := hc 0 c (by rw [O1]; rfl)
  refine key c u hK (Qp c u (by rw [O1]; simp) tS) fun w' ha => ?_
  have h0 := ha.cell Bf
  rw [aty] at h0
  unfold loadVar
  simp only [Sem.run_bind, sK hu, hd, Result.andThen]
  simp [run_load, h0]
 unfold tV at hp
 split at hp
 ·rename_i sz fl zz eZ
  obtain ⟨fs, i, hu, hi, fQ, _⟩ := hT.struct _ _ _ _ eZ
  replace hp := l7 _ _ _ hp
  obtain ⟨hle, hK⟩ := hp
  simp only [auk, are] at hK
  have hf : ∃ f : Nat → Value, ∀ (j : Nat) (pv : PV), cells[j]? = some pv → w.cell? ⟨b, off + j, none⟩ = some (f j) ∧ bq μ h S w pv (f j) := by
   refine ⟨fun j => (w.cell? ⟨b, off + j, none⟩).getD undef, fun j pv hj => ?_⟩
   obtain ⟨u, h1, h2⟩ := hc j pv hj
   simp only [h1, aul]
   exact ⟨trivial, h2⟩
  obtain ⟨f, hf⟩ := hf
  refine key _ (.agg ((List.range sz).map f).toArray) hK ⟨_, rfl, by simp [Nat.min_eq_left hle], fun j pv hj => ?_⟩ fun w' ha => ?_
  ·rw [atW] at hj
   split at hj
   ·rename_i B3
    obtain ⟨h1, h2⟩ := hf j pv hj
    exact ⟨f j, by simp [B3], h2⟩
   ·cases hj
  ·unfold loadVar
   have hd : wR (.struct fs) = true := rfl
   simp only [Sem.run_bind, sK hu, hd, Result.andThen]
   have hl := run_loadCells (P := P) w' ⟨b, off, none⟩ sz f (fun j hj => by
    rw [Addr.add_lit]
    have FA : j < cells.length := asY hj hle
    exact ha.cell (hf j _ (amb FA)).1)
   simp [sizeOf, typeInfo, hi, fQ, hl]
 ·exact auJ
 ·rename_i h1 h2
  have O1 : ∃ c r, cells = c :: r ∧ K c := by
   cases cells with
   | nil => exact hp.elim
   | cons c r => exact ⟨c, r, rfl, bw hp⟩
  cases eZ : T.get t with
  | int k => exact one _ (hT.int _ _ eZ) rfl O1
  | bool => exact one _ (hT.bool _ eZ) rfl O1
  | str => exact one _ (hT.str _ eZ) rfl O1
  | slice e sz L6 z => exact one _ (hT.slice _ _ _ _ _ eZ).1 rfl O1
  | struct sz fl zz => exact (h1 _ _ _ eZ).elim
  | map k e z => exact one _ (hT.map _ _ _ _ eZ).1 rfl O1
  | ptr e => exact one _ (hT.ptr _ _ eZ) rfl O1
  | other => exact (h2 eZ).elim
theorem dQ {id : Nat} {g sz n : Nat} {e : TypeId} {f : Nat → List PV} (hh : bV h id = .row g sz n e f) : h[id]? = some (ar.row g sz n e f) := by
 unfold bV at hh
 rw [asM] at hh
 cases ho : h[id]? with
 | none => rw [ho] at hh; cases hh
 | some o => rw [ho] at hh; simp at hh; rw [hh]
theorem aZ.oh {id gen off len : Nat} {v : Value} (hv : aZ μ h S w (.own id gen off len) v) : aW μ h w id gen off len v := hv
theorem aZ.pF {id gen i off : Nat} {v : Value} (hv : aZ μ h S w (.aL id gen i off) v) : ba μ h w id gen i off v := hv
theorem aZ.Ap {id : Nat} {v : Value} (hv : aZ μ h S w (.lj id) v) : eH μ h w id v := hv
theorem wU (hH : bA μ h S w) {id g sz n : Nat} {e : TypeId} {f : Nat → List PV} {v : Value} (hh : h[id]? = some (ar.row g sz n e f)) (hr : eH μ h w id v) :
  ∃ b base es c, μ id = some (b, base) ∧ v = .map (some b) ∧ w.heap[b]? = some (.map es c) ∧ es.size = n ∧
   ∀ i, i < n → ∃ (kp vp : PV) (en : MapEntry), f i = [kp, vp] ∧ iM kp = true ∧ iM vp = true ∧ es[i]? = some en ∧ mY kp en.key ∧ mY vp en.val := by
 unfold eH at hr
 rw [hh] at hr
 obtain ⟨_, b, base, eg, ⟨es, c, hb⟩, rfl⟩ := hr
 obtain ⟨_, ho⟩ := hH id g sz n e f hh
 rw [eg] at ho
 obtain ⟨o, h1, h2⟩ := ho
 obtain rfl := ato (hb.symm.trans h1)
 exact ⟨b, base, es, c, eg, rfl, hb, h2.1, h2.2⟩
theorem sL : ∀ (z xs ys : List PV) (b : Bool), yW z xs ys = some b → ∀ (j : Nat) (pv : PV), ys[j]? = some pv → ∀ u, oI pv u → bq μ h S w pv u
 | z, xs, ys, b, hk, j, pv, hj, u, hu => by
  unfold yW at hk
  split at hk
  ·simp at hj
  ·obtain ⟨_, c, hc, _⟩ := bG hk
   cases j with
   | zero => simp at hj; subst hj; have hu : u = _ := hu; subst hu; exact aF.int _ _
   | succ j => exact sL _ _ _ c hc j pv avr u hu
  ·obtain ⟨_, c, hc, _⟩ := bG hk
   cases j with
   | zero => simp at hj; subst hj; have hu : u = _ := hu; subst hu; exact aF.bool _
   | succ j => exact sL _ _ _ c hc j pv avr u hu
  ·obtain ⟨_, c, hc, _⟩ := bG hk
   cases j with
   | zero => simp at hj; subst hj; have hu : u = _ := hu; subst hu; exact aF.str _
   | succ j => exact sL _ _ _ c hc j pv avr u hu
  ·cases hk
theorem vG : ∀ (z xs ys : List PV) (b : Bool), yW z xs ys = some b → xs.length = z.length
 | z, xs, ys, b, hk => by
  unfold yW at hk
  split at hk
  ·rfl
  ·obtain ⟨_, c, hc, _⟩ := bG hk
   simp [vG _ _ _ c hc]
  ·obtain ⟨_, c, hc, _⟩ := bG hk
   simp [vG _ _ _ c hc]
  ·obtain ⟨_, c, hc, _⟩ := bG hk
   simp [vG _ _ _ c hc]
  ·cases hk
theorem DT {kt : TypeId} {fs : Array Field} {z xs : List PV} {O2 : Array Value} (hu : P.underlying kt = some (.struct fs)) (hf : ic P 0 fs.toList z = true)
  (hx : ∀ (j : Nat) (pv : PV), xs[j]? = some pv → ∃ u, O2[j]? = some u ∧ bq μ h S w pv u) (hl : xs.length = z.length) (em : Bool) (w' : World) : (Instr.checkKey em 10000 kt (.agg O2)).run P w' = .ok () w' := by
 rw [show 10000 = 9999 + 1 from rfl, Instr.checkKey]
 simp only [Sem.run_bind, run_underlying hu, Result.andThen_ok]
 rw [← Array.forIn_toList]
 replace hx : ∀ (j : Nat) (pv : PV), xs[j]? = some pv → ∃ u, O2[0 + j]? = some u ∧ bq μ h S w pv u := fun j pv hj => by rw [asN]; exact hx j pv hj
 generalize (0 : Nat) = n at hf hx
 generalize fs.toList = L at hf
 clear hu
 induction L generalizing n z xs with
 | nil => simp
 | cons f L ih =>
  cases z with
  | nil => simp [ic] at hf
  | cons c z =>
   cases xs with
   | nil => simp at hl
   | cons p xs =>
    have akU : ic P (n + 1) L z = true → (∀ (j : Nat) (pv : PV), xs[j]? = some pv → ∃ u, O2[n + 1 + j]? = some u ∧ bq μ h S w pv u) := fun _ j pv hj => by
     obtain ⟨u, q1, q2⟩ := hx (j + 1) pv avr
     exact ⟨u, by rw [← q1]; congr 1; omega, q2⟩
    obtain ⟨u, Bf, _⟩ := hx 0 p rfl
    have key : ∃ d, P.underlying f.type = some d ∧ wR d = false ∧ f.name ≠ "_" ∧ f.offset = n ∧ ic P (n + 1) L z = true ∧ ∀ u, (Instr.checkKey em 9999 f.type u).run P w' = .ok () w' := by
     cases c with
     | int k n0 =>
      simp only [ic, As, bne_iff_ne] at hf
      obtain ⟨⟨⟨h1, h2⟩, h3⟩, h4⟩ := hf
      split at h3
      ·rename_i k' hu
       exact auS
      ·cases h3
     | bool b0 =>
      simp only [ic, As, bne_iff_ne] at hf
      obtain ⟨⟨⟨h1, h2⟩, h3⟩, h4⟩ := hf
      split at h3
      ·rename_i hu
       exact auS
      ·cases h3
     | str s0 =>
      simp only [ic, As, bne_iff_ne] at hf
      obtain ⟨⟨⟨h1, h2⟩, h3⟩, h4⟩ := hf
      split at h3
      ·rename_i hu
       exact auS
      ·cases h3
     | _ => simp [ic] at hf
    obtain ⟨d, hu, hd, hn, ho, hfs, hck⟩ := key
    have p1 := oe hu hd O2 f.offset u (by rw [ho]; exact Bf) w'
    have p2 := hck u
    simp only [List.forIn_cons, Sem.run_bind, hn, ne_eq, not_false_eq_true, if_true, Result.andThen_ok, p1, p2, Sem.run_pure]
    exact ih (by simpa using hl) (n + 1) (akU hfs) hfs
def pG (P : Program) (kt : TypeId) (d : TypeDesc) (s : Bool) (key ek : Value) (q : Bool) : Prop :=
 match s with
 | false => Instr.sameNow d key ek = some q
 | true => Instr.sameNow d key ek = none ∧ ∀ w', (Op.equal kt key ek).run P w' = .ok q w'
theorem FB (hT : cn P T) {kt : Nat} {kv : PV} {key : Value} {q0 : Bool} (OU : aZ μ h S w kv key) (h0 : kN (T.get kt) kv kv = some q0) :
  ∃ d s, P.underlying kt = some d ∧ (∀ (em : Bool) (w' : World), (Instr.checkKey em 10000 kt key).run P w' = .ok () w') ∧ ∀ (kp : PV) (ek : Value) (q : Bool), mY kp ek → kN (T.get kt) kv kp = some q → pG P kt d s key ek q := by
 cases eZ : T.get kt with
 | int k =>
  rw [eZ] at h0
  cases kv <;> simp only [kN] at h0 <;> try cases h0
  rename_i k1 x
  have hu := hT.int _ _ eZ
  obtain ⟨hg0, _⟩ := bG h0
  simp only [As] at hg0
  obtain rfl := dy hg0.1
  obtain rfl := OU.jA
  refine ⟨_, false, hu, fun em w' => by rw [show 10000 = 9999 + 1 from rfl, Instr.checkKey]; simp [run_underlying hu], fun kp ek q hs hq => ?_⟩
  cases kp <;> simp only [kN] at hq <;> try cases hq
  rename_i k3 y3
  obtain ⟨hg, c, hc, rfl⟩ := bG hq
  injection hc with hc; subst hc
  simp only [As] at hg
  obtain rfl := dy hg.2
  obtain rfl : ek = _ := hs
  simp [pG, Instr.sameNow]
 | str =>
  rw [eZ] at h0
  cases kv <;> simp only [kN] at h0 <;> try cases h0
  rename_i x
  have hu := hT.str _ eZ
  obtain rfl := OU.kE
  refine ⟨_, false, hu, fun em w' => by rw [show 10000 = 9999 + 1 from rfl, Instr.checkKey]; simp [run_underlying hu], fun kp ek q hs hq => ?_⟩
  cases kp <;> simp only [kN] at hq <;> try cases hq
  obtain rfl : ek = _ := hs
  rename_i y3
  simp only [pG, Instr.sameNow]
  congr 1
  show ((Array.mk x) == (Array.mk y3)) = (x == y3)
  rw [atN, beq_iff_eq, beq_iff_eq, Array.mk.injEq]
 | struct sz fl z =>
  rw [eZ] at h0
  cases kv <;> simp only [kN] at h0 <;> try cases h0
  rename_i xs
  split at h0
  ·rename_i hz
   have DQ := hT.flat _ _ _ _ eZ hz
   unfold Ao at DQ
   split at DQ
   ·rename_i fs hu
    simp only [As, atm] at DQ
    obtain ⟨⟨h1, h2⟩, h3⟩ := DQ
    obtain ⟨O2, ex, _, hxs⟩ := (show gJ μ h S w (.agg xs) key from OU)
    subst ex
    have DS : P.fieldsOf kt = fs := by simp [Program.fieldsOf, hu]
    refine ⟨_, true, hu, fun em w' => DT hu h3 hxs (vG z xs xs q0 h0) em w', fun kp ek q hs hq => ?_⟩
    cases kp <;> simp only [kN, hz] at hq <;> try cases hq
    rename_i Fy
    obtain ⟨vys, rfl, _, hys⟩ := (show ∃ vs : Array Value, ek = .agg vs ∧ vs.size = Fy.length ∧ ∀ (j : Nat) (pv : PV), Fy[j]? = some pv → ∃ u : Value, vs[j]? = some u ∧ oI pv u from hs)
    refine ⟨rfl, fun w' => ?_⟩
    show (Op.equalIn 10000 kt (.agg O2) (.agg vys)).run P w' = _
    rw [run_equalIn_struct w' 9999 kt O2 vys (by rw [DS]; exact hu) h1, DS]
    exact mZ (μ := μ) (h := h) (S := S) (w := w) 9998 fs.toList z xs Fy 0 q h3 (fun j pv hj => by rw [asN]; exact hxs j pv hj) (fun j pv hj => by
     rw [asN]
     obtain ⟨u, hu, hr⟩ := hys j pv hj
     exact ⟨u, hu, sL z xs Fy q hq j pv hj u hr⟩) hq
   ·cases DQ
  ·cases h0
 | _ =>
  rw [eZ] at h0
  cases kv <;> simp [kN] at h0
theorem wV {d : TypeDesc} {key : Value} : ∀ (l : List MapEntry) (i s : Nat) (en : MapEntry), (∀ j, j < i → ∀ x : MapEntry, l[j]? = some x → Instr.sameNow d key x.key = some false) → l[i]? = some en → Instr.sameNow d key en.key = some true →
  Instr.findNow d key l s = some (some (s + i, en.val))
 | [], i, s, en, _, h, _ => by simp at h
 | x :: l, 0, s, en, _, h, hq => by
  simp at h; subst h
  simp [Instr.findNow, hq]
 | x :: l, i + 1, s, en, hf, h, hq => by
  have h0 := hf 0 avh x rfl
  have := wV l i (s + 1) en (fun j hj y hy => hf (j + 1) avh y avA) avx hq
  simp only [Instr.findNow, h0, this]
  congr 3
  omega
theorem sM {d : TypeDesc} {key : Value} : ∀ (l : List MapEntry) (s : Nat), (∀ (j : Nat) (x : MapEntry), l[j]? = some x → Instr.sameNow d key x.key = some false) → Instr.findNow d key l s = some none
 | [], s, _ => rfl
 | x :: l, s, hf => by
  have h0 := hf 0 x rfl
  simp only [Instr.findNow, h0]
  exact sM l (s + 1) (fun j y hy => hf (j + 1) y avA)
theorem wW {kt : TypeId} {key : Value} {w' : World} : ∀ (l : List MapEntry) (i s : Nat) (en : MapEntry), (∀ j, j < i → ∀ x : MapEntry, l[j]? = some x → (Op.equal kt key x.key).run P w' = .ok false w') → l[i]? = some en → (Op.equal kt key en.key).run P w' = .ok true w' →
  (Instr.findAsking kt key l s).run P w' = .ok (some (s + i, en.val)) w'
 | [], i, s, en, _, h, _ => by simp at h
 | x :: l, 0, s, en, _, h, hq => by
  simp at h; subst h
  simp [Instr.findAsking, hq]
 | x :: l, i + 1, s, en, hf, h, hq => by
  have h0 := hf 0 avh x rfl
  have := wW l i (s + 1) en (fun j hj y hy => hf (j + 1) avh y avA) avx hq
  simp only [Instr.findAsking, Sem.run_bind, h0, Result.andThen_ok, asG, if_false, this]
  congr 3
  omega
theorem sO {kt : TypeId} {key : Value} {w' : World} : ∀ (l : List MapEntry) (s : Nat), (∀ (j : Nat) (x : MapEntry), l[j]? = some x → (Op.equal kt key x.key).run P w' = .ok false w') → (Instr.findAsking kt key l s).run P w' = .ok none w'
 | [], s, _ => rfl
 | x :: l, s, hf => by
  have h0 := hf 0 x rfl
  simp only [Instr.findAsking, Sem.run_bind, h0, Result.andThen_ok, asG, if_false]
  exact sO l (s + 1) (fun j y hy => hf (j + 1) y avA)
theorem wX {kt : TypeId} {d : TypeDesc} {s : Bool} {key : Value} {w' : World} (hu : P.underlying kt = some d) (l : List MapEntry) (i : Nat) (en : MapEntry) (hf : ∀ j, j < i → ∀ x : MapEntry, l[j]? = some x → pG P kt d s key x.key false)
  (hi : l[i]? = some en) (hq : pG P kt d s key en.key true) : (Instr.findKey kt key l).run P w' = .ok (some (i, en.val)) w' := by
 unfold Instr.findKey
 cases s with
 | false =>
  have := wV l i 0 en hf hi hq
  rw [asN] at this
  simp [run_underlying hu, this]
 | true =>
  have h1 := wW (P := P) (w' := w') l i 0 en (fun j hj x hx => (hf j hj x hx).2 w') hi (hq.2 w')
  rw [asN] at h1
  have h2 : Instr.findNow d key l 0 = none := by
   cases l with
   | nil => simp at hi
   | cons x l =>
    have h3 : Instr.sameNow d key x.key = none := by
     cases i with
     | zero => simp at hi; subst hi; exact hq.1
     | succ i => exact (hf 0 avh x rfl).1
    simp [Instr.findNow, h3]
  simp [run_underlying hu, h2, h1]
theorem sP {kt : TypeId} {d : TypeDesc} {s : Bool} {key : Value} {w' : World} (hu : P.underlying kt = some d) (l : List MapEntry) (hf : ∀ (j : Nat) (x : MapEntry), l[j]? = some x → pG P kt d s key x.key false) :
  (Instr.findKey kt key l).run P w' = .ok none w' := by
 unfold Instr.findKey
 cases s with
 | false => simp [run_underlying hu, sM l 0 hf]
 | true =>
  have h1 := sO (P := P) (w' := w') (kt := kt) (key := key) l 0 (fun j x hx => (hf j x hx).2 w')
  cases l with
  | nil => simp [run_underlying hu, Instr.findNow]
  | cons x l =>
   have h3 : Instr.sameNow d key x.key = none := (hf 0 x rfl).1
   simp [run_underlying hu, Instr.findNow, h3, h1]
theorem bq.v {pv : PV} {u : Value} (hc : bq μ h S w pv u) : aZ μ h S w pv u := by
 cases pv <;> first | exact (show False from hc).elim | trivial | exact hc
theorem wY (hT : cn P T) (hH : bA μ h S w) (t : Nat) (x : Operand) (px : PV) (hx : aZ μ h S w px (a.eval x)) (hp : sR T t px h K) :
  cC P ⟨dst, .load t x, ty, pos, after, guard⟩ a μ h S w K := by
 unfold sR at hp
 split at hp
 ·rename_i cells
  obtain ⟨b, off, vf, e1, _, h2, h3⟩ := hx.sJ
  exact wT hT t x cells b off e1 (fun j pv hj => ⟨vf j, h2 j pv hj, bq.jy (h3 j pv hj)⟩) hp fun pv u _ hc => hc.v
 ·rename_i id gen i off
  split at hp
  ·rename_i g sz n e f hg
   obtain ⟨rfl, _, rfl, hp⟩ := hp
   have hh := dQ hg
   have hr := hx.pF
   unfold ba at hr
   rw [hh] at hr
   obtain ⟨_, _, hr⟩ := hr
   obtain ⟨Qq, b, base, eg, DU, hv⟩ := hr rfl
   obtain ⟨hl, hc⟩ := hH id g sz n e f hh
   rw [eg] at hc
   obtain ⟨cur, hb, fQ, aJ⟩ := bA.cells DU.1 hc
   refine wT hT t x _ b (base + i * sz + off) hv (fun j pv hj => ?_) hp fun pv u _ hc => hc.v
   rw [atA] at hj
   obtain ⟨v, h1, h2⟩ := aJ i (off + j) pv Qq hj
   refine ⟨v, ?_, h2.c⟩
   rw [cell_of_row w b (base + i * sz + off + j) cur e (0, 0) hb, ← h1]
   congr 1
   omega
  ·exact auJ
 ·exact auJ
theorem jR {e : TypeId} {i : TypeInfo} (hi : P.info? e = some i) (w' : World) : (sizeOf e).run P w' = .ok i.size w' := by
 simp [sizeOf, typeInfo, hi]
theorem uN {t e : TypeId} {i : TypeInfo} (hu : P.underlying t = some (.slice e)) (hi : P.info? e = some i) (a : Addr) (n c : Nat) (k : IntKind) (x : Int) (h0 : 0 ≤ x) (h1 : x < n) (w' : World) :
  (Instr.indexAt t (.slice (some a) n c) (.int k x)).run P w' = .ok (.pointer (some (a.add (x.toNat * i.size)))) w' := by
 have he : P.elem t = e := by simp [Program.elem, hu]
 rw [run_indexAt_slice w' t a n c k x avE, if_pos ⟨h0, h1⟩, he, jR hi]
 rfl
theorem Cr (hT : cn P T) (hH : bA μ h S w) (ht : ∀ t, aZ μ h S w (env t) (a.tmps.getD t undef)) (t : Nat) (x i : Operand) (hp : bH T (.indexAddr t x i) env h K) :
  cC P ⟨dst, .indexAddr t x i, ty, pos, after, guard⟩ a μ h S w K := by
 have hx := bp ht x
 have hi := bp ht i
 unfold bH at hp
 simp only at hp
 split at hp
 ·rename_i e sz bt z bx n f k ix eZ hex hei
  rw [hex] at hx
  rw [hei] at hi
  replace hp := aU hp
  obtain ⟨wZ, ⟨h0, h1⟩, _, rfl, hK⟩ := hp
  obtain rfl := Of wZ
  have ei := hi.jA
  obtain ⟨hu, _, inf, zv, kh, mu, _⟩ := hT.slice _ _ _ _ _ eZ
  rcases hx.qc with ⟨_, _, _, rfl⟩ | ⟨b, off, c, vf, ex, hS, hl, hc, aJ, kV⟩
  ·omega
  ·have hix : ix.toNat < n := by omega
   refine .mk hK (aF.eh (f ix.toNat) b (off + ix.toNat * sz) (vf ix.toNat) hS (fun j pv hj => aJ _ j pv hix hj) (fun j pv hj => kV _ j pv hix hj)) fun w' _ => uM ?_
   rw [ex, ei, uN hu kh _ _ _ _ _ h0 h1, mu, Addr.add_lit]
 ·rename_i e sz bt z id gen off len k ix eZ hex hei
  rw [hex] at hx
  rw [hei] at hi
  have ei := hi.jA
  obtain ⟨hu, _, inf, zv, kh, mu, _⟩ := hT.slice _ _ _ _ _ eZ
  split at hp
  ·rename_i g bx n e' f yX
   obtain ⟨rfl, hp⟩ := hp
   replace hp := aU hp
   obtain ⟨wZ, ⟨h0, h1⟩, _, rfl, hK⟩ := hp
   obtain ⟨wZ, hnb⟩ := Bool.and_eq_true_iff.1 wZ
   obtain rfl := Of wZ
   have hh := dQ yX
   have hr := hx.oh
   unfold aW at hr
   rw [hh] at hr
   obtain ⟨_, _, hr⟩ := hr
   obtain ⟨hle, hr⟩ := hr rfl
   cases eg : μ id with
   | none =>
    rw [eg] at hr
    obtain ⟨_, hz⟩ := hH id _ _ _ _ _ hh
    rw [eg] at hz
    have hz : n = 0 := hz
    omega
   | some p =>
    obtain ⟨b, base⟩ := p
    rw [eg] at hr
    obtain ⟨ad, cap, ex, PR, sS, DU⟩ := hr
    have sS := sS avh
    subst sS
    refine .mk hK (v := .aL id g (off + ix.toNat) 0) (val := .pointer (some ⟨b, base + (off + ix.toNat) * sz + 0, none⟩)) ?_ fun w' _ => uM ?_
    ·show ba μ h w id g (off + ix.toNat) 0 _
     unfold ba
     rw [hh]
     exact ⟨⟨_, rfl⟩, asA _, fun _ => ⟨by omega, b, base, eg, ⟨DU.least, fun hb => by rw [hb] at hnb; cases hnb⟩, rfl⟩⟩
    ·rw [ex, ei, uN hu kh _ _ _ _ _ h0 h1, mu, Addr.add_lit]
     have : base + off * sz + ix.toNat * sz = base + (off + ix.toNat) * sz + 0 := by rw [asX]; omega
     rw [this]
  ·exact auJ
 ·exact auJ
theorem w3 (hT : cn P T) (ht : ∀ t, aZ μ h S w (env t) (a.tmps.getD t undef)) (t : Nat) (x i : Operand) (hp : bH T (.index t x i) env h K) :
  cC P ⟨dst, .index t x i, ty, pos, after, guard⟩ a μ h S w K := by
 have hx := bp ht x
 have hi := bp ht i
 unfold bH at hp
 simp only at hp
 split at hp
 ·rename_i s k ix eZ hex hei
  rw [hex] at hx
  rw [hei] at hi
  obtain ⟨⟨h0, h1⟩, _, rfl, hK⟩ := hp
  have ei := hi.jA
  have ex := hx.kE
  have hu := hT.str _ eZ
  refine .mk hK (aF.int _ _) fun w' _ => uM ?_
  rw [ex, ei]
  have hb : (ByteArray.mk ⟨s⟩)[ix.toNat]? = some (s.getD ix.toNat 0) := by
   have cM : ix.toNat < s.length := by omega
   rw [asM, amb cM]
   rw [getElem?_pos (ByteArray.mk ⟨s⟩) ix.toNat cM]
   rfl
  simp only [Instr.index, asIntOf, Sem.run_bind, Sem.run_pure, Result.andThen, run_underlying hu, if_pos h0, hb]
 ·exact auJ
theorem GN (hT : cn P T) (hH : bA μ h S w) (ht : ∀ t, aZ μ h S w (env t) (a.tmps.getD t undef)) (args : Array Operand) (ts : Array TypeId) (hp : bH T (.call ⟨.builtin .len, args, ts⟩) env h K) :
  cC P ⟨dst, .call ⟨.builtin .len, args, ts⟩, ty, pos, after, guard⟩ a μ h S w K := by
 obtain ⟨args⟩ := args
 obtain ⟨ts⟩ := ts
 unfold bH at hp
 simp only at hp
 split at hp
 ·rename_i x t
  have hx := bp ht x
  have fin : ∀ (n : Int) (val : Value), a.eval x = val → K (.int .i64 n) → (∀ w', (Builtin.len_ #[t] ty #[val]).run P w' = .ok (goInt n) w') →
    cC P ⟨dst, .call ⟨.builtin .len, #[x], #[t]⟩, ty, pos, after, guard⟩ a μ h S w K := fun n val tM hK hr => .mk hK (aF.int _ _) fun w' _ => by
   simp only [execOp, resolve, invoke, builtin, Sem.run_bind, Sem.run_pure, Result.andThen_ok, aud, adr, asB, tM, hr]
   rfl
  split at hp
  ·rename_i e sz bt z bx n f eZ hex
   rw [hex] at hx
   obtain ⟨hu, _⟩ := hT.slice _ _ _ _ _ eZ
   have he : P.elem t = e := by simp [Program.elem, hu]
   rcases hx.qc with ⟨aa, c, ex, rfl⟩ | ⟨b, off, c, vf, ex, _⟩
   ·exact fin _ _ ex hp fun w' => run_len_slice w' t ty _ _ _ avE
   ·exact fin _ _ ex hp fun w' => run_len_slice w' t ty _ _ _ avE
  ·rename_i e sz bt z eZ hex
   rw [hex] at hx
   obtain ⟨hu, _⟩ := hT.slice _ _ _ _ _ eZ
   have he : P.elem t = e := by simp [Program.elem, hu]
   exact fin _ _ hx.nF hp fun w' => run_len_slice w' t ty _ _ _ avE
  ·rename_i e sz bt z id gen off n eZ hex
   rw [hex] at hx
   obtain ⟨hu, _⟩ := hT.slice _ _ _ _ _ eZ
   have he : P.elem t = e := by simp [Program.elem, hu]
   split at hp
   ·rename_i g bx n' e' f yX
    obtain ⟨rfl, hK⟩ := hp
    have hh := dQ yX
    have hr := hx.oh
    unfold aW at hr
    rw [hh] at hr
    obtain ⟨_, _, hr⟩ := hr
    obtain ⟨hle, hr⟩ := hr rfl
    have tM : ∃ aa c, a.eval x = .slice aa n c := by
     cases eg : μ id with
     | none =>
      rw [eg] at hr
      obtain ⟨_, hz⟩ := hH id _ _ _ _ _ hh
      rw [eg] at hz
      have hz : n' = 0 := hz
      have : n = 0 := by omega
      subst this
      exact ⟨_, _, hr⟩
     | some p =>
      rw [eg] at hr
      obtain ⟨ad, cap, ex, _⟩ := hr
      exact ⟨_, _, ex⟩
    obtain ⟨aa, c, ex⟩ := tM
    exact fin _ _ ex hK fun w' => run_len_slice w' t ty _ _ _ avE
   ·exact auJ
  ·rename_i s eZ hex
   rw [hex] at hx
   have hu := hT.str _ eZ
   refine fin _ _ hx.kE hp fun w' => ?_
   simp [Builtin.len_, run_underlying hu]
   rfl
  ·rename_i k0 e0 z0 id eZ hex
   rw [hex] at hx
   obtain ⟨hu, _⟩ := hT.map _ _ _ _ eZ
   split at hp
   ·rename_i g sz n e f yX
    obtain ⟨b, base, es, c, eg, ex, hb, hn, _⟩ := wU hH (dQ yX) hx.Ap
    refine .mk hp (aF.int _ _) fun w' ha => ?_
    have kU : w'.heap[b]? = some (.map es c) := (ha.blocks b (asC.1 hb).1).trans hb
    simp only [execOp, resolve, invoke, builtin, Sem.run_bind, Sem.run_pure, Result.andThen_ok, aud, adr, asB, ex]
    rw [show (Builtin.len_ #[t] ty #[.map (some b)]).run P w' = .ok (goInt es.size) w' by simp [Builtin.len_, run_underlying hu, run_getObj_map w' b es c kU]]
    rw [hn]
    rfl
   ·exact auJ
  ·exact auJ
 ·exact auJ
theorem uO (s : List UInt8) (l m : Nat) : (ByteArray.mk ⟨s⟩).extract l m = ByteArray.mk ⟨(s.take m).drop l⟩ := by
 apply ByteArray.ext
 rw [ByteArray.data_extract]
 apply Array.ext'
 rw [List.drop_take]
 simp [Array.toList_extract, List.extract]
theorem GO (hT : cn P T) (hH : bA μ h S w) (id g off len sz n : Nat) (e : TypeId) (f : Nat → List PV) (hh : h[id]? = some (ar.row g sz n e f)) (v : Value) (hv : aZ μ h S w (.own id g off len) v) (l m : Nat) (hl : l ≤ m) (hm : m ≤ len) :
  ∃ aa c, v = .slice aa len c ∧ len ≤ c ∧ ∀ (mx : Nat), m ≤ mx → mx ≤ c → aZ μ h S w (.own id g (off + l) (m - l)) (.slice (if mx = l then aa else aa.map (·.add (l * sz))) (m - l) (mx - l)) := by
 have hr := hv.oh
 unfold aW at hr
 rw [hh] at hr
 obtain ⟨_, _, hr⟩ := hr
 obtain ⟨hle, hr⟩ := hr rfl
 cases eg : μ id with
 | none =>
  rw [eg] at hr
  obtain ⟨_, hz⟩ := hH id _ _ _ _ _ hh
  rw [eg] at hz
  have hz : n = 0 := hz
  have h0 : len = 0 := by omega
  subst h0
  have hr : v = .slice none 0 0 := hr
  refine ⟨none, 0, hr, asA _, fun mx h1 h2 => ?_⟩
  have hm0 : m = 0 := by omega
  have Bg : l = 0 := by omega
  have hx0 : mx = 0 := by omega
  subst hm0
  subst Bg
  subst hx0
  show aW μ h w id g (off + 0) (0 - 0) _
  unfold aW
  rw [hh]
  refine ⟨⟨_, _, _, rfl⟩, asA _, fun _ => ⟨by omega, ?_⟩⟩
  rw [eg]
  rfl
 | some p =>
  obtain ⟨b, base⟩ := p
  rw [eg] at hr
  obtain ⟨ad, cap, ex, PR, sS, dZ⟩ := hr
  refine ⟨some ad, cap, ex, PR, fun mx h1 h2 => ?_⟩
  show aW μ h w id g (off + l) (m - l) _
  unfold aW
  rw [hh]
  refine ⟨⟨_, _, _, rfl⟩, asA _, fun _ => ⟨by omega, ?_⟩⟩
  rw [eg]
  by_cases hml : mx = l
  ·refine ⟨ad, 0, by rw [if_pos hml]; subst hml; simp, by omega, fun h => absurd h avh, ?_⟩
   obtain ⟨cur, e', z, q1, q2⟩ := dZ
   refine ⟨cur, e', z, q1, att ?_ q2⟩
   have : (off + l + 0) * sz ≤ (off + cap) * sz := asQ _ avh
   omega
  ·have sS := sS avh
   subst sS
   refine ⟨⟨b, base + (off + l) * sz, none⟩, mx - l, ?_, by omega, fun _ => rfl, ?_⟩
   ·rw [if_neg hml, Option.map_some, Addr.add_lit, asX, aui]
   ·obtain ⟨cur, e', z, q1, q2⟩ := dZ
    refine ⟨cur, e', z, q1, att ?_ q2⟩
    have : (off + l + (mx - l)) * sz ≤ (off + cap) * sz := asQ _ avh
    omega
theorem GP (sz n : Nat) (f : Nat → List PV) (v : Value) (hv : aZ μ h S w (.eG sz n f) v) (l m : Nat) (hl : l ≤ m) (hm : m ≤ n) :
  ∃ aa c, v = .slice aa n c ∧ ((n ≤ c ∨ n = 0) ∧ ∀ (mx : Nat), m ≤ mx → (mx ≤ c ∨ m = 0) → aZ μ h S w (.eG sz (m - l) (fun i => f (l + i))) (.slice (if mx = l then aa else aa.map (·.add (l * sz))) (m - l) (mx - l))) := by
 rcases hv.qc with ⟨aa, c, ex, rfl⟩ | ⟨b, off, c, vf, ex, hS, hlen, hc, aJ, kV⟩
 ·have hm0 : m = 0 := by omega
  subst hm0
  have Bg : l = 0 := by omega
  subst Bg
  exact ⟨aa, c, ex, .inr rfl, fun mx _ _ => aF.mr _ _ _ _⟩
 ·refine ⟨_, c, ex, .inl hc, fun mx h1 h2 => ?_⟩
  by_cases hml : m = l
  ·subst hml
   rw [atz]
   exact aF.mr _ _ _ _
  ·rw [if_neg avh, Option.map_some, Addr.add_lit]
   refine aF.eG sz (m - l) _ b (off + l * sz) (mx - l) (fun i j => vf (l + i) j) hS (fun i hi => hlen _ avh) avh (fun i j pv hi hj => ?_) (fun i j pv hi hj => kV _ j pv avh hj)
   have := aJ (l + i) j pv avh hj
   rw [asX] at this
   rw [← this]
   congr 2
   omega
theorem cb {o : Oper} {s : Sem Value} {val : Value} {w' L9 : World} (he : execOp a.eval o = (do pure (Next.value (← s)) : Sem Next)) (hs : s.run P w' = .ok val L9) : (execOp a.eval o).run P w' = .ok (.value val) L9 := by
 rw [he]; exact uM hs
theorem rn (hx : ∀ x, aZ μ h S w (ev env x) (a.eval x)) {lo : Option Operand} : (lo.map (ev env) = none → lo.map a.eval = none) ∧ ∀ k n, lo.map (ev env) = some (.int k n) → lo.map a.eval = some (.int k n) := by
 cases lo with
 | none => exact ⟨fun _ => rfl, fun k n h => (by cases h)⟩
 | some x =>
  refine ⟨fun h => (by cases h), fun k n hh => ?_⟩
  have hh : ev env x = .int k n := by injection hh
  have := hx x
  rw [hh] at this
  show some (a.eval x) = _
  rw [this.jA]
theorem DV {t e : TypeId} {i : TypeInfo} (hu : P.underlying t = some (.slice e)) (hi : P.info? e = some i) (aa : Option Addr) (n c : Nat) (hc : n ≤ c) (w' : World) :
  ((Instr.sliceAt t (.slice aa n c) none none none).run P w' = .ok (sliced aa 0 n c i.size) w') ∧
  (∀ (k : IntKind) (l : Int), 0 ≤ l → l ≤ n → (Instr.sliceAt t (.slice aa n c) (some (.int k l)) none none).run P w' = .ok (sliced aa l.toNat n c i.size) w') ∧
  (∀ (k : IntKind) (m : Int), 0 ≤ m → m ≤ n → (Instr.sliceAt t (.slice aa n c) none (some (.int k m)) none).run P w' = .ok (sliced aa 0 m.toNat c i.size) w') ∧
  (∀ (k : IntKind) (l : Int) (k' : IntKind) (m : Int), 0 ≤ l → l ≤ m → m ≤ n → (Instr.sliceAt t (.slice aa n c) (some (.int k l)) (some (.int k' m)) none).run P w' = .ok (sliced aa l.toNat m.toNat c i.size) w') ∧
  (∀ (k : IntKind) (m : Int) (k' : IntKind) (q : Int), 0 ≤ m → m ≤ q → q ≤ n → (Instr.sliceAt t (.slice aa n c) none (some (.int k m)) (some (.int k' q))).run P w' = .ok (sliced aa 0 m.toNat q.toNat i.size) w') ∧
  (∀ (k : IntKind) (l : Int) (k' : IntKind) (m : Int) (k'' : IntKind) (q : Int), 0 ≤ l → l ≤ m → m ≤ q → q ≤ n → (Instr.sliceAt t (.slice aa n c) (some (.int k l)) (some (.int k' m)) (some (.int k'' q))).run P w' = .ok (sliced aa l.toNat m.toNat q.toNat i.size) w') := by
 have he : P.elem t = e := by simp [Program.elem, hu]
 have hu' : P.underlying t = some (.slice (P.elem t)) := by rw [he]; exact hu
 have VC : (n : Int) ≤ c := by omega
 refine ⟨?_, fun k l h0 h1 => ?_, fun k m h0 h1 => ?_, fun k l k' m h0 h1 h2 => ?_, fun k m k' q h0 h1 h2 => ?_, fun k l k' m k'' q h0 h1 h2 h3 => ?_⟩ <;> rw [run_sliceAt_slice w' _ _ _ _ _ hu']
 ·rw [run_slice_all w' t aa n c hu', he, jR hi]; rfl
 ·rw [run_slice_l w' t aa n c hu' k l h0 h1, he, jR hi]; rfl
 ·rw [run_slice_h w' t aa n c hu' k m h0 avh, he, jR hi]; rfl
 ·rw [run_slice_lh w' t aa n c hu' k k' l m h0 h1 avh, he, jR hi]; rfl
 ·rw [run_slice_hm w' t aa n c hu' k k' m q h0 h1 avh, he, jR hi]; rfl
 ·rw [run_slice_lhm w' t aa n c hu' k k' k'' l m q h0 h1 h2 avh, he, jR hi]; rfl
theorem cC.choose {o : Oper} (hs : cC P o a μ h S w (Cs K)) : cC P o a μ h S w K := by
 obtain ⟨v, val, hK, hv, hr⟩ := hs
 cases v with
 | eG sz n f =>
  obtain ⟨n', f', rfl, hf, hK⟩ := hK
  refine ⟨_, val, hK, ?_, hr⟩
  rcases hv.qc with ⟨a, c, rfl, rfl⟩ | ⟨b, off, c, vf, rfl, h1, h2, h3, h4, h5⟩
  ·exact aF.mr _ _ _ _
  ·exact aF.eG sz n' f' b off c vf h1 (fun i hi => by rw [hf i hi]; exact h2 i hi) h3 (fun i j pv hi hj => h4 i j pv hi avz) (fun i j pv hi hj => h5 i j pv hi avz)
 | str s =>
  obtain ⟨_, rfl, hK⟩ := hK
  exact ⟨_, val, hK, hv, hr⟩
 | own id g off n =>
  obtain ⟨_, _, rfl, rfl, hK⟩ := hK
  exact ⟨_, val, hK, hv, hr⟩
 | _ => exact ⟨_, val, hK, hv, hr⟩
theorem Ct (hT : cn P T) (hH : bA μ h S w) (ht : ∀ t, aZ μ h S w (env t) (a.tmps.getD t undef)) (t : Nat) (x : Operand) (lo hi mx : Option Operand) (hp : bH T (.slice t x lo hi mx) env h K) :
  cC P ⟨dst, .slice t x lo hi mx, ty, pos, after, guard⟩ a μ h S w K := by
 have hx := bp ht x
 have O3 := rn (fun x => bp ht x) (lo := lo)
 have O4 := rn (fun x => bp ht x) (lo := hi)
 have hmx := rn (fun x => bp ht x) (lo := mx)
 unfold bH at hp
 simp only at hp
 have key : ∀ (K : PV → Prop) (e : TypeId) (i : TypeInfo) (sz n : Nat) (aa : Option Addr) (c : Nat) (R : Nat → Nat → PV), P.underlying t = some (.slice e) → P.info? e = some i → i.size = sz → a.eval x = .slice aa n c → n ≤ c →
   (∀ l m mx, l ≤ m → m ≤ n → m ≤ mx → mx ≤ c → aZ μ h S w (R l m) (.slice (if mx = l then aa else aa.map (·.add (l * sz))) (m - l) (mx - l))) → Qr n (hi.map (ev env)) (mx.map (ev env)) →
   (match lo.map (ev env), hi.map (ev env) with
    | none, none => K (R 0 n)
    | some (.int _ l), none => (0 ≤ l ∧ l ≤ n) ∧ K (R l.toNat n)
    | none, some (.int _ m) => (0 ≤ m ∧ m ≤ n) ∧ K (R 0 m.toNat)
    | some (.int _ l), some (.int _ m) => (0 ≤ l ∧ l ≤ m ∧ m ≤ n) ∧ K (R l.toNat m.toNat)
    | _, _ => False) → cC P ⟨dst, .slice t x lo hi mx, ty, pos, after, guard⟩ a μ h S w K := by
  intro K e i sz n aa c R hu kh mu ex hc hR hm hp
  subst mu
  have jN := fun w' => DV (P := P) hu kh aa n c hc w'
  have fin : ∀ (l m q : Nat), l ≤ m → m ≤ n → m ≤ q → q ≤ c → K (R l m) → (∀ w', (Instr.sliceAt t (.slice aa n c) (lo.map a.eval) (hi.map a.eval) (mx.map a.eval)).run P w' = .ok (sliced aa l m q i.size) w') →
    cC P ⟨dst, .slice t x lo hi mx, ty, pos, after, guard⟩ a μ h S w K := fun l m q h1 h2 h3 h4 hK hr => .mk hK (hR l m q h1 h2 h3 h4) fun w' _ => cb rfl (by rw [ex]; exact hr w')
  unfold Qr at hm
  split at hm
  ·rename_i e3
   have e3 := hmx.1 e3
   split at hp
   ·rename_i e1 e2
    exact fin 0 n c avh avh hc avh hp fun w' => by rw [O3.1 e1, O4.1 e2, e3]; exact (jN w').1
   ·rename_i k l e1 e2
    obtain ⟨⟨h0, h1⟩, hp⟩ := hp
    exact fin l.toNat n c avh avh hc avh hp fun w' => by rw [O3.2 _ _ e1, O4.1 e2, e3]; exact (jN w').2.1 _ _ h0 h1
   ·rename_i k m e1 e2
    obtain ⟨⟨h0, h1⟩, hp⟩ := hp
    exact fin 0 m.toNat c avh avh avh avh hp fun w' => by rw [O3.1 e1, O4.2 _ _ e2, e3]; exact (jN w').2.2.1 _ _ h0 h1
   ·rename_i k l k' m e1 e2
    obtain ⟨⟨h0, h1, h2⟩, hp⟩ := hp
    exact fin l.toNat m.toNat c avh avh avh avh hp fun w' => by rw [O3.2 _ _ e1, O4.2 _ _ e2, e3]; exact (jN w').2.2.2.1 _ _ _ _ h0 h1 h2
   ·exact auJ
  ·rename_i k'' q e3
   have e3 := hmx.2 _ _ e3
   split at hm
   ·rename_i k3 m e2'
    obtain ⟨hm1, hm2⟩ := hm
    rw [e2'] at hp
    split at hp
    ·rename_i e1 e2
     cases e2
    ·rename_i e1 e2
     cases e2
    ·rename_i k m' e1 e2
     injection e2 with e2
     injection e2 with ea eb
     subst ea
     subst eb
     obtain ⟨⟨h0, h1⟩, hp⟩ := hp
     exact fin 0 m.toNat q.toNat avh avh avh avh hp fun w' => by rw [O3.1 e1, O4.2 _ _ e2', e3]; exact (jN w').2.2.2.2.1 _ _ _ _ h0 hm1 hm2
    ·rename_i k l k' m' e1 e2
     injection e2 with e2
     injection e2 with ea eb
     subst ea
     subst eb
     obtain ⟨⟨h0, h1, h2⟩, hp⟩ := hp
     exact fin l.toNat m.toNat q.toNat avh avh avh avh hp fun w' => by rw [O3.2 _ _ e1, O4.2 _ _ e2', e3]; exact (jN w').2.2.2.2.2 _ _ _ _ _ _ h0 h1 hm1 hm2
    ·exact auJ
   ·exact hm.elim
  ·exact hm.elim
 split at hp
 ·rename_i e sz bt z bx n f eZ hex
  rw [hex] at hx
  replace hp := aU hp
  obtain ⟨wZ, hm, hp⟩ := hp
  obtain rfl := Of wZ
  obtain ⟨hu, _, inf, zv, kh, mu, _⟩ := hT.slice _ _ _ _ _ eZ
  have e0 : (fun i => f (0 + i)) = f := by funext i; rw [asN]
  have Ma := fun l m (h1 : l ≤ m) (h2 : m ≤ n) => GP sz n f _ hx l m h1 h2
  obtain ⟨aa, c, ex, hc, _⟩ := Ma 0 0 (asA _) (atS _)
  have hc : n ≤ c := by rcases hc with hc | hc <;> omega
  refine cC.choose ?_
  refine key (Cs K) e inf sz n aa c (fun l m => .eG sz (m - l) (fun i => f (l + i))) hu kh mu ex hc (fun l m q h1 h2 h3 h4 => ?_) hm ?_
  ·obtain ⟨aa', c', ex', _, hR⟩ := Ma l m h1 h2
   rw [ex] at ex'
   injection ex' with e1 e2 e3
   subst e1
   subst e3
   exact hR q h3 (.inl h4)
  ·simp only [e0, Nat.sub_zero]
   exact hp
 ·rename_i e sz bt z id gen off len eZ hex
  rw [hex] at hx
  obtain ⟨hu, _, inf, zv, kh, mu, _⟩ := hT.slice _ _ _ _ _ eZ
  split at hp
  ·rename_i g bx n' e' f yX
   obtain ⟨rfl, hp⟩ := hp
   replace hp := aU hp
   obtain ⟨wZ, hm, hp⟩ := hp
   obtain rfl := Of wZ
   have hh := dQ yX
   have Ma := fun l m (h1 : l ≤ m) (h2 : m ≤ len) => GO hT hH id g off len sz n' e' f hh _ hx l m h1 h2
   obtain ⟨aa, c, ex, hc, _⟩ := Ma 0 0 (asA _) (atS _)
   refine cC.choose ?_
   refine key (Cs K) e inf sz len aa c (fun l m => .own id g (off + l) (m - l)) hu kh mu ex hc (fun l m q h1 h2 h3 h4 => ?_) hm ?_
   ·obtain ⟨aa', c', ex', _, hR⟩ := Ma l m h1 h2
    rw [ex] at ex'
    injection ex' with e1 e2 e3
    subst e1
    subst e3
    exact hR q h3 h4
   ·exact hp
  ·exact auJ
 ·rename_i s eZ hex
  rw [hex] at hx
  replace hp := aU hp
  obtain ⟨hmn, hp⟩ := hp
  obtain rfl : mx = none := by simpa using hmn
  refine cC.choose ?_
  generalize Cs K = K at *
  have ex := hx.kE
  have hu := hT.str _ eZ
  have fQ : (ByteArray.mk ⟨s⟩).size = s.length := rfl
  have fin : ∀ (l m : Nat) (s' : List UInt8), s' = (s.take m).drop l → K (.str s') → (∀ w', (Instr.sliceAt t (.string ⟨⟨s⟩⟩) (lo.map a.eval) (hi.map a.eval) none).run P w' = .ok (.string ((ByteArray.mk ⟨s⟩).extract l m)) w') →
    cC P ⟨dst, .slice t x lo hi none, ty, pos, after, guard⟩ a μ h S w K := fun l m s' hs hK hr => .mk hK (aF.str _) fun w' _ => cb rfl (by rw [ex, hs, ← uO]; exact hr w')
  simp only [w4] at hp
  split at hp
  ·rename_i e1 e2
   exact fin 0 s.length s avj hp fun w' => by rw [O3.1 e1, O4.1 e2, run_sliceAt_string w' _ _ _ _ _ hu, run_slice_string_all w' t ⟨⟨s⟩⟩ hu]; rfl
  ·rename_i k l e1 e2
   obtain ⟨⟨h0, h1⟩, hp⟩ := hp
   exact fin l.toNat s.length _ avj hp fun w' => by rw [O3.2 _ _ e1, O4.1 e2, run_sliceAt_string w' _ _ _ _ _ hu, run_slice_string_l w' t ⟨⟨s⟩⟩ hu k l h0 h1]; rfl
  ·rename_i k m e1 e2
   obtain ⟨⟨h0, h1⟩, hp⟩ := hp
   exact fin 0 m.toNat _ avj hp fun w' => by rw [O3.1 e1, O4.2 _ _ e2, run_sliceAt_string w' _ _ _ _ _ hu, run_slice_string_h w' t ⟨⟨s⟩⟩ hu k m h0 h1]
  ·rename_i k l k' m e1 e2
   obtain ⟨⟨h0, h1, h2⟩, hp⟩ := hp
   exact fin l.toNat m.toNat _ rfl hp fun w' => by rw [O3.2 _ _ e1, O4.2 _ _ e2, run_sliceAt_string w' _ _ _ _ _ hu, run_slice_string w' t ⟨⟨s⟩⟩ k k' l m hu h0 h1 h2]
  ·exact auJ
 ·exact auJ
theorem mF : ∀ (cs l : List PV) (off j : Nat), off + cs.length ≤ l.length → (gL l off cs)[j]? = if off ≤ j ∧ j < off + cs.length then cs[j - off]? else l[j]?
 | [], l, off, j, _ => by
  simp only [gL, mg, aty]
  rw [if_neg avh]
 | c :: r, l, off, j, hl => by
  simp only [gL, an] at hl ⊢
  rw [mF r (l.set off c) (off + 1) j avm]
  by_cases h1 : j = off
  ·subst h1
   rw [if_neg avh, if_pos avh, atz, atJ avh]
   rfl
  ·rw [atn avh]
   by_cases h2 : off + 1 ≤ j ∧ j < off + 1 + r.length
   ·rw [if_pos h2, if_pos avh]
    have : j - off = (j - (off + 1)) + 1 := by omega
    rw [this, List.getElem?_cons_succ]
   ·rw [if_neg h2, if_neg avh]
theorem kG : ∀ (cs l : List PV) (off : Nat), (gL l off cs).length = l.length
 | [], _, _ => rfl
 | c :: r, l, off => by simp only [gL]; rw [kG r]; simp
theorem aF.no {pv : PV} {v : Value} (h : aF S w pv v) : eL pv = false := by cases h <;> rfl
theorem FC {c : PV} (h : j8 c = true) : eL c = false := by cases c <;> first | rfl | cases h
theorem DW {v : PV} (h : storable v = true) {j : Nat} {pv : PV} (hj : (cellsOf v)[j]? = some pv) : eL pv = false := by
 have hm := asP hj
 cases v with
 | agg cs => exact FC (asH.1 h pv hm)
 | _ => exact FC (by rw [List.mem_singleton.1 hm]; exact h)
theorem kH {pv : PV} {v : Value} (hs : storable pv = true) (hv : aZ μ h S w pv v) :
  v.cells.toList.length = (cellsOf pv).length ∧ ∀ (j : Nat) (p : PV), (cellsOf pv)[j]? = some p → ∃ u, v.cells.toList[j]? = some u ∧ bq μ h S w p u := by
 have one : ∀ (hc : bq μ h S w pv v), cellsOf pv = [pv] → v.cells.toList.length = (cellsOf pv).length ∧ ∀ (j : Nat) (p : PV), (cellsOf pv)[j]? = some p → ∃ u, v.cells.toList[j]? = some u ∧ bq μ h S w p u := by
  intro hc he
  have h1 := hc.one
  have h2 : v.cells = #[v] := by cases v <;> first | rfl | cases h1
  rw [h2, he]
  refine ⟨rfl, fun j p hj => ?_⟩
  cases j with
  | zero =>
   simp at hj
   subst hj
   exact ⟨v, rfl, hc⟩
  | succ j => simp at hj
 cases pv with
 | agg cs =>
  obtain ⟨vs, rfl, h2, h3⟩ := hv
  refine ⟨by simpa [Value.cells, cellsOf] using h2, fun j p hj => ?_⟩
  obtain ⟨u, hu, hr⟩ := h3 j p hj
  exact ⟨u, by simpa [Value.cells] using hu, hr⟩
 | aV vs => cases hs
 | fJ sz n e f F => cases hs
 | gv => cases hs
 | lj id => exact one hv rfl
 | lv f bs => exact one hv rfl
 | int k n => exact one hv rfl
 | bool b => exact one hv rfl
 | str s => exact one hv rfl
 | bm => exact one hv rfl
 | dA => exact one hv rfl
 | eG sz n f => exact one hv rfl
 | eh cs => exact one hv rfl
 | own id gen off len => exact one hv rfl
 | aL id gen i off => exact one hv rfl
 | fn f => exact one hv rfl
theorem yY : ∀ (l : List Value) (s off : Nat) (cs : Array Value), off + s + l.length ≤ cs.size →
  ((l.zipIdx s).foldl (fun (cs : Array Value) (p : Value × Nat) => cs.setIfInBounds (off + p.2) p.1) cs).size = cs.size ∧
  ∀ q, ((l.zipIdx s).foldl (fun (cs : Array Value) (p : Value × Nat) => cs.setIfInBounds (off + p.2) p.1) cs)[q]? = if off + s ≤ q ∧ q < off + s + l.length then l[q - (off + s)]? else cs[q]?
 | [], s, off, cs, _ => by
  refine ⟨rfl, fun q => ?_⟩
  simp only [List.zipIdx_nil, List.foldl_nil, mg, aty]
  rw [if_neg avh]
 | v :: r, s, off, cs, hl => by
  simp only [an] at hl
  obtain ⟨h1, h2⟩ := yY r (s + 1) off (cs.setIfInBounds (off + s) v) avm
  simp only [List.zipIdx_cons, List.foldl_cons, an]
  refine ⟨by rw [h1]; simp, fun q => ?_⟩
  rw [h2 q]
  by_cases hq : q = off + s
  ·subst hq
   rw [if_neg avh, if_pos avh, atz]
   simp [Array.getElem?_setIfInBounds, show off + s < cs.size from by omega]
  ·by_cases hr : off + (s + 1) ≤ q ∧ q < off + (s + 1) + r.length
   ·rw [if_pos hr, if_pos avh]
    have : q - (off + s) = (q - (off + (s + 1))) + 1 := by omega
    rw [this, List.getElem?_cons_succ]
   ·rw [if_neg hr, if_neg avh, atK avh]
theorem oJ (v : Value) (off : Nat) (cs : Array Value) (hl : off + v.cells.size ≤ cs.size) :
  (v.cells.zipIdx.foldl (fun (cs : Array Value) (p : Value × Nat) => cs.setIfInBounds (off + p.2) p.1) cs).size = cs.size ∧
  ∀ q, (v.cells.zipIdx.foldl (fun (cs : Array Value) (p : Value × Nat) => cs.setIfInBounds (off + p.2) p.1) cs)[q]? = if off ≤ q ∧ q < off + v.cells.size then v.cells[q - off]? else cs[q]? := by
 have h := yY v.cells.toList 0 off cs (by simpa using hl)
 rw [← Array.foldl_toList]
 simp only [Array.toList_zipIdx, aty, ats, asV] at h ⊢
 exact h
theorem DX {l : List PV} (hb : isByte l = true) : ∃ v, l = [.int .u8 v] := by
 unfold isByte at hb
 split at hb
 ·exact ⟨_, rfl⟩
 ·cases hb
theorem w5 {g : Nat → List PV} {s : List UInt8} {n : Nat} (hl : s.length = n) (hf : ∀ i, i < n → g i = [.int .u8 (s.getD i 0).toNat]) : (∀ i, i < n → isByte (g i) = true) ∧ (List.range n).map (fun i => byteOf (g i)) = s := by
 refine ⟨fun i hi => by rw [hf i hi]; rfl, ?_⟩
 apply List.ext_getElem (by simp [hl])
 intro i h1 h2
 simp only [atT, List.length_range] at h1
 rw [List.getElem_map, List.getElem_range, hf i h1]
 simp [byteOf, asM, amb h2]
theorem yj (hT : cn P T) (hH : bA μ h S w) (ht : ∀ t, aZ μ h S w (env t) (a.tmps.getD t undef)) (s d : Nat) (x : Operand) (hp : bH T (.convert s d x) env h K) :
  cC P ⟨dst, .convert s d x, ty, pos, after, guard⟩ a μ h S w K := by
 have hx := bp ht x
 unfold bH at hp
 simp only at hp
 split at hp
 ·rename_i k0 k k1 n hs hd hex
  rw [hex] at hx
  exact .mk hp (aF.int _ _) fun w' _ => cb rfl (by
   rw [hx.jA]
   simp [convert, run_underlying (hT.int _ _ hs), run_underlying (hT.int _ _ hd), Conv.intToInt])
 ·rename_i e sz bt z hs hd
  split at hp
  ·rename_i hte
   have hu := (hT.slice _ _ _ _ _ hs).1
   have hue := hT.int _ _ hte
   have hud := hT.str _ hd
   have key : ∀ (b off c n : Nat) (g : Nat → List PV), a.eval x = .slice (some ⟨b, off, none⟩) n c → (∀ i, i < n → isByte (g i) = true) → K (.str ((List.range n).map fun i => byteOf (g i))) →
     (∀ i v, i < n → g i = [.int .u8 v] → w.cell? ⟨b, off + i, none⟩ = some (.int .u8 v)) → cC P ⟨dst, .convert s d x, ty, pos, after, guard⟩ a μ h S w K := by
    intro b off c n g ex hb hK aJ
    have num : ∀ i, i < n → ∃ v, g i = [.int .u8 v] := fun i hi => DX (hb i hi)
    let val : Nat → Int := fun i => match g i with | [.int _ v] => v | _ => 0
    have tM : ∀ i, i < n → g i = [.int .u8 (val i)] := fun i hi => by
     obtain ⟨v, hv⟩ := num i hi
     simp only [val, hv]
    refine .mk hK (aF.str _) fun w' ha => cb rfl ?_
    rw [ex, run_convert_bytes_arg w' s e hu hue b off n c ((List.range n).map val) avj (fun i hi => ?_) d hud]
    ·congr 2
     simp only [strOfNums]
     have : ((List.range n).map val).map (fun q => UInt8.ofNat q.toNat) = (List.range n).map fun i => byteOf (g i) := by
      rw [List.map_map]
      apply List.map_congr_left
      intro i hi
      rw [tM i (atO.1 hi)]
      rfl
     rw [this]
    ·rw [ha.cell (aJ i _ hi (tM i hi))]
     simp [asM, hi]
   unfold rp at hp
   split at hp
   ·rename_i hex
    rw [hex] at hx
    refine .mk hp (aF.str _) fun w' _ => cb rfl ?_
    rw [hx.nF, run_convert_bytes_nil w' s e hu hue 0 0 d hud]
    rfl
   ·rename_i bx n f hex
    rw [hex] at hx
    replace hp := aU hp
    obtain ⟨h1, s0, Bg, Qs, hK⟩ := hp
    obtain ⟨hb, Vr⟩ := w5 Bg Qs
    replace hK : K (.str s0) := hK
    rw [← Vr] at hK
    clear Bg Qs Vr
    obtain rfl := Of h1
    rcases hx.qc with ⟨aa, c, ex, rfl⟩ | ⟨b, off, c, vf, ex, hS, hl, hc, aJ, kV⟩
    ·cases aa with
     | none =>
      refine .mk hK (aF.str _) fun w' _ => cb rfl ?_
      rw [ex, run_convert_bytes_nil w' s e hu hue 0 c d hud]
      rfl
     | some ad =>
      refine .mk hK (aF.str _) fun w' _ => cb rfl ?_
      rw [ex, run_convert_bytes_string w' s d e _ 0 c hu hue hud, run_bytesToString w' ad 0 c [] (by simp [loadCells, loadCellsFrom])]
      rfl
    ·refine key b off c n f ex hb hK fun i v hi hv => ?_
     have q1 := aJ i 0 (.int .u8 v) hi (by rw [hv]; rfl)
     have q2 := kV i 0 (.int .u8 v) hi (by rw [hv]; rfl)
     rw [Nat.mul_one, aty] at q1
     rw [q1]
     generalize vf i 0 = u at q2
     cases q2
     rfl
   ·rename_i id gen off n hex
    rw [hex] at hx
    split at hp
    ·rename_i g bx n' e' f yX
     obtain ⟨rfl, hp⟩ := hp
     replace hp := aU hp
     obtain ⟨h1, s0, Bg, Qs, hK⟩ := hp
     obtain ⟨hb, Vr⟩ := w5 (g := fun i => f (off + i)) Bg Qs
     replace hK : K (.str s0) := hK
     rw [← Vr] at hK
     clear Bg Qs Vr
     obtain rfl := Of h1
     have hh := dQ yX
     have hr := hx.oh
     unfold aW at hr
     rw [hh] at hr
     obtain ⟨⟨a0, l0, c0, e0⟩, _, hr⟩ := hr
     obtain ⟨hln, hr⟩ := hr rfl
     obtain ⟨hl, hc⟩ := hH id g 1 n' e' f hh
     cases hm : μ id with
     | none =>
      rw [hm] at hr hc
      have hn0 : n = 0 := by omega
      subst hn0
      refine .mk hK (aF.str _) fun w' _ => cb rfl ?_
      rw [show a.eval x = .slice none 0 0 from hr, run_convert_bytes_nil w' s e hu hue 0 0 d hud]
      rfl
     | some p =>
      obtain ⟨b, base⟩ := p
      rw [hm] at hr hc
      obtain ⟨ad, cap, ex, dZ, sS, DU⟩ := hr
      obtain ⟨cur, kU, ny, aJ⟩ := bA.cells DU hc
      rcases atw n with h0 | h0
      ·subst h0
       refine .mk hK (aF.str _) fun w' _ => cb rfl ?_
       rw [ex, run_convert_bytes_string w' s d e _ 0 cap hu hue hud, run_bytesToString w' ad 0 cap [] (by simp [loadCells, loadCellsFrom])]
       rfl
      ·rw [sS avh, Nat.mul_one] at ex
       refine key b (base + off) cap n (fun i => f (off + i)) ex hb hK fun i v hi hv => ?_
       obtain ⟨u, q1, q2⟩ := aJ (off + i) 0 (.int .u8 v) avh (by rw [hv]; rfl)
       have q2 : aF S w (.int .u8 v) u := q2
       cases q2
       rw [cell_of_row w b (base + off + i) cur e' (0, 0) kU, ← q1]
       congr 1
       omega
    ·exact auJ
   ·exact auJ
  ·exact auJ
 ·exact auJ
theorem w6 (ht : ∀ t, aZ μ h S w (env t) (a.tmps.getD t undef)) (x : Operand) (hp : bH T (.nilCheck x) env h K) :
  cC P ⟨dst, .nilCheck x, ty, pos, after, guard⟩ a μ h S w K := by
 have hx := bp ht x
 unfold bH at hp
 simp only at hp
 split at hp
 ·rename_i cs hex
  rw [hex] at hx
  obtain ⟨b, off, vf, ex, _⟩ := hx.sJ
  exact .mk hp hx fun w' _ => by simp [execOp, ex]
 ·rename_i id gen i off hex
  rw [hex] at hx
  split at hp
  ·rename_i g sz n e f yX
   obtain ⟨rfl, hp⟩ := hp
   have hh := dQ yX
   have hr := hx.pF
   unfold ba at hr
   rw [hh] at hr
   obtain ⟨_, _, hr⟩ := hr
   obtain ⟨Qq, b, base, eg, DU, hv⟩ := hr rfl
   exact .mk hp hx fun w' _ => by simp [execOp, hv]
  ·exact auJ
 ·exact auJ
theorem uP (hT : cn P T) {s sz k o size : Nat} {fl : List (Nat × Nat × Bool)} {z : List PV} {ag : Bool} (eZ : T.get s = .struct sz fl z) (hk : fl[k]? = some (o, size, ag)) (b off : Nat) (w' : World) :
  (Instr.fieldAt s (.pointer (some ⟨b, off, none⟩)) k).run P w' = .ok (.pointer (some ⟨b, off + o, none⟩)) w' := by
 obtain ⟨fs, i, hu, hi, fQ, DQ, _, hf⟩ := hT.struct _ _ _ _ eZ
 obtain ⟨f, j, d, h1, h2, h3, h4, h5, h6, h7⟩ := hf k o size ag hk
 have h0 : ¬ j.size = 0 := by omega
 simp [Instr.fieldAt, run_underlying hu, h1, Instr.sureAddr, fieldPlace, jR h3, h0, Addr.add_lit, h2]
theorem vl (hT : cn P T) (ht : ∀ t, aZ μ h S w (env t) (a.tmps.getD t undef)) (s : Nat) (x : Operand) (k : Nat) (hp : bH T (.fieldAddr s x k) env h K) :
  cC P ⟨dst, .fieldAddr s x k, ty, pos, after, guard⟩ a μ h S w K := by
 have hx := bp ht x
 unfold bH at hp
 simp only at hp
 split at hp
 ·rename_i sz fl z eZ
  split at hp
  ·rename_i o size ag hk
   split at hp
   ·rename_i cs hex
    rw [hex] at hx
    obtain ⟨b, off, vf, ex, hS, aJ, kV⟩ := hx.sJ
    refine .mk hp (aF.eh (cs.drop o) b (off + o) (fun j => vf (o + j)) hS (fun j pv hj => ?_) (fun j pv hj => ?_)) fun w' _ => cb rfl (by rw [ex]; exact uP hT eZ hk b off w')
    ·rw [atA] at hj
     rw [aui]
     exact aJ _ _ hj
    ·rw [atA] at hj
     exact kV _ _ hj
   ·rename_i id gen i off hex
    rw [hex] at hx
    split at hp
    ·rename_i g bx n e f yX
     obtain ⟨rfl, hp⟩ := hp
     have hh := dQ yX
     have hr := hx.pF
     unfold ba at hr
     rw [hh] at hr
     obtain ⟨_, _, hr⟩ := hr
     obtain ⟨Qq, b, base, eg, DU, hv⟩ := hr rfl
     refine .mk hp ?_ fun w' _ => cb rfl (by rw [hv]; exact uP hT eZ hk b _ w')
     show ba _ _ _ _ _ _ _ _
     unfold ba
     rw [hh]
     exact ⟨⟨_, rfl⟩, asA _, fun _ => ⟨Qq, b, base, eg, DU, by simp only [aui]⟩⟩
    ·exact auJ
   ·exact auJ
  ·exact auJ
 ·exact auJ
theorem sT (ht : ∀ t, aZ μ h S w (env t) (a.tmps.getD t undef)) (sz : Nat) (fl : List (Nat × Nat × Bool)) (place : Nat → Option (Nat × Nat)) (Bi : ∀ (k o size : Nat) (ag : Bool), fl[k]? = some (o, size, ag) → place k = some (o, size)) {K : List PV → Prop} :
  ∀ (l : List (Nat × Operand)) (acc : List PV) (cells : Array Value), l8 env sz fl K l acc → cells.size = sz → acc.length = sz → (∀ (j : Nat) (pv : PV), acc[j]? = some pv → ∃ u, cells[j]? = some u ∧ bq μ h S w pv u) →
  ∃ GQ gV, K GQ ∧ Instr.fill place cells (l.map fun p => (p.1, a.eval p.2)) = some gV ∧ gV.size = sz ∧ GQ.length = sz ∧ ∀ (j : Nat) (pv : PV), GQ[j]? = some pv → ∃ u, gV[j]? = some u ∧ bq μ h S w pv u
 | [], acc, cells, hp, hs, hl, hr => ⟨acc, cells, hp, rfl, hs, hl, hr⟩
 | (k, x) :: r, acc, cells, hp, hs, hl, hr => by
  unfold l8 at hp
  split at hp
  ·rename_i o size ag hk
   replace hp := aU (bw hp)
   obtain ⟨mG, hp⟩ := hp
   simp only [As] at mG
   obtain ⟨⟨rP, hlen⟩, ny⟩ := mG
   have hlen := Of hlen
   have ny := asW ny
   obtain ⟨h3, h4⟩ := kH rP (bp ht x)
   simp only [ats, asV] at h3 h4
   have VD : (a.eval x).cells.size = size := h3.trans hlen
   obtain ⟨g1, g2⟩ := oJ (a.eval x) o cells avh
   obtain ⟨GQ, gV, q1, q2, q3⟩ := sT ht sz fl place Bi r (gL acc o (cellsOf (ev env x))) ((a.eval x).cells.zipIdx.foldl (fun (cs : Array Value) (p : Value × Nat) => cs.setIfInBounds (o + p.2) p.1) cells) hp (g1.trans hs) (by rw [kG]; exact hl)
    (fun j pv hj => by
     rw [mF _ _ _ _ avh] at hj
     rw [g2 j]
     by_cases hc : o ≤ j ∧ j < o + size
     ·rw [if_pos avh] at hj
      rw [if_pos avh]
      exact h4 _ _ hj
     ·rw [if_neg avh] at hj
      rw [if_neg avh]
      exact hr j pv hj)
   refine ⟨GQ, gV, q1, ?_, q3⟩
   simp only [adr, Instr.fill, Bi k o size ag hk]
   rw [if_neg (by simp only [VD, ne_eq, not_true_eq_false, false_or]; simp only [atg, decide_eq_true_eq, not_or]; simp; omega)]
   exact q2
  ·exact auJ
theorem yZ : ∀ (fs : List Field) (n : Nat) (fl : List (Nat × Nat × Bool)), fl.length = fs.length →
  (∀ (k o size : Nat) (ag : Bool), fl[k]? = some (o, size, ag) → ∃ f j, fs[k]? = some f ∧ f.offset = o ∧ P.info? f.type = some j ∧ j.size = size) →
  fs.mapM (fun f => (P.info? f.type).map fun i => (f.offset, i.size)) = some (fl.map fun q => (q.1, q.2.1))
 | [], n, [], _, _ => rfl
 | f :: fs, n, (o, size, ag) :: fl, hl, hf => by
  obtain ⟨f', j, h1, h2, h3, h4⟩ := hf 0 o size ag rfl
  simp at h1
  subst h1
  have ih := yZ fs n fl (by simpa using hl) (fun k o size ag hk => by
   obtain ⟨f, j, q⟩ := hf (k + 1) o size ag (by simpa using hk)
   exact ⟨f, j, by simpa using q⟩)
  simp only [List.mapM_cons, adr, h3, Option.map_some, Option.bind_eq_bind, aum, ih, h2, h4]
  rfl
theorem Cu (hT : cn P T) (ht : ∀ t, aZ μ h S w (env t) (a.tmps.getD t undef)) (t : Nat) (parts : Array (Nat × Operand)) (hp : bH T (.build t parts) env h K) :
  cC P ⟨dst, .build t parts, ty, pos, after, guard⟩ a μ h S w K := by
 unfold bH at hp
 simp only at hp
 split at hp
 ·rename_i sz fl z eZ
  obtain ⟨fs, i, hu, hi, fQ, DQ, ⟨zv, hz, O5, O6, Mb⟩, hf⟩ := hT.struct _ _ _ _ eZ
  have Bi := yZ (P := P) fs.toList 0 fl (by simpa using DQ) (fun k o size ag hk => by
   obtain ⟨f, j, d, h1, h2, h3, h4, _⟩ := hf k o size ag hk
   exact ⟨f, j, by simpa using h1, h2, h3, h4⟩)
  obtain ⟨GQ, gV, q1, q2, q3, q4, q5⟩ := sT (a := a) (μ := μ) (h := h) (S := S) (w := w) ht sz fl ((fl.map fun q => (q.1, q.2.1)).toArray[·]?) (fun k o size ag hk => by simp [hk]) parts.toList z zv.cells hp O5 O6 (fun j pv hj => by
   have It : j < zv.cells.size := by
    have := (At.1 hj).1
    omega
   obtain ⟨ew, h5, _, h6⟩ := Mb j zv.cells[j] (asT It)
   rw [hj] at h5
   injection h5 with h5
   subst h5
   exact ⟨_, asT It, bq.jy (h6 S w)⟩)
  refine .mk q1 ⟨gV, rfl, by omega, q5⟩ fun w' _ => cb rfl (run_build w' t _ gV ?_)
  unfold Program.built
  simp only [hi, hu, hz, Bi]
  have : (parts.map fun p => (p.1, a.eval p.2)).toList = parts.toList.map fun p => (p.1, a.eval p.2) := by simp
  rw [this]
  exact q2
 ·exact auJ
theorem Cv {P : Program} {t : TypeId} {d : TypeDesc} {j : TypeInfo} (hu : P.underlying t = some d) (hi : P.info? t = some j) (cs : Array Value) (off : Nat) (w : World) :
  (part t cs off).run P w = if wR d then .ok (.agg (cs.extract off (off + j.size))) w else match cs[off]? with | some v => .ok v w | none => (part t cs off).run P w := by
 cases hd : wR d with
 | true => simp [part, sK hu, hd, jR hi]
 | false =>
  simp only [asG, if_false]
  cases hc : cs[off]? with
  | none => rfl
  | some v => simp [part, sK hu, hd, hc]
theorem Cw (hT : cn P T) (ht : ∀ t, aZ μ h S w (env t) (a.tmps.getD t undef)) (s : Nat) (x : Operand) (k : Nat) (hp : bH T (.field s x k) env h K) :
  cC P ⟨dst, .field s x k, ty, pos, after, guard⟩ a μ h S w K := by
 have hx := bp ht x
 unfold bH at hp
 simp only at hp
 split at hp
 ·rename_i sz fl z eZ
  split at hp
  ·rename_i o size ag hk
   split at hp
   ·rename_i cs hex
    rw [hex] at hx
    obtain ⟨vs, ex, fQ, hv⟩ := hx
    obtain ⟨fs, i, hu, hi, mu, DQ, _, hf⟩ := hT.struct _ _ _ _ eZ
    obtain ⟨f, j, d, h1, h2, h3, h4, h5, h6, h7⟩ := hf k o size ag hk
    have jN : ∀ w' v, (part f.type vs f.offset).run P w' = .ok v w' → (execOp a.eval ⟨dst, .field s x k, ty, pos, after, guard⟩).run P w' = .ok (.value v) w' := fun w' v hr => cb rfl (by
     rw [ex]
     simp [Instr.field, run_underlying hu, h1, hr, asAgg])
    split at hp
    ·obtain ⟨hle, hK⟩ := l7 _ _ _ hp
     simp only [auk, are, List.length_drop] at hK hle
     refine .mk hK (val := .agg (vs.extract o (o + size))) ⟨_, rfl, by simp; omega, fun q pv hq => ?_⟩ fun w' _ => jN w' _ (by rw [Cv h6 h3, ← h7, if_pos rfl, h2, h4])
     rw [atW] at hq
     split at hq
     ·rename_i cM
      rw [atA] at hq
      obtain ⟨u, Bf, tS⟩ := hv _ _ hq
      refine ⟨u, ?_, tS⟩
      rw [Array.getElem?_extract]
      have : o + q < vs.size := (asC.1 Bf).1
      rw [if_pos avh]
      exact Bf
     ·cases hq
    ·split at hp
     ·rename_i c r hd
      have h0 : cs[o]? = some c := by
       have := congrArg (·[0]?) hd
       simpa using this
      obtain ⟨u, Bf, tS⟩ := hv _ _ h0
      exact .mk (bw hp) tS.v fun w' _ => jN w' _ (by rw [Cv h6 h3, ← h7, h2]; simp [Bf])
     ·exact auJ
   ·exact auJ
  ·exact auJ
 ·exact auJ
theorem mY.GR {pv : PV} {v : Value} (hs : iM pv = true) (hr : mY pv v) : aZ μ h S w pv v := by
 have one : ∀ (pv : PV) (v : Value), pH pv = true → oI pv v → bq μ h S w pv v := fun pv v hs hr => by
  cases pv <;> first | (cases hs; done) | (have hr : v = _ := hr; subst hr; first | exact aF.int _ _ | exact aF.bool _ | exact aF.str _) | exact hr
 cases pv with
 | agg cs =>
  obtain ⟨vs, h1, h2, h3⟩ := hr
  exact ⟨vs, h1, h2, fun j pv hj => let ⟨u, hu, hc⟩ := h3 j pv hj; ⟨u, hu, one pv u (asH.1 hs _ (asP hj)) hc⟩⟩
 | gv => trivial
 | int k n => exact one (.int k n) v rfl hr
 | bool b => exact one (.bool b) v rfl hr
 | str s => exact one (.str s) v rfl hr
 | _ => cases hs
theorem mY.akV {pv : PV} {v : Value} (hs : iM pv = true) (hr : mY pv v) : gJ μ h S w pv v := by
 have := mY.GR (μ := μ) (h := h) (S := S) (w := w) hs hr
 cases pv with
 | aV _ => cases hs
 | _ => exact this
theorem Aq (hT : cn P T) (hH : bA μ h S w) (ht : ∀ t, aZ μ h S w (env t) (a.tmps.getD t undef)) (t : Nat) (x i : Operand) (ok : Bool) (hp : bH T (.lookup t x i ok) env h K) :
  cC P ⟨dst, .lookup t x i ok, ty, pos, after, guard⟩ a μ h S w K := by
 have hx := bp ht x
 have hi := bp ht i
 simp only [bH] at hp
 split at hp
 ·rename_i kt et zv id eZ hex
  rw [hex] at hx
  split at hp
  ·rename_i g sz n e f yX
   replace hp := aU (bw hp)
   obtain ⟨hk, r, b, hm, hK⟩ := hp
   obtain ⟨hu, inf, z, kh, hz, fQ, VE, rP⟩ := hT.map _ _ _ _ eZ
   obtain ⟨bl, base, es, c, eg, ex, hb, hn, DY⟩ := wU hH (dQ yX) hx.Ap
   obtain ⟨q0, h0⟩ := Option.isSome_iff_exists.1 hk
   obtain ⟨d, s, hd, hck, Mc⟩ := FB hT hi h0
   have sU : ∀ m, m ≤ n → Cx (T.get kt) f m (ev env i) → ∀ j, j < m → ∀ y : MapEntry, es.toList[j]? = some y → pG P kt d s (a.eval i) y.key false := fun m hmn hM j hj y hy => by
    obtain ⟨kp, vp, h1, h2⟩ := hM j hj
    obtain ⟨kp', vp', en, h3, _, _, h4, h5, _⟩ := DY j avh
    rw [h1] at h3
    injection h3 with e1 e2
    subst e1
    have : y = en := by rw [asV] at hy; exact ato (hy.symm.trans h4)
    subst this
    exact Mc kp y.key false h5 h2
   have run : ∃ val, mY r val ∧ iM r = true ∧ ∀ w', bK w w' → (Instr.lookup t (.map (some bl)) (a.eval i) ok).run P w' = .ok (if ok then .tuple #[val, .bool b] else val) w' := by
    rcases hm with ⟨rfl, i0, hi0, hM, kp, hf, hq⟩ | ⟨rfl, rfl, hM⟩
    ·obtain ⟨kp', vp', en, h3, _, h6, h4, h5, h7⟩ := DY i0 hi0
     rw [hf] at h3
     injection h3 with e1 e2
     injection e2 with e2 _
     subst e1 e2
     refine ⟨en.val, h7, h6, fun w' ha => ?_⟩
     have kU : w'.heap[bl]? = some (.map es c) := (ha.blocks bl (asC.1 hb).1).trans hb
     have w7 := wX (P := P) (w' := w') hd es.toList i0 en (sU i0 avh hM) (by rw [asV]; exact h4) (Mc kp en.key true h5 hq)
     simp [Instr.lookup, run_underlying hu, run_getObj_map w' bl es c kU, hck, w7]
    ·refine ⟨z, fQ, VE, fun w' ha => ?_⟩
     have kU : w'.heap[bl]? = some (.map es c) := (ha.blocks bl (asC.1 hb).1).trans hb
     have w7 := sP (P := P) (w' := w') hd es.toList (fun j y hy => sU n (asA _) hM j (by
      have := (At.1 hy).1
      rw [← hn]; simpa using this) y hy)
     simp [Instr.lookup, run_underlying hu, run_getObj_map w' bl es c kU, hck, w7, zeroValue, typeInfo, kh, hz]
   obtain ⟨val, hrv, hrs, jN⟩ := run
   cases ok with
   | true =>
    refine .mk hK ?_ fun w' ha => cb rfl (by rw [ex]; exact jN w' ha)
    exact ⟨_, rfl, rfl, fun j pv hj => by
     rcases j with _ | _ | j
     ·cases hj; exact ⟨_, rfl, hrv.akV hrs⟩
     ·cases hj; exact ⟨_, rfl, aF.bool _⟩
     ·simp at hj⟩
   | false => exact .mk (bw hK) (hrv.GR hrs) fun w' ha => cb rfl (by rw [ex]; exact jN w' ha)
  ·exact auJ
 ·exact auJ
theorem w8 {env : Env} {K : List (Nat × Nat) → Prop} : ∀ (l : List Operand) (acc : List (Nat × Nat)), pI env K l acc → ∃ bs, K (acc.reverse ++ bs) ∧ bs.length = l.length ∧ ∀ (j : Nat) (x : Operand) (p : Nat × Nat), l[j]? = some x → bs[j]? = some p → ev env x = .aL p.1 p.2 0 0
 | [], acc, h => ⟨[], by rw [atv]; exact h, rfl, fun j x p hx => by simp at hx⟩
 | x :: r, acc, h => by
  unfold pI at h
  split at h
  ·rename_i id gen he
   obtain ⟨bs, h1, h2, h3⟩ := w8 r _ h
   refine ⟨(id, gen) :: bs, by simpa using h1, by simp [h2], fun j y p hy hp => ?_⟩
   cases j with
   | zero => simp at hy hp; subst hy; subst hp; exact he
   | succ j => exact h3 j y p avA (by simpa using hp)
  ·exact h.elim
theorem w9 (ht : ∀ t, aZ μ h S w (env t) (a.tmps.getD t undef)) (fn : Fn) (first captured : Array Operand) (hp : bH T (.makeFunc fn first captured) env h K) :
  cC P ⟨dst, .makeFunc fn first captured, ty, pos, after, guard⟩ a μ h S w K := by
 simp only [bH] at hp
 split at hp
 ·rename_i f
  obtain ⟨hf, hp⟩ := aU hp
  obtain ⟨bs, hK, hl, hc⟩ := w8 _ _ hp
  have Qs : first = #[] := by simpa [Array.isEmpty] using hf
  subst Qs
  refine .mk (val := .func (.func f) #[] (captured.map a.eval)) (by simpa using hK) ?_ fun w' ha => by first | rfl | simp [execOp, Instr.makeFunc]
  show lC μ h w f bs _
  refine ⟨_, rfl, by simpa using hl.symm, fun j p hj => ?_⟩
  have cM : j < captured.toList.length := by rw [← hl]; exact (At.1 hj).1
  have hx := amb cM
  refine ⟨a.eval captured.toList[j], by rw [atX, ← asV, hx]; rfl, ?_⟩
  have he := hc j _ p hx hj
  have hv := bp ht captured.toList[j]
  rw [he] at hv
  exact hv
 ·exact auJ
theorem kX (hT : cn P T) (hH : bA μ h S w) (ht : ∀ t, aZ μ h S w (env t) (a.tmps.getD t undef)) {op : Op} (hp : bH T op env h K) :
  cC P ⟨dst, op, ty, pos, after, guard⟩ a μ h S w K := by
 cases op with
 | lookup t x i ok => exact Aq hT hH ht t x i ok hp
 | makeFunc fn first captured => exact w9 ht fn first captured hp
 | move x => exact .mk (bw hp) (bp ht x) fun _ _ => rfl
 | assign x => exact .mk (bw hp) (bp ht x) fun _ _ => rfl
 | pick c x y =>
  have hc := bp ht c
  simp only [bH] at hp
  split at hp
  ·rename_i b hex
   rw [hex] at hc
   have ec := hc.ku
   obtain ⟨h1, h2⟩ := jo hp
   cases b with
   | true => exact .mk (bw (h1 rfl)) (bp ht x) fun w' _ => by simp [execOp, ec, asBool]
   | false => exact .mk (bw (h2 rfl)) (bp ht y) fun w' _ => by simp [execOp, ec, asBool]
  ·exact auJ
 | binOp bo t x y t' => exact GL hT bo t t' x y _ _ (bp ht x) (bp ht y) hp
 | unOp u t x =>
  have hx := bp ht x
  simp only [bH] at hp
  split at hp
  ·rename_i b hex
   rw [hex] at hx
   exact .mk hp (aF.bool _) fun w' _ => cb rfl (by rw [hx.ku, unary_not]; rfl)
  ·rename_i k n hex
   rw [hex] at hx
   exact .mk hp (aF.int _ _) fun w' _ => cb rfl (by rw [hx.jA, unary_neg]; rfl)
  ·exact auJ
 | load t x => exact wY hT hH t x _ (bp ht x) hp
 | convert s d x => exact yj hT hH ht s d x hp
 | nilCheck x => exact w6 ht x hp
 | fieldAddr s x k => exact vl hT ht s x k hp
 | build t parts => exact Cu hT ht t parts hp
 | field s x k => exact Cw hT ht s x k hp
 | indexAddr t x i => exact Cr hT hH ht t x i hp
 | index t x i => exact w3 hT ht t x i hp
 | extract x i =>
  have hx := bp ht x
  simp only [bH] at hp
  split at hp
  ·rename_i vs hex
   rw [hex] at hx
   split at hp
   ·rename_i v hv
    obtain ⟨us, e1, e2, e3⟩ := hx
    obtain ⟨u, hu, hr⟩ := e3 i v hv
    have hr' : aZ μ h S w v u := by
     cases v with
     | aV ps => exact (show False from hr).elim
     | _ => exact hr
    exact .mk (bw hp) hr' fun w' _ => cb rfl (by rw [e1]; simp [Instr.extract, hu])
   ·exact auJ
  ·exact auJ
 | slice t x lo hi mx => exact Ct hT hH ht t x lo hi mx hp
 | call c =>
  obtain ⟨cal, args, ts⟩ := c
  cases cal with
  | builtin b => cases b with
   | len => exact GN hT hH ht args ts hp
   | _ => exact (show False from hp).elim
  | _ => exact (show False from hp).elim
 | _ => exact (show False from hp).elim
end
section
variable {P : Program} {T : lO} {μ : Mu} {h : List ar} {S : Nat → Prop} {w w1 : World}
def lG (μ : Mu) (id : Nat) (p : Option (Nat × Nat)) : Mu := fun j => if j = id then p else μ j
theorem bn (μ : Mu) (id : Nat) (p : Option (Nat × Nat)) : lG μ id p id = p := by simp [lG]
theorem dn (μ : Mu) {id j : Nat} (p : Option (Nat × Nat)) (hj : j ≠ id) : lG μ id p j = μ j := by simp [lG, hj]
structure Core (μ : Mu) (h : List ar) (S : Nat → Prop) (w : World) : Prop where
 heap : bA μ h S w
 ok : n7 μ h S w
theorem nx (hc : Core μ h S w) (id g g1 sz n n1 : Nat) (e : TypeId) (f f1 : Nat → List PV) (hh : h[id]? = some (ar.row g sz n e f)) (b1 y0 : Nat) (kr : Array Value)
  (hg : g ≤ g1) (hg1 : g1 = g → μ id = some (b1, y0) ∧ n1 = n)
  (hb : w.heap.size ≤ b1 ∨ ∃ base cur, μ id = some (b1, base) ∧ w.heap[b1]? = some (.cells cur e (0, 0)) ∧ cur.size = kr.size)
  (hw : w1.heap[b1]? = some (.cells kr e (0, 0))) (ny : y0 + n1 * sz ≤ kr.size)
  (iN : ∀ b, b < w.heap.size → b ≠ b1 → w1.heap[b]? = w.heap[b]?) (xa : w.heap.size ≤ w1.heap.size) (hos : w1.os = w.os) (Md : w1.tape = w.tape) (Me : w1.output = w.output)
  (hl : ∀ i, i < n1 → (f1 i).length = sz) (OT : ∀ b base, μ id = some (b, base) → ¬ mS w b)
  (aJ : ∀ (i j : Nat) (pv : PV), i < n1 → (f1 i)[j]? = some pv → ∃ v : Value, kr[y0 + i * sz + j]? = some v ∧ lz μ h S w pv v) (Qt : Nat)
  (sW : ∀ (i j bx n' : Nat) (e' : TypeId) (f' : Nat → List PV) (F' : Nat → Prop), i < n1 → (f1 i)[j]? = some (.fJ bx n' e' f' F') → Qt + i < n ∧ (f (Qt + i))[j]? = some (.fJ bx n' e' f' F')) :
  Fr μ h S w (lG μ id (some (b1, y0))) (h.set id (.row g1 sz n1 e f1)) S w1 ∧ Core (lG μ id (some (b1, y0))) (h.set id (.row g1 sz n1 e f1)) S w1 := by
 have hid : id < h.length := (At.1 hh).1
 have iy : (h.set id (ar.row g1 sz n1 e f1))[id]? = some (ar.row g1 sz n1 e f1) := by simp [hid]
 have bX : ∀ j, j ≠ id → (h.set id (ar.row g1 sz n1 e f1))[j]? = h[j]? := fun j hj => by rw [atn (atH hj)]
 have akW : b1 < w1.heap.size := (asC.1 hw).1
 have Cy : b1 < w.heap.size → bP μ h b1 := fun cM => by
  rcases hb with hb | ⟨base, cur, hm, _, _⟩
  ·omega
  ·exact .inl ⟨id, g, sz, n, e, f, base, hh, hm⟩
 have eJ : ∀ j x y b, cH (h.set id (ar.row g1 sz n1 e f1)) j x y b → cH h j (if j = id then Qt + x else x) y b := fun j x y b ⟨gj, ma, nj, ej, fj, bx, n', e', f', F', q1, q2, q3, q4⟩ => by
  by_cases hJ : j = id
  ·subst hJ
   rw [iy] at q1
   injection q1 with q1
   injection q1 with e1 e2 e3 e4 e5
   subst e1 e2 e3 e4 e5
   obtain ⟨r1, r2⟩ := sW x y _ _ _ _ _ q2 q3
   rw [if_pos rfl]
   exact ⟨_, _, _, _, _, _, _, _, _, _, hh, r1, r2, q4⟩
  ·rw [bX j hJ] at q1
   rw [if_neg hJ]
   exact ave
 have xb : ∀ j x y b, cH h j x y b → b < w.heap.size ∧ b ≠ b1 := fun j x y b hx => by
  have cM := hc.ok.lt b (.inr ⟨j, x, y, hx⟩)
  refine ⟨cM, ?_⟩
  rintro rfl
  rcases hb with hb | ⟨base, cur, hm, _, _⟩
  ·omega
  ·exact hc.ok.hv b ⟨id, g, sz, n, e, f, base, hh, hm⟩ j x y hx
 have jC : Fr μ h S w (lG μ id (some (b1, y0))) (h.set id (.row g1 sz n1 e f1)) S w1 := by
  refine ⟨by simp, fun b cM yh => ?_, fun _ hb => hb, fun _ hb => .inl hb, fun b kU => ?_, xa, hos, Md, Me, fun j gj ma nj ej fj hj => ?_, fun j hj => ?_, fun b k xc dZ => ?_, fun j gj ma nj ej fj b base hj hm lx => ?_, fun b j x y hx lx => ?_⟩
  rotate_right
  ·obtain ⟨q1, q2⟩ := xb j x y b hx
   obtain ⟨es, c, q⟩ := lx
   exact ⟨es, c, (iN b q1 q2).trans q⟩
  ·by_cases FD : b = b1
   ·subst FD; exact (yh (Cy cM)).elim
   ·exact iN b cM FD
  ·rcases kU with ⟨j, gj, ma, nj, ej, fj, oK, hj, hm⟩ | ⟨j, x, y, hx⟩
   rotate_left
   ·exact .inl (.inr ⟨_, _, _, eJ j x y b hx⟩)
   by_cases hJ : j = id
   ·subst hJ
    rw [bn] at hm
    injection hm with hm
    injection hm with h1 h2
    subst h1
    rcases atu b1 w.heap.size with cM | O7
    ·exact .inl (Cy cM)
    ·exact .inr O7
   ·rw [bX j hJ] at hj
    rw [dn μ _ hJ] at hm
    exact .inl (.inl ⟨j, gj, ma, nj, ej, fj, oK, hj, hm⟩)
  ·by_cases hJ : j = id
   ·subst hJ
    rw [hh] at hj
    injection hj with hj
    injection hj with e1 e2 e3 e4 e5
    subst e1 e2 e3 e4 e5
    rw [iy]
    refine ⟨hg, fun he => ?_⟩
    obtain ⟨h1, h2⟩ := hg1 he
    exact ⟨by rw [bn, h1], rfl, h2, rfl⟩
   ·rw [bX j hJ, hj]
    exact ⟨asA _, fun _ => ⟨dn μ _ hJ, rfl, rfl, rfl⟩⟩
  ·have hJ : j ≠ id := by rintro rfl; rw [hh] at hj; cases hj
   rw [bX j hJ]; exact hj
  ·by_cases FD : b = b1
   ·subst FD
    obtain ⟨cur, e', z, q1, q2⟩ := dZ
    rcases hb with hb | ⟨base, DZ, hm, jL, fQ⟩
    ·have := (asC.1 q1).1; omega
    ·rw [jL] at q1
     injection q1 with q1
     injection q1 with q1 _ _
     subst q1
     exact ⟨kr, e, _, hw, by omega⟩
   ·exact iJ.of_same (iN b dZ.lt FD) dZ
  ·have hJ : j ≠ id := by rintro rfl; exact OT b base hm lx
   have FD : b ≠ b1 := by
    rintro rfl
    obtain ⟨es, c, q⟩ := lx
    rcases hb with hb | ⟨j6, DZ, uJ, jL, _⟩
    ·have := (asC.1 q).1; omega
    ·rw [jL] at q; cases q
   obtain ⟨es, c, q⟩ := lx
   exact ⟨⟨es, c, (iN b (asC.1 q).1 FD).trans q⟩, .inr ⟨⟨_, _, _, _, _, (bX j hJ).trans hj⟩, by rw [dn μ _ hJ]; exact hm⟩⟩
 refine ⟨jC, ⟨fun j gj ma nj ej fj hj => ?_, ?_⟩⟩
 ·by_cases hJ : j = id
  ·subst hJ
   rw [iy] at hj
   injection hj with hj
   injection hj with e1 e2 e3 e4 e5
   subst e1 e2 e3 e4 e5
   rw [bn]
   refine ⟨hl, bA.Cz ⟨kr, hw, ny, fun i k pv hi hk => ?_⟩⟩
   obtain ⟨v, h1, h2⟩ := aJ i k pv hi hk
   refine ⟨v, h1, h2.fr jC hc.ok (fun bx n' e' f' F' he b kU => ?_)⟩
   rw [he] at hk
   obtain ⟨r1, r2⟩ := sW i k _ _ _ _ _ hi hk
   obtain ⟨q1, q2⟩ := xb j (Qt + i) k b ⟨_, _, _, _, _, _, _, _, _, _, hh, r1, r2, kU⟩
   exact iN b q1 q2
  ·rw [bX j hJ] at hj
   obtain ⟨h1, h2⟩ := hc.heap j gj ma nj ej fj hj
   refine ⟨h1, ?_⟩
   rw [dn μ _ hJ]
   cases hm : μ j with
   | none => rw [hm] at h2; exact h2
   | some p =>
    obtain ⟨b, base⟩ := p
    rw [hm] at h2
    obtain ⟨o, q1, q2⟩ := h2
    have cM : b < w.heap.size := (asC.1 q1).1
    have FD : b ≠ b1 := by
     rintro rfl
     rcases hb with hb | ⟨j6, DZ, uJ, _⟩
     ·omega
     ·exact hJ (hc.ok.inj j id _ _ _ _ _ _ _ _ _ _ _ _ _ hj hh hm uJ)
    exact ⟨o, (iN b cM FD).trans q1, q2.mono (fun i y pv v hi hy hr => hr.fr jC hc.ok (fun bx n' e' f' F' he b' kU => by
     obtain ⟨q1, q2⟩ := xb j i y b' ⟨_, _, _, _, _, _, _, _, _, _, hj, hi, by rw [hy, he], kU⟩
     exact iN b' q1 q2))⟩
 ·refine ⟨fun b xc Qu => ?_, fun b xc => ?_, fun b Qu => asY (hc.ok.slt b Qu) xa, ?_, hc.ok.xd jC, fun b hvb j x y hx => ?_, fun b j x y j' x' y' hx rq => ?_⟩
  rotate_right 2
  ·obtain ⟨q1, q2⟩ := xb _ _ _ b (eJ j x y b hx)
   obtain ⟨k, gk, szk, nk, ek, fk, Mf, hk, hm⟩ := hvb
   by_cases tW : k = id
   ·subst tW
    rw [bn] at hm
    injection hm with hm
    injection hm with h1 h2
    exact q2 h1.symm
   ·rw [bX k tW] at hk
    rw [dn μ _ tW] at hm
    exact hc.ok.hv b ⟨k, gk, szk, nk, ek, fk, Mf, hk, hm⟩ _ _ _ (eJ j x y b hx)
  ·obtain ⟨r1, r2, r3⟩ := hc.ok.hh b _ _ _ _ _ _ (eJ j x y b hx) (eJ j' x' y' b rq)
   subst r1
   refine ⟨rfl, ?_, r3⟩
   split at r2 <;> omega
  ·rcases jC.own b xc with h1 | h1
   ·exact hc.ok.apart b h1 Qu
   ·have := hc.ok.slt b Qu; omega
  ·rcases xc with ⟨j, gj, ma, nj, ej, fj, oK, hj, hm⟩ | ⟨j, x, y, hx⟩
   rotate_left
   ·exact asY (hc.ok.lt b (.inr ⟨_, _, _, eJ j x y b hx⟩)) xa
   by_cases hJ : j = id
   ·subst hJ
    rw [bn] at hm
    injection hm with hm
    injection hm with h1 h2
    subst h1
    exact akW
   ·rw [bX j hJ] at hj
    rw [dn μ _ hJ] at hm
    exact asY (hc.ok.lt b (.inl ⟨j, gj, ma, nj, ej, fj, oK, hj, hm⟩)) xa
  ·intro i j gi O8 ni ei fi gj ma nj ej fj b o o' hi hj mv lL
   by_cases Iu : i = id
   ·by_cases hJ : j = id
    ·rw [Iu, hJ]
    ·subst Iu
     rw [bn] at mv
     injection mv with mv
     injection mv with h1 h2
     subst h1
     rw [bX j hJ] at hj
     rw [dn μ _ hJ] at lL
     rcases hb with hb | ⟨j6, DZ, uJ, _⟩
     ·have := hc.ok.lt _ (.inl ⟨j, gj, ma, nj, ej, fj, o', hj, lL⟩); omega
     ·exact hc.ok.inj i j _ _ _ _ _ _ _ _ _ _ _ _ _ hh hj uJ lL
   ·rw [bX i Iu] at hi
    rw [dn μ _ Iu] at mv
    by_cases hJ : j = id
    ·subst hJ
     rw [bn] at lL
     injection lL with lL
     injection lL with h1 h2
     subst h1
     rcases hb with hb | ⟨j6, DZ, uJ, _⟩
     ·have := hc.ok.lt _ (.inl ⟨i, gi, O8, ni, ei, fi, o, hi, mv⟩); omega
     ·exact hc.ok.inj i j _ _ _ _ _ _ _ _ _ _ _ _ _ hi hh mv uJ
    ·rw [bX j hJ] at hj
     rw [dn μ _ hJ] at lL
     exact hc.ok.inj i j _ _ _ _ _ _ _ _ _ _ _ _ _ hi hj mv lL
theorem za (hc : Core μ h S w) (sz n : Nat) (e : TypeId) (f : Nat → List PV) (p : Option (Nat × Nat))
  (hp : match p with
   | none => n = 0
   | some (b, base) => w.heap.size ≤ b ∧ ∃ o : Obj, w1.heap[b]? = some o ∧ rr (bq μ h S w) base sz n e f o)
  (ha : bK w w1) (hl : ∀ i, i < n → (f i).length = sz) (sW : ∀ (i j : Nat) (pv : PV), i < n → (f i)[j]? = some pv → eL pv = false) :
  Fr μ h S w (lG μ h.length p) (h ++ [.row 0 sz n e f]) S w1 ∧ Core (lG μ h.length p) (h ++ [.row 0 sz n e f]) S w1 := by
 have mH : ∀ j o, h[j]? = some o → (h ++ [ar.row 0 sz n e f])[j]? = some o := fun j o hj => by
  rw [ata (At.1 hj).1]; exact hj
 have vH : (h ++ [ar.row 0 sz n e f])[h.length]? = some (ar.row 0 sz n e f) := by simp
 have mI : ∀ j o, (h ++ [ar.row 0 sz n e f])[j]? = some o → (h[j]? = some o ∧ j ≠ h.length) ∨ (j = h.length ∧ o = ar.row 0 sz n e f) := fun j o hj => by
  rcases Nat.lt_trichotomy j h.length with cM | heq | yX
  ·rw [ata cM] at hj; exact .inl ⟨hj, by omega⟩
  ·subst heq; rw [vH] at hj; injection hj with hj; exact .inr ⟨rfl, hj.symm⟩
  ·rw [atj avm] at hj; cases hj
 have lD : ∀ j o, h[j]? = some o → lG μ h.length p j = μ j := fun j o hj => dn μ _ (by have := (At.1 hj).1; omega)
 have eJ : ∀ j x y b, cH (h ++ [ar.row 0 sz n e f]) j x y b → cH h j x y b := fun j x y b ⟨gj, ma, nj, ej, fj, bx, n', e', f', F', q1, q2, q3, q4⟩ => by
  rcases mI j _ q1 with ⟨h1, h2⟩ | ⟨h1, h2⟩
  ·exact ⟨_, _, _, _, _, _, _, _, _, _, h1, q2, q3, q4⟩
  ·injection h2 with e1 e2 e3 e4 e5
   subst e1 e2 e3 e4 e5
   have := sW x y _ q2 q3
   cases this
 have jC : Fr μ h S w (lG μ h.length p) (h ++ [.row 0 sz n e f]) S w1 := by
  refine ⟨by simp, fun b cM _ => ha.blocks b cM, fun _ hb => hb, fun _ hb => .inl hb, fun b kU => ?_, ha.size, ha.os, ha.tape, ha.output, fun j gj ma nj ej fj hj => ?_, fun j hj => mH j _ hj, fun b k xc dZ => iJ.of_same (ha.blocks b dZ.lt) dZ, fun j gj ma nj ej fj b base hj hm lx => ⟨let ⟨es, c, q⟩ := lx; ⟨es, c, (ha.blocks b (asC.1 q).1).trans q⟩, .inr ⟨⟨_, _, _, _, _, mH j _ hj⟩, by rw [lD j _ hj]; exact hm⟩⟩, fun b j x y hx lx => let ⟨es, c, q⟩ := lx; ⟨es, c, (ha.blocks b (asC.1 q).1).trans q⟩⟩
  ·rcases kU with ⟨j, gj, ma, nj, ej, fj, oK, hj, hm⟩ | ⟨j, x, y, hx⟩
   rotate_left
   ·exact .inl (.inr ⟨_, _, _, eJ j x y b hx⟩)
   rcases mI j _ hj with ⟨h1, h2⟩ | ⟨h1, h2⟩
   ·rw [dn μ _ h2] at hm
    exact .inl (.inl ⟨j, gj, ma, nj, ej, fj, oK, h1, hm⟩)
   ·subst h1
    rw [bn] at hm
    subst hm
    exact .inr hp.1
  ·rw [mH j _ hj]
   exact ⟨asA _, fun _ => ⟨lD j _ hj, rfl, rfl, rfl⟩⟩
 refine ⟨jC, ⟨fun j gj ma nj ej fj hj => ?_, ?_⟩⟩
 ·rcases mI j _ hj with ⟨h1, h2⟩ | ⟨h1, h2⟩
  ·obtain ⟨q1, q2⟩ := hc.heap j gj ma nj ej fj h1
   refine ⟨q1, ?_⟩
   rw [dn μ _ h2]
   cases hm : μ j with
   | none => rw [hm] at q2; exact q2
   | some p' =>
    obtain ⟨b, base⟩ := p'
    rw [hm] at q2
    obtain ⟨o, r1, r2⟩ := q2
    have cM : b < w.heap.size := (asC.1 r1).1
    exact ⟨o, (ha.blocks b cM).trans r1, r2.mono (fun i y pv v hi hy hr => hr.fr jC hc.ok (fun bx n' e' f' F' he b' kU => ha.blocks b' (hc.ok.lt b' (.inr ⟨j, i, y, _, _, _, _, _, _, _, _, _, _, h1, hi, he ▸ hy, kU⟩))))⟩
  ·subst h1
   injection h2 with e1 e2 e3 e4 e5
   subst e1 e2 e3 e4 e5
   rw [bn]
   refine ⟨hl, ?_⟩
   cases p with
   | none => exact hp
   | some p' =>
    obtain ⟨b, base⟩ := p'
    obtain ⟨_, o, r1, r2⟩ := hp
    exact ⟨o, r1, r2.mono (fun i y pv v hi hy hr => (hr.fr jC hc.ok).k (sW i y pv hi hy))⟩
 ·refine ⟨fun b xc Qu => ?_, fun b xc => ?_, fun b Qu => asY (hc.ok.slt b Qu) ha.size, ?_, hc.ok.xd jC, fun b hvb j x y hx => ?_, fun b j x y j' x' y' hx rq => hc.ok.hh b _ _ _ _ _ _ (eJ j x y b hx) (eJ j' x' y' b rq)⟩
  rotate_right
  ·have hx := eJ j x y b hx
   obtain ⟨k, gk, szk, nk, ek, fk, Mf, hk, hm⟩ := hvb
   rcases mI k _ hk with ⟨h1, h2⟩ | ⟨h1, h2⟩
   ·rw [dn μ _ h2] at hm
    exact hc.ok.hv b ⟨k, gk, szk, nk, ek, fk, Mf, h1, hm⟩ _ _ _ hx
   ·subst h1
    rw [bn] at hm
    subst hm
    have := hc.ok.lt b (.inr ⟨_, _, _, hx⟩)
    have := hp.1
    omega
  ·rcases jC.own b xc with h1 | h1
   ·exact hc.ok.apart b h1 Qu
   ·have := hc.ok.slt b Qu; omega
  ·rcases xc with ⟨j, gj, ma, nj, ej, fj, oK, hj, hm⟩ | ⟨j, x, y, hx⟩
   rotate_left
   ·exact asY (hc.ok.lt b (.inr ⟨_, _, _, eJ j x y b hx⟩)) ha.size
   rcases mI j _ hj with ⟨h1, h2⟩ | ⟨h1, h2⟩
   ·rw [dn μ _ h2] at hm
    exact asY (hc.ok.lt b (.inl ⟨j, gj, ma, nj, ej, fj, oK, h1, hm⟩)) ha.size
   ·subst h1
    rw [bn] at hm
    subst hm
    obtain ⟨_, o, r1, _⟩ := hp
    exact (asC.1 r1).1
  ·intro i j gi O8 ni ei fi gj ma nj ej fj b o o' hi hj mv lL
   rcases mI i _ hi with ⟨h1, h2⟩ | ⟨h1, h2⟩
   ·rw [dn μ _ h2] at mv
    rcases mI j _ hj with ⟨h3, h4⟩ | ⟨h3, h4⟩
    ·rw [dn μ _ h4] at lL
     exact hc.ok.inj i j _ _ _ _ _ _ _ _ _ _ _ _ _ h1 h3 mv lL
    ·subst h3
     rw [bn] at lL
     subst lL
     have := hc.ok.lt _ (.inl ⟨i, gi, O8, ni, ei, fi, o, h1, mv⟩)
     have := hp.1
     omega
   ·subst h1
    rw [bn] at mv
    rcases mI j _ hj with ⟨h3, h4⟩ | ⟨h3, h4⟩
    ·rw [dn μ _ h4] at lL
     subst mv
     have := hc.ok.lt _ (.inl ⟨j, gj, ma, nj, ej, fj, o', h3, lL⟩)
     have := hp.1
     omega
    ·exact h3.symm
theorem lW (hc : Core μ h S w) (sz n : Nat) (e : TypeId) (f : Nat → List PV) (p : Option (Nat × Nat))
  (hp : match p with
   | none => n = 0
   | some (b, base) => w.heap.size ≤ b ∧ ∃ cur : Array Value, w1.heap[b]? = some (.cells cur e (0, 0)) ∧ base + n * sz ≤ cur.size ∧
    ∀ (i j : Nat) (pv : PV), i < n → (f i)[j]? = some pv → ∃ v : Value, cur[base + i * sz + j]? = some v ∧ bq μ h S w pv v)
  (ha : bK w w1) (hl : ∀ i, i < n → (f i).length = sz) (sW : ∀ (i j : Nat) (pv : PV), i < n → (f i)[j]? = some pv → eL pv = false) :
  Fr μ h S w (lG μ h.length p) (h ++ [.row 0 sz n e f]) S w1 ∧ Core (lG μ h.length p) (h ++ [.row 0 sz n e f]) S w1 := by
 refine za hc sz n e f p ?_ ha hl sW
 cases p with
 | none => exact hp
 | some q => exact ⟨hp.1, bA.Cz hp.2⟩
theorem iJ.rk {b k : Nat} (h : iJ w b k) : ¬ mS w b := by
 rintro ⟨es, c, q⟩
 obtain ⟨cur, e, z, h1, _⟩ := h
 rw [h1] at q; cases q
end
theorem mJ.refl : ∀ (l : List PV), mJ l l
 | [] => trivial
 | a :: l => ⟨.same a, mJ.refl l⟩
theorem mJ.len : ∀ {l r : List PV}, mJ l r → r.length = l.length
 | [], [], _ => rfl
 | a :: l, b :: r, h => by simp [mJ.len h.2]
 | [], _ :: _, h => h.elim
 | _ :: _, [], h => h.elim
theorem mJ.get : ∀ {l r : List PV}, mJ l r → ∀ {j : Nat} {b : PV}, r[j]? = some b → ∃ a, l[j]? = some a ∧ Iv a b
 | [], [], _, j, b, hj => by simp at hj
 | a :: l, c :: r, h, 0, b, hj => by simp at hj; subst hj; exact ⟨a, rfl, h.1⟩
 | a :: l, c :: r, h, j + 1, b, hj => by
  obtain ⟨x, q1, q2⟩ := mJ.get h.2 (j := j) avr
  exact ⟨x, by simpa using q1, q2⟩
 | [], _ :: _, h, _, _, _ => h.elim
 | _ :: _, [], h, _, _, _ => h.elim
theorem mJ.akX : ∀ {l r : List PV}, mJ l r → ∀ {j : Nat} {a : PV}, l[j]? = some a → ∃ b, r[j]? = some b ∧ Iv a b
 | [], [], _, j, b, hj => by simp at hj
 | a :: l, c :: r, h, 0, b, hj => by simp at hj; subst hj; exact ⟨c, rfl, h.1⟩
 | a :: l, c :: r, h, j + 1, b, hj => by
  obtain ⟨x, q1, q2⟩ := mJ.akX h.2 (j := j) avr
  exact ⟨x, by simpa using q1, q2⟩
 | [], _ :: _, h, _, _, _ => h.elim
 | _ :: _, [], h, _, _, _ => h.elim
theorem Iv.abg {a b : PV} (h : Iv a b) {μ : Mu} {l : List ar} {S : Nat → Prop} {w : World} {v : Value} (hr : bq μ l S w a v) : bq μ l S w b v := by
 cases h with
 | same => exact hr
 | nil sz f =>
  have hr : aF S w .bm v := hr
  cases hr
  exact aF.mr _ _ _ _
 | GS sz e f => exact bq.one hr
def OEq : ar → ar → Prop
 | .row g sz n e f, .row g' bx n' e' f' => g = g' ∧ sz = bx ∧ n = n' ∧ e = e' ∧ ∀ i, i < n → mJ (f i) (f' i)
 | .dead, .dead => True
 | _, _ => False
def cW : List ar → List ar → Prop
 | [], [] => True
 | o :: l, o' :: l' => OEq o o' ∧ cW l l'
 | _, _ => False
theorem cW.len : ∀ {l l' : List ar}, cW l l' → l.length = l'.length
 | [], [], _ => rfl
 | o :: l, o' :: l', h => by simp [cW.len h.2]
 | [], _ :: _, h => h.elim
 | _ :: _, [], h => h.elim
theorem cW.get : ∀ {l l' : List ar}, cW l l' → ∀ {j : Nat} {g sz n : Nat} {e : TypeId} {f : Nat → List PV}, l[j]? = some (ar.row g sz n e f) → ∃ f', l'[j]? = some (ar.row g sz n e f') ∧ ∀ i, i < n → mJ (f i) (f' i)
 | o :: l, o' :: l', h, 0, g, sz, n, e, f, hj => by
  simp at hj
  subst hj
  cases o' with
  | dead => exact h.1.elim
  | row g' bx n' e' f' =>
   obtain ⟨rfl, rfl, rfl, rfl, hf⟩ := h.1
   exact ⟨f', rfl, hf⟩
 | o :: l, o' :: l', h, j + 1, g, sz, n, e, f, hj => by
  simp at hj
  obtain ⟨f', h1, h2⟩ := cW.get h.2 hj
  exact ⟨f', by simpa using h1, h2⟩
 | [], [], _, _, _, _, _, _, _, hj => by simp at hj
 | [], _ :: _, h, _, _, _, _, _, _, _ => h.elim
 | _ :: _, [], h, _, _, _, _, _, _, _ => h.elim
theorem cW.GU : ∀ {l l' : List ar}, cW l l' → ∀ {j : Nat} {g sz n : Nat} {e : TypeId} {f' : Nat → List PV}, l'[j]? = some (ar.row g sz n e f') → ∃ f, l[j]? = some (ar.row g sz n e f) ∧ ∀ i, i < n → mJ (f i) (f' i)
 | o :: l, o' :: l', h, 0, g, sz, n, e, f', hj => by
  simp at hj
  subst hj
  cases o with
  | dead => exact h.1.elim
  | row g' bx n' e' f =>
   obtain ⟨rfl, rfl, rfl, rfl, hf⟩ := h.1
   exact ⟨f, rfl, hf⟩
 | o :: l, o' :: l', h, j + 1, g, sz, n, e, f', hj => by
  simp at hj
  obtain ⟨f, h1, h2⟩ := cW.GU h.2 hj
  exact ⟨f, by simpa using h1, h2⟩
 | [], [], _, _, _, _, _, _, _, hj => by simp at hj
 | [], _ :: _, h, _, _, _, _, _, _, _ => h.elim
 | _ :: _, [], h, _, _, _, _, _, _, _ => h.elim
theorem cW.getD : ∀ {l l' : List ar}, cW l l' → ∀ {j : Nat}, l[j]? = some ar.dead → l'[j]? = some ar.dead
 | o :: l, o' :: l', h, 0, hj => by
  simp at hj
  subst hj
  cases o' with
  | dead => rfl
  | row g' bx n' e' f' => exact h.1.elim
 | o :: l, o' :: l', h, j + 1, hj => by
  simp at hj
  simpa using cW.getD h.2 hj
 | [], [], _, _, hj => by simp at hj
 | [], _ :: _, h, _, _ => h.elim
 | _ :: _, [], h, _, _ => h.elim
theorem cW.Qv {l l' : List ar} (h : cW l l') {id i j b : Nat} (ho : cH l' id i j b) : cH l id i j b := by
 obtain ⟨g, sz, n, e, f', bx, n', e', f2, F', q1, q2, q3, q4⟩ := ho
 obtain ⟨f, r1, r2⟩ := h.GU q1
 obtain ⟨a, ha, hle⟩ := (r2 i q2).get q3
 cases hle with
 | same => exact ⟨_, _, _, _, _, _, _, _, _, _, r1, q2, ha, q4⟩
 | GS => exact q4.elim
theorem cW.akY {l l' : List ar} (h : cW l l') {μ : Mu} {b : Nat} (ho : yk μ l' b) : yk μ l b := by
 obtain ⟨id, g, sz, n, e, f, base, h1, h2⟩ := ho
 obtain ⟨f', h3, _⟩ := h.GU h1
 exact ⟨id, g, sz, n, e, f', base, h3, h2⟩
theorem cW.tZ {l l' : List ar} (h : cW l l') {μ : Mu} {b : Nat} (ho : bP μ l' b) : bP μ l b := by
 rcases ho with ho | ⟨id, i, j, ho⟩
 ·exact .inl (h.akY ho)
 ·exact .inr ⟨id, i, j, h.Qv ho⟩
theorem cW.hid {l l' : List ar} (h : cW l l') {id i j b : Nat} (ho : cH l id i j b) : cH l' id i j b := by
 obtain ⟨g, sz, n, e, f, bx, n', e', f2, F', q1, q2, q3, q4⟩ := ho
 obtain ⟨f', r1, r2⟩ := h.get q1
 obtain ⟨c, hc, hle⟩ := (r2 i q2).akX q3
 cases hle
 exact ⟨_, _, _, _, _, _, _, _, _, _, r1, q2, hc, q4⟩
theorem cW.owned {l l' : List ar} (h : cW l l') {μ : Mu} {b : Nat} (ho : bP μ l b) : bP μ l' b := by
 rcases ho with ⟨id, g, sz, n, e, f, base, h1, h2⟩ | ⟨x, y, z, ho⟩
 ·obtain ⟨f', h3, _⟩ := h.get h1
  exact .inl ⟨id, g, sz, n, e, f', base, h3, h2⟩
 ·exact .inr ⟨_, _, _, h.hid ho⟩
theorem cW.own {l l' : List ar} (h : cW l l') {μ : Mu} {w : World} {id gen off len : Nat} {v : Value} (hr : aW μ l w id gen off len v) : aW μ l' w id gen off len v := by
 unfold aW at *
 refine ⟨hr.1, ?_⟩
 have hr := hr.2
 cases ho : l[id]? with
 | none => rw [ho] at hr; exact hr.elim
 | some o =>
  cases o with
  | dead => rw [h.getD ho]; trivial
  | row g sz n e f =>
   obtain ⟨f', h1, _⟩ := h.get ho
   rw [ho] at hr
   rw [h1]
   exact hr
theorem cW.aL {l l' : List ar} (h : cW l l') {μ : Mu} {id gen i off : Nat} {v : Value} {w : World} (hr : ba μ l w id gen i off v) : ba μ l' w id gen i off v := by
 unfold ba at *
 refine ⟨hr.1, ?_⟩
 have hr := hr.2
 cases ho : l[id]? with
 | none => rw [ho] at hr; exact hr.elim
 | some o =>
  cases o with
  | dead => rw [h.getD ho]; trivial
  | row g sz n e f =>
   obtain ⟨f', h1, _⟩ := h.get ho
   rw [ho] at hr
   rw [h1]
   exact hr
theorem Iv.Qw {a b : PV} (h : Iv a b) (ha : iM a = true) : b = a := by
 cases h with
 | same => rfl
 | _ => cases ha
theorem mJ.Qw {kp vp : PV} {l : List PV} (h : mJ [kp, vp] l) (h1 : iM kp = true) (h2 : iM vp = true) : l = [kp, vp] := by
 rcases l with _ | ⟨a, _ | ⟨b, _ | ⟨c, l⟩⟩⟩
 ·exact h.elim
 ·exact h.2.elim
 ·rw [h.1.Qw h1, h.2.1.Qw h2]
 ·exact h.2.2.elim
theorem cW.lj {l l' : List ar} (h : cW l l') {μ : Mu} {w : World} {id : Nat} {v : Value} (hr : eH μ l w id v) : eH μ l' w id v := by
 unfold eH at *
 refine ⟨hr.1, ?_⟩
 have hr := hr.2
 cases ho : l[id]? with
 | none => rw [ho] at hr; exact hr.elim
 | some o =>
  cases o with
  | dead => rw [h.getD ho]; trivial
  | row g sz n e f =>
   obtain ⟨f', h1, _⟩ := h.get ho
   rw [ho] at hr
   rw [h1]
   exact hr
theorem cW.lv {l l' : List ar} (h : cW l l') {μ : Mu} {w : World} {f : Nat} {bs : List (Nat × Nat)} {v : Value} (hr : lC μ l w f bs v) : lC μ l' w f bs v := oQ.mono hr (fun id g u hu => h.aL hu)
theorem cW.abg {l l' : List ar} (h : cW l l') {μ : Mu} {S : Nat → Prop} {w : World} {pv : PV} {v : Value} (hr : bq μ l S w pv v) : bq μ l' S w pv v := by
 cases pv with
 | own id gen off len => exact h.own hr
 | aL id gen i off => exact h.aL hr
 | lj id => exact h.lj hr
 | lv f bs => exact h.lv hr
 | _ => exact hr
theorem cW.abh {l l' : List ar} (h : cW l l') {μ : Mu} {S : Nat → Prop} {w : World} {pv : PV} {v : Value} (hr : lz μ l S w pv v) : lz μ l' S w pv v := by
 cases pv with
 | fJ sz n e f F => exact hr
 | _ => exact bq.k (h.abg (lz.c hr)) rfl
theorem Iv.abh {a b : PV} (h : Iv a b) {μ : Mu} {l : List ar} {S : Nat → Prop} {w : World} {v : Value} (hr : lz μ l S w a v) : lz μ l S w b v := by
 cases h with
 | same => exact hr
 | nil sz f =>
  have hr : aF S w .bm v := hr
  cases hr
  exact aF.mr _ _ _ _
 | GS sz e f =>
  have hr : aF S w .bm v := hr
  cases hr
  exact jZ.nil _ _ _ _ (fun _ h => h)
theorem cW.GR {l l' : List ar} (h : cW l l') {μ : Mu} {S : Nat → Prop} {w : World} {pv : PV} {v : Value} (hr : gJ μ l S w pv v) : gJ μ l' S w pv v := by
 cases pv with
 | own id gen off len => exact h.own hr
 | aL id gen i off => exact h.aL hr
 | lj id => exact h.lj hr
 | lv f bs => exact h.lv hr
 | agg cs =>
  obtain ⟨vs, h1, h2, h3⟩ := hr
  exact ⟨vs, h1, h2, fun j pv hj => by obtain ⟨u, hu, hc⟩ := h3 j pv hj; exact ⟨u, hu, h.abg hc⟩⟩
 | _ => exact hr
theorem cW.refl : ∀ (l : List ar), cW l l
 | [] => trivial
 | .row g sz n e f :: l => ⟨⟨rfl, rfl, rfl, rfl, fun _ _ => mJ.refl _⟩, cW.refl l⟩
 | .dead :: l => ⟨trivial, cW.refl l⟩
theorem cW.set : ∀ (l : List ar) (id g sz n : Nat) (e : TypeId) (f f' : Nat → List PV), (∀ i, i < n → mJ (f i) (f' i)) → cW (l.set id (.row g sz n e f)) (l.set id (.row g sz n e f'))
 | [], _, _, _, _, _, _, _, _ => trivial
 | o :: l, 0, g, sz, n, e, f, f', hf => ⟨⟨rfl, rfl, rfl, rfl, hf⟩, cW.refl l⟩
 | o :: l, id + 1, g, sz, n, e, f, f', hf => ⟨by cases o; exact ⟨rfl, rfl, rfl, rfl, fun _ _ => mJ.refl _⟩; exact trivial, cW.set l id g sz n e f f' hf⟩
theorem cW.snoc : ∀ (l : List ar) (g sz n : Nat) (e : TypeId) (f f' : Nat → List PV), (∀ i, i < n → mJ (f i) (f' i)) → cW (l ++ [.row g sz n e f]) (l ++ [.row g sz n e f'])
 | [], g, sz, n, e, f, f', hf => ⟨⟨rfl, rfl, rfl, rfl, hf⟩, trivial⟩
 | o :: l, g, sz, n, e, f, f', hf => ⟨by cases o; exact ⟨rfl, rfl, rfl, rfl, fun _ _ => mJ.refl _⟩; exact trivial, cW.snoc l g sz n e f f' hf⟩
theorem cW.aqQ {l l' : List ar} (h : cW l l') {μ : Mu} {S : Nat → Prop} {w : World} {pv : PV} {v : Value} (hr : aZ μ l S w pv v) : aZ μ l' S w pv v := by
 cases pv with
 | aV ps =>
  obtain ⟨vs, h1, h2, h3⟩ := hr
  exact ⟨vs, h1, h2, fun j pv hj => by obtain ⟨u, hu, hc⟩ := h3 j pv hj; exact ⟨u, hu, h.GR hc⟩⟩
 | own id gen off len => exact h.own hr
 | aL id gen i off => exact h.aL hr
 | lj id => exact h.lj hr
 | lv f bs => exact h.lv hr
 | agg cs => exact h.GR (pv := .agg cs) hr
 | _ => exact hr
theorem cW.core {l l' : List ar} (he : cW l l') {μ : Mu} {S : Nat → Prop} {w : World} (hc : Core μ l S w) : Core μ l' S w := by
 refine ⟨fun id g sz n e f hid => ?_, ⟨fun b hb => hc.ok.apart b (he.tZ hb), fun b hb => hc.ok.lt b (he.tZ hb), hc.ok.slt, fun i j g sz n e f g' bx n' e' f' b o o' hi hj h1 h3 => ?_, hc.ok.known, fun b hb id i j hx => hc.ok.hv b (he.akY hb) id i j (he.Qv hx), fun b _ _ _ _ _ _ hx hy => hc.ok.hh b _ _ _ _ _ _ (he.Qv hx) (he.Qv hy)⟩⟩
 ·obtain ⟨f', h1, h3⟩ := he.GU hid
  obtain ⟨q1, q2⟩ := hc.heap id g sz n e f' h1
  refine ⟨fun i hi => by rw [(h3 i hi).len]; exact q1 i hi, ?_⟩
  cases hm : μ id with
  | none => rw [hm] at q2; exact q2
  | some p =>
   obtain ⟨b, base⟩ := p
   rw [hm] at q2
   obtain ⟨o, r1, r2⟩ := q2
   refine ⟨o, r1, ?_⟩
   cases o with
   | cells cur e' z =>
    obtain ⟨r2, r3, r4, r5⟩ := r2
    refine ⟨r2, r3, r4, fun i j pv hi hj => ?_⟩
    obtain ⟨a, ha, hle⟩ := (h3 i hi).get hj
    obtain ⟨v, hv, VC⟩ := r5 i j a hi ha
    exact ⟨v, hv, he.abh (hle.abh VC)⟩
   | map es c =>
    obtain ⟨r2, r3⟩ := r2
    refine ⟨r2, fun i hi => ?_⟩
    obtain ⟨kp, vp, en, s1, s2, s3, s4⟩ := r3 i hi
    have hle := h3 i hi
    rw [s1] at hle
    exact ⟨kp, vp, en, hle.Qw s2 s3, s2, s3, s4⟩
   | _ => exact r2.elim
 ·obtain ⟨fi, q1, _⟩ := he.GU hi
  obtain ⟨fj, q2, _⟩ := he.GU hj
  exact hc.ok.inj i j g sz n e fi g' bx n' e' fj b o o' q1 q2 h1 h3
theorem cW.fr {l l' : List ar} (he : cW l l') {μ0 μ : Mu} {h0 : List ar} {S0 S : Nat → Prop} {w0 w : World} (hF : Fr μ0 h0 S0 w0 μ l S w) : Fr μ0 h0 S0 w0 μ l' S w := by
 refine ⟨by rw [← he.len]; exact hF.len, hF.blocks, hF.sub, hF.new, fun b hb => hF.own b (he.tZ hb), hF.size, hF.os, hF.tape, hF.output, fun id g sz n e f hid => ?_, fun id hid => he.getD (hF.dead id hid), hF.bs, fun id g sz n e f b base hj hm lx => ?_, hF.qE⟩
 rotate_left
 ·obtain ⟨r1, r2⟩ := hF.maps id g sz n e f b base hj hm lx
  refine ⟨r1, ?_⟩
  rcases r2 with r2 | ⟨⟨g', bx, n', e', f', r2⟩, r3⟩
  ·exact .inl (he.getD r2)
  ·obtain ⟨f2, h1, _⟩ := he.get r2
   exact .inr ⟨⟨_, _, _, _, _, h1⟩, r3⟩
 have hg := hF.xe id g sz n e f hid
 cases ho : l[id]? with
 | none => rw [ho] at hg; exact hg.elim
 | some o =>
  cases o with
  | dead => rw [he.getD ho]; trivial
  | row g' bx n' e' f' =>
   obtain ⟨f2, h1, _⟩ := he.get ho
   rw [ho] at hg
   rw [h1]
   exact hg
section
variable {P : Program} {T : lO} {μ : Mu} {h : List ar} {S : Nat → Prop} {w : World}
def eU (P : Program) (o : Oper) (a : Act) (μ : Mu) (h : List ar) (S : Nat → Prop) (w : World) (K : PV → List ar → Prop) : Prop :=
 ∀ (next : Act → World → Prop) (Q : Exit → Act → World → Prop),
  (∀ v val h' μ' S' w', K v h' → aZ μ' h' S' w' v val → Core μ' h' S' w' → Fr μ h S w μ' h' S' w' → next (a.put o.dst val) w') → o.wp P a w next Q
theorem eU.rows {o : Oper} {a : Act} {K : PV → List ar → Prop} (hA : eU P o a μ h S w (fun v h1 => ∃ h2, cW h1 h2 ∧ K v h2)) : eU P o a μ h S w K := by
 intro next Q hn
 refine hA next Q fun v val h' μ' S' w' ⟨h2, he, hK⟩ hv hc hf => ?_
 exact hn v val h2 μ' S' w' hK (he.aqQ hv) (he.core hc) (he.fr hf)
theorem eU.nG {o : Oper} {a : Act} {K : PV → List ar → Prop} (hc : Core μ h S w) (hs : cC P o a μ h S w (fun v => K v h)) : eU P o a μ h S w K := by
 obtain ⟨v, val, hK, hv, hr⟩ := hs
 intro next Q hn
 unfold Oper.wp
 rw [hr w (bK.refl w)]
 exact hn v val h μ S w hK hv hc Fr.refl
theorem eU.gW {o : Oper} {a : Act} {K : PV → List ar → Prop} {v : PV} {val : Value} {h' : List ar} {μ' : Mu} {S' : Nat → Prop} {w' : World} (hr : (execOp a.eval o).run P w = .ok (.value val) w') (hK : K v h') (hv : aZ μ' h' S' w' v val)
  (hc : Core μ' h' S' w') (hf : Fr μ h S w μ' h' S' w') : eU P o a μ h S w K := by
 intro next Q hn
 unfold Oper.wp
 rw [hr]
 exact hn v val h' μ' S' w' hK hv hc hf
theorem eU.FE {o : Oper} {a : Act} {K : PV → List ar → Prop} {h' : List ar} {μ' : Mu} {S' : Nat → Prop} {w' : World} (hr : (execOp a.eval o).run P w = .ok .skip w') (hK : K .gv h')
  (hc : Core μ' h' S' w') (hf : Fr μ h S w μ' h' S' w') : eU P o a μ h S w K := by
 intro next Q hn
 unfold Oper.wp
 rw [hr]
 exact hn .gv undef h' μ' S' w' hK trivial hc hf
theorem Qx (hT : cn P T) {t : Nat} {n : Nat} (hn : jE (T.get t) = n) (yg : 0 < n) : ∃ i, P.info? t = some i ∧ i.size = n := by
 cases eZ : T.get t with
 | struct sz fl z =>
  obtain ⟨fs, i, _, hi, fQ, _⟩ := hT.struct _ _ _ _ eZ
  rw [eZ] at hn
  exact ⟨i, hi, fQ.trans hn⟩
 | other => rw [eZ] at hn; simp [jE] at hn; omega
 | _ =>
  rw [eZ] at hn
  have h1 : n = 1 := hn.symm
  subst h1
  refine hT.one t ?_ ?_
  ·rw [eZ]; rfl
  ·intro sz fl z hh; rw [eZ] at hh; cases hh
variable {a : Act} {env : Env} {K : PV → List ar → Prop} {dst : Option Tmp} {ty : TypeId} {pos : String} {after : Array Edge} {guard : Option (Nat × Bool)}
theorem ru (cur vs : List Value) (o q : Nat) (hl : o + vs.length ≤ cur.length) :
  (cur.take o ++ vs ++ cur.drop (o + vs.length))[q]? = if o ≤ q ∧ q < o + vs.length then vs[q - o]? else cur[q]? := by
 have h1 : (cur.take o).length = o := by simp; omega
 by_cases ha : q < o
 ·rw [if_neg avh, No, ata avh, atW, if_pos ha]
 ·by_cases hb : q < o + vs.length
  ·rw [if_pos ⟨by omega, hb⟩, ata avm, asU avh, h1]
  ·rw [if_neg avh, asU avm, atA]
   congr 1
   simp
   omega
theorem CA (hT : cn P T) (hc : Core μ h S w) (ht : ∀ t, aZ μ h S w (env t) (a.tmps.getD t undef)) (t : Nat) (ad x : Operand) (hp : pop P T (.store t ad x) env h K) :
  eU P ⟨dst, .store t ad x, ty, pos, after, guard⟩ a μ h S w K := by
 have hx := bp ht x
 have sS := bp ht ad
 simp only [pop] at hp
 split at hp
 ·rename_i id gen i off hea
  rw [hea] at sS
  split at hp
  ·rename_i g sz n e f hg
   obtain ⟨rfl, hp⟩ := hp
   replace hp := aU (bw hp)
   obtain ⟨mG, hK⟩ := hp
   simp only [As] at mG
   obtain ⟨⟨⟨rP, yg⟩, hty⟩, hle⟩ := mG
   have yg := asW yg
   have hty := Of hty
   have hle := asW hle
   have hh := dQ hg
   have hr := sS.pF
   unfold ba at hr
   rw [hh] at hr
   obtain ⟨_, _, hr⟩ := hr
   obtain ⟨Qq, b, base, eg, DU, hav⟩ := hr rfl
   obtain ⟨hl, jq⟩ := hc.heap id g sz n e f hh
   rw [eg] at jq
   obtain ⟨cur, jL, ny, aJ⟩ := bA.cells DU.1 jq
   obtain ⟨hvl, hvc⟩ := kH rP hx
   have hso : ∀ (j : Nat) (pv : PV), (cellsOf (ev env x))[j]? = some pv → eL pv = false := fun j pv hj => DW rP hj
   generalize O1 : cellsOf (ev env x) = cs at *
   generalize VD : (a.eval x).cells.toList = vs at *
   have yg : 0 < cs.length := by omega
   obtain ⟨inf, kh, mu⟩ := Qx hT hty yg
   have hmul : (i + 1) * sz ≤ n * sz := asQ _ Qq
   rw [asX] at hmul
   have jN : (storeCells ⟨b, base + i * sz + off, none⟩ vs 0).run P w = .ok () (w.setRow b (cur.toList.take (base + i * sz + off + 0) ++ vs ++ cur.toList.drop (base + i * sz + off + 0 + vs.length)).toArray) :=
    run_storeCells_at P b (base + i * sz + off) e vs 0 cur w jL avh (fun v hv => by
     obtain ⟨j, hj, rfl⟩ := atD.1 hv
     have GV : j < cs.length := by omega
     obtain ⟨u, hu, hr⟩ := hvc j cs[j] (amb GV)
     rw [amb hj] at hu
     injection hu with hu
     rw [hu]
     exact hr.one)
   rw [aty] at jN
   have FF : ∀ k, (ua f i (gL (f i) off cs) k) = if k = i then gL (f i) off cs else f k := fun k => by
    unfold ua
    by_cases hk : k = i
    ·subst hk; simp
    ·have : Nat.beq k i = false := by
      cases hb : Nat.beq k i with
      | true => exact (hk (Of hb)).elim
      | false => rfl
     simp [this, hk]
   have me := nx (w1 := w.setRow b (cur.toList.take (base + i * sz + off) ++ vs ++ cur.toList.drop (base + i * sz + off + vs.length)).toArray) hc id g g sz n n e f (ua f i (gL (f i) off cs)) hh b base
    (cur.toList.take (base + i * sz + off) ++ vs ++ cur.toList.drop (base + i * sz + off + vs.length)).toArray (asA _) (fun _ => ⟨eg, rfl⟩)
    (.inr ⟨base, cur, eg, jL, by simp; omega⟩) (setRow_heap w b cur _ e _ jL) avm
    (fun b' _ nS => setRow_other w b b' _ nS) avj rfl rfl rfl
    (fun k hk => by
     rw [FF]
     split
     ·rename_i tW; subst tW; rw [kG]; exact hl _ hk
     ·exact hl k hk)
    (fun b' j6 uJ => by rw [eg] at uJ; injection uJ with uJ; injection uJ with h1 _; subst h1; exact DU.1.rk)
    (fun k j pv hk hj => by
     have B3 : j < sz := by
      have h1 := (At.1 hj).1
      rw [FF] at h1
      split at h1
      ·rw [kG, hl i Qq] at h1; exact h1
      ·rw [hl k hk] at h1; exact h1
     have Qy : (cur.toList.take (base + i * sz + off) ++ vs ++ cur.toList.drop (base + i * sz + off + vs.length)).toArray[base + k * sz + j]? = if base + i * sz + off ≤ base + k * sz + j ∧ base + k * sz + j < base + i * sz + off + vs.length then vs[base + k * sz + j - (base + i * sz + off)]? else cur[base + k * sz + j]? := by
      have hsp := ru cur.toList vs (base + i * sz + off) (base + k * sz + j) avm
      rw [aue, hsp]
      simp only [asV]
     rw [Qy]
     rw [FF] at hj
     by_cases tW : k = i
     ·subst tW
      rw [if_pos rfl, mF cs (f k) off j (by rw [hl k hk]; exact hle)] at hj
      by_cases hr : off ≤ j ∧ j < off + cs.length
      ·rw [if_pos hr] at hj
       rw [if_pos avh]
       obtain ⟨u, hu, kV⟩ := hvc _ _ hj
       exact ⟨u, by rw [← hu]; congr 1; omega, kV.k (hso _ _ hj)⟩
      ·rw [if_neg hr] at hj
       rw [if_neg avh]
       exact aJ k j pv hk hj
     ·rw [if_neg tW] at hj
      have Me : ¬ (base + i * sz + off ≤ base + k * sz + j ∧ base + k * sz + j < base + i * sz + off + vs.length) := by
       rcases Nat.lt_or_gt_of_ne tW with cM | yX
       ·have : (k + 1) * sz ≤ i * sz := asQ _ cM
        rw [asX] at this
        omega
       ·have : (i + 1) * sz ≤ k * sz := asQ _ yX
        rw [asX] at this
        omega
      rw [if_neg Me]
      exact aJ k j pv hk hj) 0 (fun k j bx n' e' f' F' hk hj => by
    rw [asN]
    refine ⟨hk, ?_⟩
    rw [FF] at hj
    by_cases tW : k = i
    ·subst tW
     rw [if_pos rfl, mF cs (f k) off j (by rw [hl k hk]; exact hle)] at hj
     by_cases hr : off ≤ j ∧ j < off + cs.length
     ·rw [if_pos hr] at hj
      have := hso _ _ hj
      cases this
     ·rw [if_neg hr] at hj; exact hj
    ·rw [if_neg tW] at hj; exact hj)
   obtain ⟨jC, nz⟩ := me
   obtain ⟨_, f', rfl, oY, hK⟩ := hK
   refine eU.rows (eU.FE ?_ ⟨_, cW.set _ _ _ _ _ _ _ _ oY, hK⟩ nz jC)
   have e1 : (execOp a.eval ⟨dst, .store t ad x, ty, pos, after, guard⟩) = (do Instr.storeAt t (a.eval ad) (a.eval x); pure .skip : Sem Next) := rfl
   rw [e1, hav]
   have fQ : ¬ (a.eval x).cells.size ≠ inf.size := by
    rw [mu]
    simp only [ne_eq, Decidable.not_not]
    rw [← hvl, ← VD]
    simp
   simp only [Instr.storeAt, Instr.sureAddr, storeVar, Sem.run_bind, Sem.run_pure, Result.andThen, jR kh, if_neg fQ, VD, jN]
  ·exact auJ
 ·exact auJ
theorem yl (z : Array Value) (n q : Nat) (hq : q < n) (hz : 0 < z.size) : (madeCells z n)[q]? = z[q % z.size]? := by
 have h1 : q % z.size < z.size := Nat.mod_lt _ hz
 simp [madeCells, hq, h1]
theorem Qz (i j sz : Nat) (hj : j < sz) : (i * sz + j) % sz = j := by
 rw [Nat.mul_comm, Nat.mul_add_mod]; exact Nat.mod_eq_of_lt hj
theorem j9 (w : World) (o : Obj) : bK w (w.alloc o) :=
 ⟨fun b hb => Below.heap_alloc w o b hb, by simp, rfl, rfl, rfl⟩
theorem D0 (hT : cn P T) (hc : Core μ h S w) (ht : ∀ t, aZ μ h S w (env t) (a.tmps.getD t undef)) (t : Nat) (l c : Operand) (hp : pop P T (.makeSlice t l c) env h K) :
  eU P ⟨dst, .makeSlice t l c, ty, pos, after, guard⟩ a μ h S w K := by
 have hl := bp ht l
 have dZ := bp ht c
 simp only [pop] at hp
 split at hp
 ·rename_i e sz bytes zero k n k' m eZ hel hec
  rw [hel] at hl
  rw [hec] at dZ
  obtain ⟨⟨h0, h1, h2, h3⟩, _, f', rfl, oY, hK⟩ := hp
  obtain ⟨hu, fQ, inf, zv, kh, mu, VF, hz, O5, O6, Mb⟩ := hT.slice _ _ _ _ _ eZ
  subst mu VF
  have hm : (inf.bytes : Int) * m ≤ 281474976710656 := by
   have e1 : (m.toNat : Int) = m := Int.toNat_of_nonneg avh
   have e2 : ((m.toNat * inf.bytes : Nat) : Int) ≤ 140737488355328 := by omega
   rw [Int.natCast_mul, e1, Int.mul_comm] at e2
   omega
  have jN := run_make (P := P) w t e inf zv hu kh hz k k' n m h0 h1 hm avh
  have me := lW (w1 := w.alloc (.cells (madeCells zv.cells (m.toNat * inf.size)) e)) hc inf.size n.toNat e (fun _ => zero) (some (w.heap.size, 0))
   ⟨asA _, _, heap_alloc_new w _, by
    rw [size_madeCells, asN]
    exact asQ _ avh, fun i j pv hi hj => by
    have B3 : j < inf.size := by rw [← O6]; exact (At.1 hj).1
    have cM : 0 + i * inf.size + j < m.toNat * inf.size := by
     have : (i + 1) * inf.size ≤ m.toNat * inf.size := asQ _ avh
     rw [asX] at this
     omega
    rw [yl _ _ _ cM avh, asN, O5, Qz i j _ B3]
    have It : j < zv.cells.size := by omega
    obtain ⟨ew, h5, _, h6⟩ := Mb j zv.cells[j] (asT It)
    rw [hj] at h5
    injection h5 with h5
    subst h5
    exact ⟨_, asT It, bq.jy (h6 S w)⟩⟩ (j9 w _) (fun i hi => O6) (fun i j pv _ hj => by
  have It : j < zv.cells.size := by have := (At.1 hj).1; omega
  obtain ⟨ew, h5, _, h6⟩ := Mb j zv.cells[j] (asT It)
  rw [hj] at h5; injection h5 with h5; rw [h5]; exact aF.no (h6 S w))
  obtain ⟨jC, nz⟩ := me
  refine eU.rows (eU.gW (cb rfl (by rw [hl.jA, dZ.jA]; exact jN)) ⟨_, cW.snoc _ _ _ _ _ _ _ oY, hK⟩ ?_ nz jC)
  show aW _ _ _ _ _ _ _ _
  unfold aW
  rw [asU (asA _), atz]
  refine ⟨⟨_, _, _, rfl⟩, asA _, fun _ => ⟨by omega, ?_⟩⟩
  rw [bn]
  refine ⟨_, m.toNat, rfl, by omega, fun _ => by simp, _, e, _, heap_alloc_new w _, ?_⟩
  rw [size_madeCells]
  simp
 ·exact auJ
theorem CB (sz len : Nat) (place : Nat → Option (Nat × Nat)) (Mg : ∀ i, place i = some (i * sz, sz)) : ∀ (l : List (Nat × Operand)) (ρ : Operand → Value) (k : Nat) (cells : Array Value), uQ len k l = true → cells.size = len * sz →
  (∀ p ∈ l, (ρ p.2).cells.size = sz) →
  ∃ gV, Instr.fill place cells (l.map fun p => (p.1, ρ p.2)) = some gV ∧ gV.size = len * sz ∧ (∀ q, q < k * sz → gV[q]? = cells[q]?) ∧
   ∀ (i j : Nat) (p : Nat × Operand), l[i]? = some p → j < sz → gV[(k + i) * sz + j]? = (ρ p.2).cells[j]?
 | [], ρ, k, cells, hi, hs, _ => ⟨cells, rfl, hs, fun _ _ => rfl, fun i j p hp => by simp at hp⟩
 | (i0, x) :: r, ρ, k, cells, hi, hs, hv => by
  simp only [uQ, As] at hi
  have hik := Of hi.1
  subst hik
  have hlen : ∀ (l : List (Nat × Operand)) (k : Nat), uQ len k l = true → k ≤ len := by
   intro l
   induction l with
   | nil => intro k h; exact Nat.le_of_eq (Of h)
   | cons p l ih =>
    intro k h
    obtain ⟨a, b⟩ := p
    simp only [uQ, As] at h
    have := ih (k + 1) h.2
    omega
  have hk := hlen r (i0 + 1) hi.2
  have hvx := hv (i0, x) avj
  have sX : (i0 + 1) * sz ≤ len * sz := asQ _ hk
  have abi := sX
  rw [asX] at abi
  obtain ⟨g1, g2⟩ := oJ (ρ x) (i0 * sz) cells (by rw [hvx]; omega)
  obtain ⟨gV, h1, h2, h3, h4⟩ := CB sz len place Mg r ρ (i0 + 1) _ hi.2 (g1.trans hs) (fun p hp => hv p (by simp [hp]))
  refine ⟨gV, ?_, h2, fun q hq => ?_, fun i j p hp hj => ?_⟩
  ·simp only [adr, Instr.fill, Mg]
   rw [if_neg (by simp only [hvx, ne_eq, not_true_eq_false, false_or]; simp only [atg, decide_eq_true_eq, not_or]; simp; omega)]
   exact h1
  ·rw [h3 q (by rw [asX]; omega), g2 q, if_neg avh]
  ·cases i with
   | zero =>
    simp at hp
    subst hp
    rw [aty, h3 _ (by rw [asX]; omega), g2, hvx, if_pos avh]
    congr 1
    omega
   | succ i =>
    simp at hp
    have := h4 i j p hp hj
    rw [show i0 + 1 + i = i0 + (i + 1) from by omega] at this
    exact this
theorem ub (hT : cn P T) (hc : Core μ h S w) (ht : ∀ t, aZ μ h S w (env t) (a.tmps.getD t undef)) (t len : Nat) (parts : Array (Nat × Operand)) (hp : pop P T (.buildSlice t len parts) env h K) :
  eU P ⟨dst, .buildSlice t len parts, ty, pos, after, guard⟩ a μ h S w K := by
 simp only [pop] at hp
 split at hp
 ·rename_i e sz bytes zero eZ
  replace hp := aU hp
  obtain ⟨mG, hK⟩ := hp
  obtain ⟨hu, fQ, inf, zv, kh, mu, VF, hz, O5, O6, Mb⟩ := hT.slice _ _ _ _ _ eZ
  subst mu
  simp only [As] at mG
  obtain ⟨Qy, hle⟩ := mG
  have hle := asW hle
  obtain ⟨lk, hK⟩ := uR _ _ hK
  simp only [auk, are] at hK
  have jq : ∀ p ∈ parts.toList, (a.eval p.2).cells.size = inf.size ∧ (cellsOf (ev env p.2)).length = inf.size ∧
    ∀ (j : Nat) (q : PV), (cellsOf (ev env p.2))[j]? = some q → ∃ u, (a.eval p.2).cells[j]? = some u ∧ bq μ h S w q u := fun p hp => by
   obtain ⟨h1, h2⟩ := lk p hp
   have h2 := Of h2
   obtain ⟨h3, h4⟩ := kH h1 (bp ht p.2)
   simp only [ats, asV] at h3 h4
   exact ⟨h3.trans h2, h2, h4⟩
  obtain ⟨gV, f1, f2, _, f4⟩ := CB inf.size len (fun i => some (i * inf.size, inf.size)) (fun _ => rfl) parts.toList a.eval 0
   ((Array.range (len * inf.size)).map (fun q => (if len * inf.size = 0 then #[] else zv.cells)[q % (if len * inf.size = 0 then #[] else zv.cells).size]!)) Qy avj (fun p hp => (jq p hp).1)
  have hlen : parts.toList.length = len := by
   have key : ∀ (l : List (Nat × Operand)) (k : Nat), uQ len k l = true → k + l.length = len := by
    intro l
    induction l with
    | nil => intro k hh; exact Of hh
    | cons p l ih =>
     intro k hh
     obtain ⟨x, y⟩ := p
     simp only [uQ, As] at hh
     have := ih (k + 1) hh.2
     simp only [an]
     omega
   have := key parts.toList 0 Qy
   omega
  have bV : ∀ i, i < len → ∃ p, parts.toList[i]? = some p ∧ p ∈ parts.toList ∧ (parts.toList.map fun p => cellsOf (ev env p.2)).getD i [] = cellsOf (ev env p.2) := fun i hi => by
   have GW : i < parts.toList.length := by omega
   refine ⟨parts.toList[i], amb GW, asK GW, ?_⟩
   rw [asM, asS, amb GW]
   rfl
  have me := lW (w1 := w.alloc (.cells gV e)) hc inf.size len e (fun k => (parts.toList.map fun p => cellsOf (ev env p.2)).getD k []) (some (w.heap.size, 0))
   ⟨asA _, gV, heap_alloc_new w _, by omega, fun i j pv hi hj => by
    obtain ⟨p, GJ, OV, VG⟩ := bV i hi
    rw [VG] at hj
    obtain ⟨_, q2, q3⟩ := jq p OV
    have B3 : j < inf.size := by rw [← q2]; exact (At.1 hj).1
    have := f4 i j p GJ B3
    rw [asN] at this
    obtain ⟨u, Bf, tS⟩ := q3 j pv hj
    exact ⟨u, by rw [← Bf, ← this, asN], tS⟩⟩ (j9 w _)
   (fun i hi => by
    obtain ⟨p, GJ, OV, VG⟩ := bV i hi
    rw [VG]
    exact (jq p OV).2.1) (fun i j pv hi hj => by
    obtain ⟨p, GJ, OV, VG⟩ := bV i hi
    rw [VG] at hj
    exact DW (lk p OV).1 hj)
  obtain ⟨jC, nz⟩ := me
  obtain ⟨f', oY, hK⟩ := hK
  refine eU.rows (eU.gW (val := .slice (some ⟨w.heap.size, 0, none⟩) len len) (cb rfl ?_) ⟨_, cW.snoc _ _ _ _ _ _ _ oY, hK⟩ ?_ nz jC)
  ·have abj : (parts.map fun p => (p.1, a.eval p.2)).toList = parts.toList.map fun p => (p.1, a.eval p.2) := by simp
   have hn : ¬ (16777216 < len * inf.size) := by omega
   have FG : Instr.fill (fun i => some (i * inf.size, inf.size)) (Array.map (fun x => (if len * inf.size = 0 then #[] else zv.cells)[x % (if len * inf.size = 0 then #[] else zv.cells).size]!) (Array.range (len * inf.size))) (parts.map fun p => (p.1, a.eval p.2)).toList = some gV := by
    rw [abj]; exact f1
   by_cases h0 : len * inf.size = 0
   ·simp [h0] at FG
    simp only [Instr.buildSlice, Sem.run_bind, run_underlying hu, Result.andThen, jR kh]
    simp [h0, newRow]
    rw [FG]
    rfl
   ·simp [h0] at FG
    simp only [Instr.buildSlice, Sem.run_bind, run_underlying hu, Result.andThen, jR kh]
    simp [h0, hn, newRow, zeroValue, typeInfo, kh, hz]
    rw [FG]
    rfl
  ·show aW _ _ _ _ _ _ _ _
   unfold aW
   rw [asU (asA _), atz]
   refine ⟨⟨_, _, _, rfl⟩, asA _, fun _ => ⟨by omega, ?_⟩⟩
   rw [bn]
   exact ⟨_, len, rfl, asA _, fun _ => by simp, gV, e, _, heap_alloc_new w _, by rw [asN, asN]; omega⟩
 ·exact auJ
theorem GX (hc : Core μ h S w) (ht : ∀ t, aZ μ h S w (env t) (a.tmps.getD t undef)) (t : Nat) (x : Operand) (hp : pop P T (.box t x) env h K) :
  eU P ⟨dst, .box t x, ty, pos, after, guard⟩ a μ h S w K := by
 simp only [pop] at hp
 replace hp := aU (bw hp)
 obtain ⟨mG, hK⟩ := hp
 simp only [As] at mG
 obtain ⟨rP, hlen⟩ := mG
 have hlen := Of hlen
 obtain ⟨h3, h4⟩ := kH rP (bp ht x)
 simp only [ats, asV] at h3 h4
 have me := lW (w1 := w.alloc (.cells (a.eval x).cells t)) hc (jE (T.get t)) 1 t (fun _ => cellsOf (ev env x)) (some (w.heap.size, 0))
  ⟨asA _, _, heap_alloc_new w _, by omega, fun i j pv hi hj => by
   obtain ⟨u, hu, hr⟩ := h4 j pv hj
   have : i = 0 := by omega
   subst this
   exact ⟨u, by rw [← hu]; congr 1; omega, hr⟩⟩ (j9 w _) (fun i hi => hlen) (fun i j pv _ hj => DW rP hj)
 obtain ⟨jC, nz⟩ := me
 refine eU.gW (val := .pointer (some ⟨w.heap.size, 0, none⟩)) (cb rfl ?_) hK ?_ nz jC
 ·simp [Instr.box, newVar, newRow]
 ·show ba _ _ _ _ _ _ _ _
  unfold ba
  rw [asU (asA _), atz]
  refine ⟨⟨_, rfl⟩, asA _, fun _ => ⟨by omega, w.heap.size, 0, bn _ _ _, ⟨⟨_, _, _, heap_alloc_new w _, atS _⟩, fun _ => rfl⟩, ?_⟩⟩
  simp
theorem CC (hT : cn P T) (hc : Core μ h S w) (t : Nat) (hp : pop P T (.alloc t) env h K) :
  eU P ⟨dst, .alloc t, ty, pos, after, guard⟩ a μ h S w K := by
 simp only [pop] at hp
 split at hp
 ·rename_i z eZ
  obtain ⟨i, zv, hi, hz, O5, O6, Mb⟩ := hT.zero t z eZ
  generalize fQ : jE (T.get t) = sz at *
  have me := lW (w1 := w.alloc (.cells zv.cells t)) hc sz 1 t (fun _ => z) (some (w.heap.size, 0))
   ⟨asA _, _, heap_alloc_new w _, by omega, fun i j pv hi hj => by
    have It : j < zv.cells.size := by
     have := (At.1 hj).1
     omega
    obtain ⟨ew, h5, _, h6⟩ := Mb j zv.cells[j] (asT It)
    rw [hj] at h5
    injection h5 with h5
    subst h5
    have : i = 0 := by omega
    subst this
    exact ⟨_, by rw [← asT It]; congr 1; omega, bq.jy (h6 S w)⟩⟩ (j9 w _) (fun i hi => O6) (fun i j pv _ hj => by
  have It : j < zv.cells.size := by have := (At.1 hj).1; omega
  obtain ⟨ew, h5, _, h6⟩ := Mb j zv.cells[j] (asT It)
  rw [hj] at h5; injection h5 with h5; rw [h5]; exact aF.no (h6 S w))
  obtain ⟨jC, nz⟩ := me
  refine eU.gW (val := .pointer (some ⟨w.heap.size, 0, none⟩)) (cb rfl ?_) hp ?_ nz jC
  ·simp [Instr.alloc, zeroValue, typeInfo, hi, hz, newVar, newRow]
  ·show ba _ _ _ _ _ _ _ _
   unfold ba
   rw [asU (asA _), atz]
   refine ⟨⟨_, rfl⟩, asA _, fun _ => ⟨by omega, w.heap.size, 0, bn _ _ _, ⟨⟨_, _, _, heap_alloc_new w _, atS _⟩, fun _ => rfl⟩, ?_⟩⟩
   simp
 ·exact auJ
end
end Go.Am
