/- Texts of the proof, joined and shortened. -/
import Derived.Test.YtiigfbapjeefbaaGreatDoorPk0
import Derived.WalkLawsBesides
set_option linter.unusedVariables false
set_option linter.unusedSimpArgs false
namespace Go.Am
open Go Go.RowKit
def vm : TypeDesc → Bool
 | .struct _ => true
 | .array _ _ => true
 | _ => false
def gN (P : Program) : Nat → List Field → List PV → Bool
 | _, [], [] => true
 | n, f :: r, .int k _ :: z => f.name != "_" && Nat.beq f.offset n && (match P.underlying f.type with | some (.int k') => mC k k' | _ => false) && gN P (n + 1) r z
 | n, f :: r, .bool _ :: z => f.name != "_" && Nat.beq f.offset n && (match P.underlying f.type with | some .bool => true | _ => false) && gN P (n + 1) r z
 | n, f :: r, .str _ :: z => f.name != "_" && Nat.beq f.offset n && (match P.underlying f.type with | some .string => true | _ => false) && gN P (n + 1) r z
 | _, _, _ => false
def yY (P : Program) (t : Nat) (z : List PV) : Bool := match P.underlying t with
 | some (.struct fs) => !(P.stoodInHeld t) && !(P.eqGuardType P.depth t) && gN P 0 fs.toList z
 | _ => false
structure cd (P : Program) (T : lq) : Prop where
 flat : ∀ t sz fl z, T.get t = .struct sz fl z → tJ z = true → yY P t z = true
 int : ∀ t k, T.get t = .int k → P.underlying t = some (.int k)
 bool : ∀ t, T.get t = .bool → P.underlying t = some .bool
 str : ∀ t, T.get t = .str → P.underlying t = some .string
 ptr : ∀ t e, T.get t = .ptr e → P.underlying t = some (.pointer e)
 slice : ∀ t e sz KH z, T.get t = .slice e sz KH z → P.underlying t = some (.slice e) ∧ 0 < sz ∧ ∃ i zv, P.info? e = some i ∧ i.size = sz ∧ i.bytes = KH ∧ i.zero = some zv ∧ zv.cells.size = sz ∧ z.length = sz ∧
  ∀ (j : Nat) (u : Value), zv.cells[j]? = some u → ∃ pv : PV, z[j]? = some pv ∧ u.oneCell' = true ∧ ∀ S w, aE S w pv u
 map : ∀ t k e z, T.get t = .map k e z → P.underlying t = some (.map k e) ∧ ∃ i zv, P.info? e = some i ∧ i.zero = some zv ∧ mD z zv ∧ ir z = true ∧ storable z = true
 bytes : ∀ t e sz KH z, T.get t = .slice e sz KH z → 0 < KH
 one : ∀ t, jj (T.get t) = 1 → (∀ sz fl z, T.get t ≠ .struct sz fl z) → ∃ i, P.info? t = some i ∧ i.size = 1
 zero : ∀ t z, vn (T.get t) = some z → ∃ i zv, P.info? t = some i ∧ i.zero = some zv ∧ zv.cells.size = jj (T.get t) ∧ z.length = jj (T.get t) ∧
  ∀ (j : Nat) (u : Value), zv.cells[j]? = some u → ∃ pv : PV, z[j]? = some pv ∧ u.oneCell' = true ∧ ∀ S w, aE S w pv u
 struct : ∀ t sz fl z, T.get t = .struct sz fl z → ∃ fs i, P.underlying t = some (.struct fs) ∧ P.info? t = some i ∧ i.size = sz ∧ fl.length = fs.size ∧
  (∃ zv, i.zero = some zv ∧ zv.cells.size = sz ∧ z.length = sz ∧ ∀ (j : Nat) (u : Value), zv.cells[j]? = some u → ∃ pv : PV, z[j]? = some pv ∧ u.oneCell' = true ∧ ∀ S w, aE S w pv u) ∧
  ∀ (k : Nat) (off size : Nat) (ag : Bool), fl[k]? = some (off, size, ag) → ∃ f j d, fs[k]? = some f ∧ f.offset = off ∧ P.info? f.type = some j ∧ j.size = size ∧ 0 < size ∧
   P.underlying f.type = some d ∧ ag = vm d
section
variable {P : Program} {T : lq} {μ : Mu} {h : List ak} {S : Nat → Prop} {w : World}
theorem aY.jg {k : IntKind} {n : Int} {v : Value} (hv : aY μ h S w (.int k n) v) : v = .int k n := by
 have hv : aE S w (.int k n) v := hv
 cases hv; rfl
theorem aY.j3 {b : Bool} {v : Value} (hv : aY μ h S w (.bool b) v) : v = .bool b := by
 have hv : aE S w (.bool b) v := hv
 cases hv; rfl
theorem aY.j9 {s : List UInt8} {v : Value} (hv : aY μ h S w (.str s) v) : v = .string ⟨⟨s⟩⟩ := by
 have hv : aE S w (.str s) v := hv
 cases hv; rfl
theorem aY.mV {v : Value} (hv : aY μ h S w .bf v) : v = .slice none 0 0 := by
 have hv : aE S w .bf v := hv
 cases hv; rfl
theorem aY.KI {f : Nat} {v : Value} (hv : aY μ h S w (.fn f) v) : v = .func (.func f) #[] #[] := by
 have hv : aE S w (.fn f) v := hv
 cases hv; rfl
theorem aY.pF {sz n : Nat} {f : Nat → List PV} {v : Value} (hv : aY μ h S w (.eu sz n f) v) :
  (∃ a c, v = .slice a n c ∧ n = 0) ∨ ∃ (b off c : Nat) (vf : Nat → Nat → Value), v = .slice (some ⟨b, off, none⟩) n c ∧ S b ∧ (∀ i, i < n → (f i).length = sz) ∧ n ≤ c ∧
   (∀ (i j : Nat) (pv : PV), i < n → (f i)[j]? = some pv → w.cell? ⟨b, off + i * sz + j, none⟩ = some (vf i j)) ∧ (∀ (i j : Nat) (pv : PV), i < n → (f i)[j]? = some pv → aE S w pv (vf i j)) := by
 have hv : aE S w (.eu sz n f) v := hv
 cases hv with
 | lV _ _ a c => exact .inl ⟨a, c, rfl, rfl⟩
 | eu _ _ _ b off c vf h1 h2 h3 h4 h5 => exact .inr ⟨b, off, c, vf, rfl, h1, h2, h3, h4, h5⟩
theorem aY.rI {cs : List PV} {v : Value} (hv : aY μ h S w (.dY cs) v) :
  ∃ (b off : Nat) (vf : Nat → Value), v = .pointer (some ⟨b, off, none⟩) ∧ S b ∧ (∀ (j : Nat) (pv : PV), cs[j]? = some pv → w.cell? ⟨b, off + j, none⟩ = some (vf j)) ∧ (∀ (j : Nat) (pv : PV), cs[j]? = some pv → aE S w pv (vf j)) := by
 have hv : aE S w (.dY cs) v := hv
 cases hv with
 | dY _ b off vf h1 h4 h5 => exact ⟨b, off, vf, rfl, h1, h4, h5⟩
theorem KJ {v : Value} {p : PV} (h : Zv v = some p) : aE S w p v := by
 cases v with
 | int k n => cases h; exact aE.int k n
 | bool b => cases h; exact aE.bool b
 | string s =>
  obtain ⟨⟨l⟩⟩ := s
  cases h
  exact aE.str l
 | slice a n c =>
  cases a with
  | none =>
   cases n with
   | zero =>
    cases c with
    | zero => cases h; exact aE.bf
    | succ c => cases h
   | succ n => cases h
  | some a => cases h
 | pointer a =>
  cases a with
  | none => cases h; exact aE.dt
  | some a => cases h
 | _ => cases h
theorem Bg : ∀ {vs : List Value} {l : List PV}, Fi vs = some l → vs.length = l.length ∧ ∀ (j : Nat) (pv : PV), l[j]? = some pv → ∃ u, vs[j]? = some u ∧ aE S w pv u
 | [], l, h => by
  cases h
  exact ⟨rfl, fun j pv hj => by simp at hj⟩
 | v :: r, l, h => by
  unfold Fi at h
  cases h1 : Zv v with
  | none => rw [h1] at h; cases h
  | some p =>
   cases h2 : Fi r with
   | none => rw [h1, h2] at h; cases h
   | some q =>
    rw [h1, h2] at h
    cases h
    obtain ⟨q1, q2⟩ := Bg h2
    refine ⟨by simp [q1], fun j pv hj => ?_⟩
    cases j with
    | zero => simp at hj; subst hj; exact ⟨v, rfl, KJ h1⟩
    | succ j => obtain ⟨u, r1, r2⟩ := q2 j pv atC; exact ⟨u, by simpa using r1, r2⟩
theorem Bh (v : Value) : aY μ h S w (ofValue v) v := by
 cases v with
 | int k n => exact aE.int k n
 | bool b => exact aE.bool b
 | string s =>
  obtain ⟨⟨l⟩⟩ := s
  exact aE.str l
 | slice a n c =>
  cases a with
  | none =>
   cases n with
   | zero =>
    cases c with
    | zero => exact aE.bf
    | succ c => trivial
   | succ n => trivial
  | some a => trivial
 | pointer a =>
  cases a with
  | none => exact aE.dt
  | some a => trivial
 | agg vs =>
  simp only [ofValue]
  cases hl : Fi vs.toList with
  | none => trivial
  | some l =>
   obtain ⟨q1, q2⟩ := Bg (S := S) (w := w) hl
   exact ⟨vs, rfl, by simpa using q1, fun j pv hj => by obtain ⟨u, r1, r2⟩ := q2 j pv hj; exact ⟨u, by simpa using r1, bm.jd r2⟩⟩
 | _ => trivial
theorem bh {env : Env} {a : Act} (ht : ∀ t, aY μ h S w (env t) (a.tmps.getD t undef)) (x : Operand) : aY μ h S w (ev env x) (a.eval x) := by
 cases x with
 | tmp t => exact ht t
 | const v => exact Bh v
 | global g => trivial
 | func f => exact aE.fn f
def cq (P : Program) (o : Oper) (a : Act) (μ : Mu) (h : List ak) (S : Nat → Prop) (w : World) (K : PV → Prop) : Prop :=
 ∃ v val, K v ∧ aY μ h S w v val ∧ ∀ w', bF w w' → (execOp a.eval o).run P w' = .ok (.value val) w'
theorem cq.mk {o : Oper} {a : Act} {K : PV → Prop} {v : PV} {val : Value} (hK : K v) (hv : aY μ h S w v val) (hr : ∀ w', bF w w' → (execOp a.eval o).run P w' = .ok (.value val) w') : cq P o a μ h S w K := ⟨v, val, hK, hv, hr⟩
variable {a : Act} {env : Env} {K : PV → Prop} {dst : Option Tmp} {ty : TypeId} {pos : String} {after : Array Edge} {guard : Option (Nat × Bool)}
theorem tK {s : Sem Value} {w' KK : World} {val : Value} (hs : s.run P w' = .ok val KK) : (do pure (Next.value (← s)) : Sem Next).run P w' = .ok (.value val) KK := by
 simp [hs]
theorem toList_mk (l : List UInt8) : (ByteArray.mk ⟨l⟩).toList = l := by
 have h : (ByteArray.mk ⟨l⟩).toList = (ByteArray.mk ⟨l⟩).data.toList := by simp
 rw [h]
theorem Ed {bo : BinOp} {t : TypeId} {x y : Operand} {u u' val : Value} {w' : World} (hg : eqGuard bo t x y u u' = pure ()) (hb : (binOp bo t u u').run P w' = .ok val w') :
  (do eqGuard bo t x y u u'; binOp bo t u u' : Sem Value).run P w' = .ok val w' := by
 rw [hg]
 simp [hb]
theorem nH {P : Program} {t : TypeId} {d : TypeDesc} (hu : P.underlying t = some d) (hd : vm d = false) (cs : Array Value) (off : Nat) (v : Value) (hc : cs[off]? = some v) (w : World) : (part t cs off).run P w = .ok v w := by
 have : (isAgg t).run P w = .ok false w := by
  unfold isAgg
  simp only [Sem.run_bind, run_underlying hu, Result.andThen]
  cases d <;> first | rfl | cases hd
 simp [part, this, hc]
theorem bD {g q : Bool} {o : Option Bool} {b : Bool} (h : Bi g q o = some b) : g = true ∧ ∃ c, o = some c ∧ b = (q && c) := by
 cases o with
 | none => cases h
 | some c => cases g with
  | true => exact ⟨rfl, c, rfl, (arG h).symm⟩
  | false => cases h
theorem mE {P : Program} {μ : Mu} {h : List ak} {S : Nat → Prop} {w w' : World} {xs ys : Array Value} (d : Nat) : ∀ (fs : List Field) (z OR Ee : List PV) (n : Nat) (b : Bool), gN P n fs z = true →
  (∀ (j : Nat) (pv : PV), OR[j]? = some pv → ∃ u, xs[n + j]? = some u ∧ bm μ h S w pv u) → (∀ (j : Nat) (pv : PV), Ee[j]? = some pv → ∃ u, ys[n + j]? = some u ∧ bm μ h S w pv u) →
  xM z OR Ee = some b → (Op.eqFields (d + 1) xs ys fs).run P w' = .ok b w'
 | [], z, OR, Ee, n, b, hf, _, _, hk => by
  cases z with
  | nil =>
   cases OR with
   | nil => cases Ee with
    | nil => cases hk; rfl
    | cons _ _ => cases hk
   | cons _ _ => cases hk
  | cons _ _ => simp [gN] at hf
 | f :: fs, z, OR, Ee, n, b, hf, hx, hy, hk => by
  have go : ∀ (c1 c2 : PV) (v1 v2 : Value) (q c : Bool) (dd : TypeDesc) (z r r' : List PV), OR = c1 :: r → Ee = c2 :: r' → (∀ u, bm μ h S w c1 u → u = v1) → (∀ u, bm μ h S w c2 u → u = v2) → f.name ≠ "_" → f.offset = n → P.underlying f.type = some dd → vm dd = false →
    (Op.equalIn (d + 1) f.type v1 v2).run P w' = .ok q w' → gN P (n + 1) fs z = true → xM z r r' = some c → (Op.eqFields (d + 1) xs ys (f :: fs)).run P w' = .ok (q && c) w' := by
   intro c1 c2 v1 v2 q c dd z r r' e1 e2 hi1 hi2 Np ajc hu hd hq hfs pW
   subst e1 e2
   obtain ⟨u1, zV, hr1⟩ := hx 0 c1 rfl
   obtain ⟨u2, sL, hr2⟩ := hy 0 c2 rfl
   obtain rfl := hi1 u1 hr1
   obtain rfl := hi2 u2 hr2
   have jx := mE (w' := w') d fs z r r' (n + 1) c hfs (fun j pv hj => by
     obtain ⟨u, q1, q2⟩ := hx (j + 1) pv atC
     exact ⟨u, by rw [← q1]; congr 1; omega, q2⟩) (fun j pv hj => by
     obtain ⟨u, q1, q2⟩ := hy (j + 1) pv atC
     exact ⟨u, by rw [← q1]; congr 1; omega, q2⟩) pW
   have p1 := nH hu hd xs f.offset u1 (by rw [ajc]; exact zV) w'
   have p2 := nH hu hd ys f.offset u2 (by rw [ajc]; exact sL) w'
   unfold Op.eqFields
   rw [if_pos Np]
   simp only [Sem.run_bind, p1, p2, hq, Result.andThen_ok]
   cases q with
   | true => simpa using jx
   | false => simp
  unfold xM at hk
  split at hk
  ·simp [gN] at hf
  ·rename_i k n0 z k1 a r k2 b' r'
   simp only [gN, As, bne_iff_ne] at hf
   obtain ⟨⟨⟨h1, h2⟩, h3⟩, h4⟩ := hf
   have h2 := No h2
   obtain ⟨hg, c, hc, rfl⟩ := bD hk
   simp only [As] at hg
   obtain rfl := dq hg.1
   obtain rfl := dq hg.2
   split at h3
   ·rename_i k' hu
    exact go _ _ (.int k a) (.int k b') (a == b') c _ z r r' rfl rfl (fun u hu => by have hu : aE S w (.int k a) u := hu; cases hu; rfl) (fun u hu => by have hu : aE S w (.int k b') u := hu; cases hu; rfl) h1 h2 hu rfl (run_equalIn_int w' d _ _ _ _ _ hu) h4 hc
   ·cases h3
  ·rename_i n0 z a r b' r'
   simp only [gN, As, bne_iff_ne] at hf
   obtain ⟨⟨⟨h1, h2⟩, h3⟩, h4⟩ := hf
   have h2 := No h2
   obtain ⟨hg, c, hc, rfl⟩ := bD hk
   split at h3
   ·rename_i hu
    exact go _ _ (.bool a) (.bool b') (a == b') c _ z r r' rfl rfl (fun u hu => by have hu : aE S w (.bool a) u := hu; cases hu; rfl) (fun u hu => by have hu : aE S w (.bool b') u := hu; cases hu; rfl) h1 h2 hu rfl (run_equalIn_bool w' d _ _ _ hu) h4 hc
   ·cases h3
  ·rename_i n0 z a r b' r'
   simp only [gN, As, bne_iff_ne] at hf
   obtain ⟨⟨⟨h1, h2⟩, h3⟩, h4⟩ := hf
   have h2 := No h2
   obtain ⟨hg, c, hc, rfl⟩ := bD hk
   split at h3
   ·rename_i hu
    exact go _ _ (.string ⟨⟨a⟩⟩) (.string ⟨⟨b'⟩⟩) (a == b') c _ z r r' rfl rfl (fun u hu => by have hu : aE S w (.str a) u := hu; cases hu; rfl) (fun u hu => by have hu : aE S w (.str b') u := hu; cases hu; rfl) h1 h2 hu rfl (by
     rw [run_equalIn_string w' d _ _ _ hu, toList_mk, toList_mk]) h4 hc
   ·cases h3
  ·cases hk
theorem Fj (hT : cd P T) (bo : BinOp) (t t' : TypeId) (x y : Operand) (px py : PV) (hx : aY μ h S w px (a.eval x)) (hy : aY μ h S w py (a.eval y)) (hp : Fk (T.get t) bo px py K) :
  cq P ⟨dst, .binOp bo t x y t', ty, pos, after, guard⟩ a μ h S w K := by
 have key : ∀ (v : PV) (val : Value), K v → aY μ h S w v val → eqGuard bo t x y (a.eval x) (a.eval y) = pure () → (∀ w', (binOp bo t (a.eval x) (a.eval y)).run P w' = .ok val w') →
   cq P ⟨dst, .binOp bo t x y t', ty, pos, after, guard⟩ a μ h S w K := fun v val hK hv hg hr => .mk hK hv fun w' _ => tK (Ed hg (hr w'))
 unfold Fk at hp
 split at hp
 ·rename_i k n k' n'
  have ex := hx.jg
  have ey := hy.jg
  have hg : eqGuard bo t x y (a.eval x) (a.eval y) = pure () := by rw [ex]; apply eqGuard_at_int
  cases bo <;> simp only at hp
  case shl =>
   have h0 : ¬ n' < 0 := by omega
   exact key _ _ hp.2 (aE.int _ _) hg fun w' => by rw [ex, ey, binOp_shl]; simp only [Op.shift, if_neg h0]; rfl
  case shr =>
   have h0 : ¬ n' < 0 := by omega
   exact key _ _ hp.2 (aE.int _ _) hg fun w' => by rw [ex, ey, binOp_shr]; simp only [Op.shift, if_neg h0]; rfl
  all_goals
   replace hp := aR hp
   obtain ⟨hk, hp⟩ := hp
   obtain rfl := dq hk
  case and => exact key _ _ hp (aE.int _ _) hg fun w' => by rw [ex, ey, binOp_and, intBits_and]; rfl
  case or => exact key _ _ hp (aE.int _ _) hg fun w' => by rw [ex, ey, binOp_or, intBits_or]; rfl
  case xor => exact key _ _ hp (aE.int _ _) hg fun w' => by rw [ex, ey, binOp_xor, intBits_xor]; rfl
  case andNot => exact key _ _ hp (aE.int _ _) hg fun w' => by rw [ex, ey, binOp_andNot, intBits_andNot]; rfl
  case add => exact key _ _ hp (aE.int _ _) hg fun w' => by rw [ex, ey, binOp_add]; rfl
  case sub => exact key _ _ hp (aE.int _ _) hg fun w' => by rw [ex, ey, binOp_sub]; rfl
  case mul => exact key _ _ hp (aE.int _ _) hg fun w' => by rw [ex, ey, binOp_mul]; rfl
  case quo => exact key _ _ hp.2 (aE.int _ _) hg fun w' => by rw [ex, ey, binOp_quo]; simp [Op.intDiv, hp.1]
  case rem => exact key _ _ hp.2 (aE.int _ _) hg fun w' => by rw [ex, ey, binOp_rem]; simp [Op.intDiv, hp.1]
  case eql => exact key _ _ hp (aE.bool _) hg fun w' => by rw [ex, ey, binOp_eql]; rfl
  case neq => exact key _ _ hp (aE.bool _) hg fun w' => by rw [ex, ey, binOp_neq]; rfl
  case lss => exact key _ _ hp (aE.bool _) hg fun w' => by rw [ex, ey, binOp_lss]; rfl
  case leq => exact key _ _ hp (aE.bool _) hg fun w' => by rw [ex, ey, binOp_leq]; rfl
  case gtr => exact key _ _ hp (aE.bool _) hg fun w' => by rw [ex, ey, binOp_gtr]; rfl
  case geq => exact key _ _ hp (aE.bool _) hg fun w' => by rw [ex, ey, binOp_geq]; rfl
 ·rename_i b b'
  have ex := hx.j3
  have ey := hy.j3
  have hg : eqGuard bo t x y (a.eval x) (a.eval y) = pure () := by rw [ex]; apply eqGuard_at_bool
  split at hp
  ·rename_i eL
   exact key _ _ hp (aE.bool _) hg fun w' => by rw [ex, ey]; exact run_eql_bool w' t _ _ (hT.bool _ eL)
  ·rename_i eL
   exact key _ _ hp (aE.bool _) hg fun w' => by rw [ex, ey]; exact run_neq_bool w' t _ _ (hT.bool _ eL)
  ·exact asY
 ·rename_i s s'
  have ex := hx.j9
  have ey := hy.j9
  have hg : eqGuard bo t x y (a.eval x) (a.eval y) = pure () := by rw [ex]; apply eqGuard_at_string
  cases bo <;> simp only at hp
  case add =>
   obtain ⟨Fh, _, rfl, Nr⟩ := hp
   refine key _ _ Nr (aE.str _) hg fun w' => ?_
   rw [ex, ey, binOp_string_add]
   have h1 : ¬ (((ByteArray.mk ⟨s⟩).size + (ByteArray.mk ⟨s'⟩).size : Nat) : Int) > IntKind.i64.max := by
    have e1 : (ByteArray.mk ⟨s⟩).size = s.length := rfl
    have e2 : (ByteArray.mk ⟨s'⟩).size = s'.length := rfl
    rw [e1, e2, IntKind.max_i64]
    omega
   simp only [Op.stringOp, if_neg h1]
   have h2 : ByteArray.mk ⟨s⟩ ++ ByteArray.mk ⟨s'⟩ = ByteArray.mk ⟨s ++ s'⟩ := by
    apply ByteArray.ext
    simp [ByteArray.data_append]
   rw [h2]
   rfl
  case eql => exact key _ _ hp (aE.bool _) hg fun w' => by rw [ex, ey, binOp_string_eql, toList_mk, toList_mk]; rfl
  case neq => exact key _ _ hp (aE.bool _) hg fun w' => by rw [ex, ey, binOp_string_neq, toList_mk, toList_mk]; rfl
  case lss => exact key _ _ hp (aE.bool _) hg fun w' => by rw [ex, ey, binOp_string_lss, toList_mk, toList_mk]; rfl
  case leq => exact key _ _ hp (aE.bool _) hg fun w' => by rw [ex, ey, binOp_string_leq, toList_mk, toList_mk]; rfl
  case gtr => exact key _ _ hp (aE.bool _) hg fun w' => by rw [ex, ey, binOp_string_gtr, toList_mk, toList_mk]; rfl
  case geq => exact key _ _ hp (aE.bool _) hg fun w' => by rw [ex, ey, binOp_string_geq, toList_mk, toList_mk]; rfl
  all_goals exact hp.elim
 ·rename_i OR Ee
  split at hp
  ·rename_i sz fl z eL
   replace hp := aR hp
   obtain ⟨hz, hp⟩ := hp
   have CE := hT.flat _ _ _ _ eL hz
   unfold yY at CE
   split at CE
   ·rename_i fs hu
    simp only [As, arE] at CE
    obtain ⟨⟨h1, h2⟩, h3⟩ := CE
    obtain ⟨xs, ex, _, hxs⟩ := hx
    obtain ⟨ys, ey, _, hys⟩ := hy
    have CF : P.fieldsOf t = fs := by simp [Program.fieldsOf, hu]
    have jx : ∀ b, xM z OR Ee = some b → ∀ w', (Op.equalIn 10000 t (.agg xs) (.agg ys)).run P w' = .ok b w' := fun b hk w' => by
     rw [run_equalIn_struct w' 9999 t xs ys (by rw [CF]; exact hu) h1, CF]
     exact mE (μ := μ) (h := h) (S := S) (w := w) 9998 fs.toList z OR Ee 0 b h3 (fun j pv hj => by rw [ard]; exact hxs j pv hj) (fun j pv hj => by rw [ard]; exact hys j pv hj) hk
    have ajd : ∀ (b : Bool), K (.bool b) → (∀ w', (binOp bo t (.agg xs) (.agg ys)).run P w' = .ok (.bool b) w') → cq P ⟨dst, .binOp bo t x y t', ty, pos, after, guard⟩ a μ h S w K := fun b hK hr => .mk hK (aE.bool b) fun w' _ => tK (by
     rw [ex, ey]
     simp [run_eqGuard_agg w' bo t x y xs ys h2, hr w'])
    split at hp
    ·rename_i b hb
     split at hp
     ·obtain ⟨_, rfl, hK⟩ := hp
      exact ajd _ hK fun w' => by rw [run_eql_struct, jx b hb w']; rfl
     ·obtain ⟨_, rfl, hK⟩ := hp
      exact ajd _ hK fun w' => by rw [run_neq_struct, jx b hb w']; rfl
     ·exact asY
    ·exact asY
   ·cases CE
  ·exact asY
 ·exact asY
theorem rJ {t : TypeId} {d : TypeDesc} (hu : P.underlying t = some d) (w' : World) : (isAgg t).run P w' = .ok (vm d) w' := by
 unfold isAgg
 simp only [Sem.run_bind, run_underlying hu, Result.andThen]
 cases d <;> rfl
def OS (μ : Mu) (h : List ak) (S : Nat → Prop) (w : World) (cells : List PV) (b off : Nat) : Prop :=
 ∀ (j : Nat) (pv : PV), cells[j]? = some pv → ∃ u, w.cell? ⟨b, off + j, none⟩ = some u ∧ bm μ h S w pv u
theorem vo (hT : cd P T) (t : Nat) (x : Operand) (cells : List PV) (b off : Nat) (hx : a.eval x = .pointer (some ⟨b, off, none⟩)) (hc : OS μ h S w cells b off) (hp : sS T t cells K)
  (OT : ∀ pv u, pv ∈ cells → bm μ h S w pv u → aY μ h S w pv u) :
  cq P ⟨dst, .load t x, ty, pos, after, guard⟩ a μ h S w K := by
 have key : ∀ (v : PV) (val : Value), K v → aY μ h S w v val → (∀ w', bF w w' → (loadVar t ⟨b, off, none⟩).run P w' = .ok val w') →
   cq P ⟨dst, .load t x, ty, pos, after, guard⟩ a μ h S w K := fun v val hK hv hr => .mk hK hv fun w' ha => by
  refine tK ?_
  rw [hx]
  simp [Instr.loadAt, Instr.sureAddr, hr w' ha]
 have one : ∀ d, P.underlying t = some d → vm d = false → (∃ c r, cells = c :: r ∧ K c) →
   cq P ⟨dst, .load t x, ty, pos, after, guard⟩ a μ h S w K := fun d hu hd ⟨c, r, Nu, hK⟩ => by
  obtain ⟨u, zV, sL⟩ := hc 0 c (by rw [Nu]; rfl)
  refine key c u hK (OT c u (by rw [Nu]; simp) sL) fun w' ha => ?_
  have h0 := ha.cell zV
  rw [arR] at h0
  unfold loadVar
  simp only [Sem.run_bind, rJ hu, hd, Result.andThen]
  simp [run_load, h0]
 unfold sS at hp
 split at hp
 ·rename_i sz fl zz eL
  obtain ⟨fs, i, hu, hi, fv, _⟩ := hT.struct _ _ _ _ eL
  replace hp := lI _ _ _ hp
  obtain ⟨hle, hK⟩ := hp
  simp only [asE, aqQ] at hK
  have hf : ∃ f : Nat → Value, ∀ (j : Nat) (pv : PV), cells[j]? = some pv → w.cell? ⟨b, off + j, none⟩ = some (f j) ∧ bm μ h S w pv (f j) := by
   refine ⟨fun j => (w.cell? ⟨b, off + j, none⟩).getD undef, fun j pv hj => ?_⟩
   obtain ⟨u, h1, h2⟩ := hc j pv hj
   simp only [h1, asF]
   exact ⟨trivial, h2⟩
  obtain ⟨f, hf⟩ := hf
  refine key _ (.agg ((List.range sz).map f).toArray) hK ⟨_, rfl, by simp [Nat.min_eq_left hle], fun j pv hj => ?_⟩ fun w' ha => ?_
  ·rw [asq] at hj
   split at hj
   ·rename_i AU
    obtain ⟨h1, h2⟩ := hf j pv hj
    exact ⟨f j, by simp [AU], h2⟩
   ·cases hj
  ·unfold loadVar
   have hd : vm (.struct fs) = true := rfl
   simp only [Sem.run_bind, rJ hu, hd, Result.andThen]
   have hl := run_loadCells (P := P) w' ⟨b, off, none⟩ sz f (fun j hj => by
    rw [Addr.add_lit]
    have Ef : j < cells.length := ars hj hle
    exact ha.cell (hf j _ (Of Ef)).1)
   simp [sizeOf, typeInfo, hi, fv, hl]
 ·exact asY
 ·rename_i h1 h2
  have Nu : ∃ c r, cells = c :: r ∧ K c := by
   cases cells with
   | nil => exact hp.elim
   | cons c r => exact ⟨c, r, rfl, br hp⟩
  cases eL : T.get t with
  | int k => exact one _ (hT.int _ _ eL) rfl Nu
  | bool => exact one _ (hT.bool _ eL) rfl Nu
  | str => exact one _ (hT.str _ eL) rfl Nu
  | slice e sz KH z => exact one _ (hT.slice _ _ _ _ _ eL).1 rfl Nu
  | struct sz fl zz => exact (h1 _ _ _ eL).elim
  | map k e z => exact one _ (hT.map _ _ _ _ eL).1 rfl Nu
  | ptr e => exact one _ (hT.ptr _ _ eL) rfl Nu
  | other => exact (h2 eL).elim
theorem dK {id : Nat} {g sz n : Nat} {e : TypeId} {f : Nat → List PV} (hh : bP h id = .row g sz n e f) : h[id]? = some (ak.row g sz n e f) := by
 unfold bP at hh
 rw [arc] at hh
 cases ho : h[id]? with
 | none => rw [ho] at hh; cases hh
 | some o => rw [ho] at hh; simp at hh; rw [hh]
theorem aY.nI {id gen off len : Nat} {v : Value} (hv : aY μ h S w (.own id gen off len) v) : aV μ h w id gen off len v := hv
theorem aY.oV {id gen i off : Nat} {v : Value} (hv : aY μ h S w (.aM id gen i off) v) : a6 μ h w id gen i off v := hv
theorem aY.yZ {id : Nat} {v : Value} (hv : aY μ h S w (.kP id) v) : ew μ h w id v := hv
theorem vq (hH : bw μ h S w) {id g sz n : Nat} {e : TypeId} {f : Nat → List PV} {v : Value} (hh : h[id]? = some (ak.row g sz n e f)) (hr : ew μ h w id v) :
  ∃ b base es c, μ id = some (b, base) ∧ v = .map (some b) ∧ w.heap[b]? = some (.map es c) ∧ es.size = n ∧
   ∀ i, i < n → ∃ (kp vp : PV) (en : MapEntry), f i = [kp, vp] ∧ ir kp = true ∧ ir vp = true ∧ es[i]? = some en ∧ mD kp en.key ∧ mD vp en.val := by
 unfold ew at hr
 rw [hh] at hr
 obtain ⟨_, b, base, dX, ⟨es, c, hb⟩, rfl⟩ := hr
 obtain ⟨_, ho⟩ := hH id g sz n e f hh
 rw [dX] at ho
 obtain ⟨o, h1, h2⟩ := ho
 obtain rfl := arG (hb.symm.trans h1)
 exact ⟨b, base, es, c, dX, rfl, hb, h2.1, h2.2⟩
theorem rK : ∀ (z xs ys : List PV) (b : Bool), xM z xs ys = some b → ∀ (j : Nat) (pv : PV), ys[j]? = some pv → ∀ u, nY pv u → bm μ h S w pv u
 | z, xs, ys, b, hk, j, pv, hj, u, hu => by
  unfold xM at hk
  split at hk
  ·simp at hj
  ·obtain ⟨_, c, hc, _⟩ := bD hk
   cases j with
   | zero => simp at hj; subst hj; have hu : u = _ := hu; subst hu; exact aE.int _ _
   | succ j => exact rK _ _ _ c hc j pv atC u hu
  ·obtain ⟨_, c, hc, _⟩ := bD hk
   cases j with
   | zero => simp at hj; subst hj; have hu : u = _ := hu; subst hu; exact aE.bool _
   | succ j => exact rK _ _ _ c hc j pv atC u hu
  ·obtain ⟨_, c, hc, _⟩ := bD hk
   cases j with
   | zero => simp at hj; subst hj; have hu : u = _ := hu; subst hu; exact aE.str _
   | succ j => exact rK _ _ _ c hc j pv atC u hu
  ·cases hk
theorem uB : ∀ (z xs ys : List PV) (b : Bool), xM z xs ys = some b → xs.length = z.length
 | z, xs, ys, b, hk => by
  unfold xM at hk
  split at hk
  ·rfl
  ·obtain ⟨_, c, hc, _⟩ := bD hk
   simp [uB _ _ _ c hc]
  ·obtain ⟨_, c, hc, _⟩ := bD hk
   simp [uB _ _ _ c hc]
  ·obtain ⟨_, c, hc, _⟩ := bD hk
   simp [uB _ _ _ c hc]
  ·cases hk
theorem CG {kt : TypeId} {fs : Array Field} {z xs : List PV} {Nv : Array Value} (hu : P.underlying kt = some (.struct fs)) (hf : gN P 0 fs.toList z = true)
  (hx : ∀ (j : Nat) (pv : PV), xs[j]? = some pv → ∃ u, Nv[j]? = some u ∧ bm μ h S w pv u) (hl : xs.length = z.length) (em : Bool) (w' : World) : (Instr.checkKey em 10000 kt (.agg Nv)).run P w' = .ok () w' := by
 rw [show 10000 = 9999 + 1 from rfl, Instr.checkKey]
 simp only [Sem.run_bind, run_underlying hu, Result.andThen_ok]
 rw [← Array.forIn_toList]
 replace hx : ∀ (j : Nat) (pv : PV), xs[j]? = some pv → ∃ u, Nv[0 + j]? = some u ∧ bm μ h S w pv u := fun j pv hj => by rw [ard]; exact hx j pv hj
 generalize (0 : Nat) = n at hf hx
 generalize fs.toList = L at hf
 clear hu
 induction L generalizing n z xs with
 | nil => simp
 | cons f L ih =>
  cases z with
  | nil => simp [gN] at hf
  | cons c z =>
   cases xs with
   | nil => simp at hl
   | cons p xs =>
    have aje : gN P (n + 1) L z = true → (∀ (j : Nat) (pv : PV), xs[j]? = some pv → ∃ u, Nv[n + 1 + j]? = some u ∧ bm μ h S w pv u) := fun _ j pv hj => by
     obtain ⟨u, q1, q2⟩ := hx (j + 1) pv atC
     exact ⟨u, by rw [← q1]; congr 1; omega, q2⟩
    obtain ⟨u, zV, _⟩ := hx 0 p rfl
    have key : ∃ d, P.underlying f.type = some d ∧ vm d = false ∧ f.name ≠ "_" ∧ f.offset = n ∧ gN P (n + 1) L z = true ∧ ∀ u, (Instr.checkKey em 9999 f.type u).run P w' = .ok () w' := by
     cases c with
     | int k n0 =>
      simp only [gN, As, bne_iff_ne] at hf
      obtain ⟨⟨⟨h1, h2⟩, h3⟩, h4⟩ := hf
      split at h3
      ·rename_i k' hu
       exact atg
      ·cases h3
     | bool b0 =>
      simp only [gN, As, bne_iff_ne] at hf
      obtain ⟨⟨⟨h1, h2⟩, h3⟩, h4⟩ := hf
      split at h3
      ·rename_i hu
       exact atg
      ·cases h3
     | str s0 =>
      simp only [gN, As, bne_iff_ne] at hf
      obtain ⟨⟨⟨h1, h2⟩, h3⟩, h4⟩ := hf
      split at h3
      ·rename_i hu
       exact atg
      ·cases h3
     | _ => simp [gN] at hf
    obtain ⟨d, hu, hd, hn, ho, hfs, Zw⟩ := key
    have p1 := nH hu hd Nv f.offset u (by rw [ho]; exact zV) w'
    have p2 := Zw u
    simp only [List.forIn_cons, Sem.run_bind, hn, ne_eq, not_false_eq_true, if_true, Result.andThen_ok, p1, p2, Sem.run_pure]
    exact ih (by simpa using hl) (n + 1) (aje hfs) hfs
def oW (P : Program) (kt : TypeId) (d : TypeDesc) (s : Bool) (key ek : Value) (q : Bool) : Prop :=
 match s with
 | false => Instr.sameNow d key ek = some q
 | true => Instr.sameNow d key ek = none ∧ ∀ w', (Op.equal kt key ek).run P w' = .ok q w'
theorem Eg (hT : cd P T) {kt : Nat} {kv : PV} {key : Value} {q0 : Bool} (Nq : aY μ h S w kv key) (h0 : kl (T.get kt) kv kv = some q0) :
  ∃ d s, P.underlying kt = some d ∧ (∀ (em : Bool) (w' : World), (Instr.checkKey em 10000 kt key).run P w' = .ok () w') ∧ ∀ (kp : PV) (ek : Value) (q : Bool), mD kp ek → kl (T.get kt) kv kp = some q → oW P kt d s key ek q := by
 cases eL : T.get kt with
 | int k =>
  rw [eL] at h0
  cases kv <;> simp only [kl] at h0 <;> try cases h0
  rename_i k1 x
  have hu := hT.int _ _ eL
  obtain ⟨hg0, _⟩ := bD h0
  simp only [As] at hg0
  obtain rfl := dq hg0.1
  obtain rfl := Nq.jg
  refine ⟨_, false, hu, fun em w' => by rw [show 10000 = 9999 + 1 from rfl, Instr.checkKey]; simp [run_underlying hu], fun kp ek q hs hq => ?_⟩
  cases kp <;> simp only [kl] at hq <;> try cases hq
  rename_i k3 y3
  obtain ⟨hg, c, hc, rfl⟩ := bD hq
  injection hc with hc; subst hc
  simp only [As] at hg
  obtain rfl := dq hg.2
  obtain rfl : ek = _ := hs
  simp [oW, Instr.sameNow]
 | str =>
  rw [eL] at h0
  cases kv <;> simp only [kl] at h0 <;> try cases h0
  rename_i x
  have hu := hT.str _ eL
  obtain rfl := Nq.j9
  refine ⟨_, false, hu, fun em w' => by rw [show 10000 = 9999 + 1 from rfl, Instr.checkKey]; simp [run_underlying hu], fun kp ek q hs hq => ?_⟩
  cases kp <;> simp only [kl] at hq <;> try cases hq
  obtain rfl : ek = _ := hs
  rename_i y3
  simp only [oW, Instr.sameNow]
  congr 1
  show ((Array.mk x) == (Array.mk y3)) = (x == y3)
  rw [asf, beq_iff_eq, beq_iff_eq, Array.mk.injEq]
 | struct sz fl z =>
  rw [eL] at h0
  cases kv <;> simp only [kl] at h0 <;> try cases h0
  rename_i xs
  split at h0
  ·rename_i hz
   have CE := hT.flat _ _ _ _ eL hz
   unfold yY at CE
   split at CE
   ·rename_i fs hu
    simp only [As, arE] at CE
    obtain ⟨⟨h1, h2⟩, h3⟩ := CE
    obtain ⟨Nv, ex, _, hxs⟩ := (show gn μ h S w (.agg xs) key from Nq)
    subst ex
    have CF : P.fieldsOf kt = fs := by simp [Program.fieldsOf, hu]
    refine ⟨_, true, hu, fun em w' => CG hu h3 hxs (uB z xs xs q0 h0) em w', fun kp ek q hs hq => ?_⟩
    cases kp <;> simp only [kl, hz] at hq <;> try cases hq
    rename_i Ee
    obtain ⟨vys, rfl, _, hys⟩ := (show ∃ vs : Array Value, ek = .agg vs ∧ vs.size = Ee.length ∧ ∀ (j : Nat) (pv : PV), Ee[j]? = some pv → ∃ u : Value, vs[j]? = some u ∧ nY pv u from hs)
    refine ⟨rfl, fun w' => ?_⟩
    show (Op.equalIn 10000 kt (.agg Nv) (.agg vys)).run P w' = _
    rw [run_equalIn_struct w' 9999 kt Nv vys (by rw [CF]; exact hu) h1, CF]
    exact mE (μ := μ) (h := h) (S := S) (w := w) 9998 fs.toList z xs Ee 0 q h3 (fun j pv hj => by rw [ard]; exact hxs j pv hj) (fun j pv hj => by
     rw [ard]
     obtain ⟨u, hu, hr⟩ := hys j pv hj
     exact ⟨u, hu, rK z xs Ee q hq j pv hj u hr⟩) hq
   ·cases CE
  ·cases h0
 | _ =>
  rw [eL] at h0
  cases kv <;> simp [kl] at h0
theorem vr {d : TypeDesc} {key : Value} : ∀ (l : List MapEntry) (i s : Nat) (en : MapEntry), (∀ j, j < i → ∀ x : MapEntry, l[j]? = some x → Instr.sameNow d key x.key = some false) → l[i]? = some en → Instr.sameNow d key en.key = some true →
  Instr.findNow d key l s = some (some (s + i, en.val))
 | [], i, s, en, _, h, _ => by simp at h
 | x :: l, 0, s, en, _, h, hq => by
  simp at h; subst h
  simp [Instr.findNow, hq]
 | x :: l, i + 1, s, en, hf, h, hq => by
  have h0 := hf 0 att x rfl
  have := vr l i (s + 1) en (fun j hj y hy => hf (j + 1) att y atM) atJ hq
  simp only [Instr.findNow, h0, this]
  congr 3
  omega
theorem rL {d : TypeDesc} {key : Value} : ∀ (l : List MapEntry) (s : Nat), (∀ (j : Nat) (x : MapEntry), l[j]? = some x → Instr.sameNow d key x.key = some false) → Instr.findNow d key l s = some none
 | [], s, _ => rfl
 | x :: l, s, hf => by
  have h0 := hf 0 x rfl
  simp only [Instr.findNow, h0]
  exact rL l (s + 1) (fun j y hy => hf (j + 1) y atM)
theorem vt {kt : TypeId} {key : Value} {w' : World} : ∀ (l : List MapEntry) (i s : Nat) (en : MapEntry), (∀ j, j < i → ∀ x : MapEntry, l[j]? = some x → (Op.equal kt key x.key).run P w' = .ok false w') → l[i]? = some en → (Op.equal kt key en.key).run P w' = .ok true w' →
  (Instr.findAsking kt key l s).run P w' = .ok (some (s + i, en.val)) w'
 | [], i, s, en, _, h, _ => by simp at h
 | x :: l, 0, s, en, _, h, hq => by
  simp at h; subst h
  simp [Instr.findAsking, hq]
 | x :: l, i + 1, s, en, hf, h, hq => by
  have h0 := hf 0 att x rfl
  have := vt l i (s + 1) en (fun j hj y hy => hf (j + 1) att y atM) atJ hq
  simp only [Instr.findAsking, Sem.run_bind, h0, Result.andThen_ok, aqZ, if_false, this]
  congr 3
  omega
theorem rM {kt : TypeId} {key : Value} {w' : World} : ∀ (l : List MapEntry) (s : Nat), (∀ (j : Nat) (x : MapEntry), l[j]? = some x → (Op.equal kt key x.key).run P w' = .ok false w') → (Instr.findAsking kt key l s).run P w' = .ok none w'
 | [], s, _ => rfl
 | x :: l, s, hf => by
  have h0 := hf 0 x rfl
  simp only [Instr.findAsking, Sem.run_bind, h0, Result.andThen_ok, aqZ, if_false]
  exact rM l (s + 1) (fun j y hy => hf (j + 1) y atM)
theorem vu {kt : TypeId} {d : TypeDesc} {s : Bool} {key : Value} {w' : World} (hu : P.underlying kt = some d) (l : List MapEntry) (i : Nat) (en : MapEntry) (hf : ∀ j, j < i → ∀ x : MapEntry, l[j]? = some x → oW P kt d s key x.key false)
  (hi : l[i]? = some en) (hq : oW P kt d s key en.key true) : (Instr.findKey kt key l).run P w' = .ok (some (i, en.val)) w' := by
 unfold Instr.findKey
 cases s with
 | false =>
  have := vr l i 0 en hf hi hq
  rw [ard] at this
  simp [run_underlying hu, this]
 | true =>
  have h1 := vt (P := P) (w' := w') l i 0 en (fun j hj x hx => (hf j hj x hx).2 w') hi (hq.2 w')
  rw [ard] at h1
  have h2 : Instr.findNow d key l 0 = none := by
   cases l with
   | nil => simp at hi
   | cons x l =>
    have h3 : Instr.sameNow d key x.key = none := by
     cases i with
     | zero => simp at hi; subst hi; exact hq.1
     | succ i => exact (hf 0 att x rfl).1
    simp [Instr.findNow, h3]
  simp [run_underlying hu, h2, h1]
theorem rN {kt : TypeId} {d : TypeDesc} {s : Bool} {key : Value} {w' : World} (hu : P.underlying kt = some d) (l : List MapEntry) (hf : ∀ (j : Nat) (x : MapEntry), l[j]? = some x → oW P kt d s key x.key false) :
  (Instr.findKey kt key l).run P w' = .ok none w' := by
 unfold Instr.findKey
 cases s with
 | false => simp [run_underlying hu, rL l 0 hf]
 | true =>
  have h1 := rM (P := P) (w' := w') (kt := kt) (key := key) l 0 (fun j x hx => (hf j x hx).2 w')
  cases l with
  | nil => simp [run_underlying hu, Instr.findNow]
  | cons x l =>
   have h3 : Instr.sameNow d key x.key = none := (hf 0 x rfl).1
   simp [run_underlying hu, Instr.findNow, h3, h1]
theorem bm.v {pv : PV} {u : Value} (hc : bm μ h S w pv u) : aY μ h S w pv u := by
 cases pv <;> first | exact (show False from hc).elim | trivial | exact hc
theorem vw (hT : cd P T) (hH : bw μ h S w) (t : Nat) (x : Operand) (px : PV) (hx : aY μ h S w px (a.eval x)) (hp : rO T t px h K) :
  cq P ⟨dst, .load t x, ty, pos, after, guard⟩ a μ h S w K := by
 unfold rO at hp
 split at hp
 ·rename_i cells
  obtain ⟨b, off, vf, e1, _, h2, h3⟩ := hx.rI
  exact vo hT t x cells b off e1 (fun j pv hj => ⟨vf j, h2 j pv hj, bm.jd (h3 j pv hj)⟩) hp fun pv u _ hc => hc.v
 ·rename_i id gen i off
  split at hp
  ·rename_i g sz n e f hg
   obtain ⟨rfl, _, rfl, hp⟩ := hp
   have hh := dK hg
   have hr := hx.oV
   unfold a6 at hr
   rw [hh] at hr
   obtain ⟨_, _, hr⟩ := hr
   obtain ⟨OU, b, base, dX, CH, hv⟩ := hr rfl
   obtain ⟨hl, hc⟩ := hH id g sz n e f hh
   rw [dX] at hc
   obtain ⟨cur, hb, fv, aI⟩ := bw.cells CH.1 hc
   refine vo hT t x _ b (base + i * sz + off) hv (fun j pv hj => ?_) hp fun pv u _ hc => hc.v
   rw [arT] at hj
   obtain ⟨v, h1, h2⟩ := aI i (off + j) pv OU hj
   refine ⟨v, ?_, h2.c⟩
   rw [cell_of_row w b (base + i * sz + off + j) cur e (0, 0) hb, ← h1]
   congr 1
   omega
  ·exact asY
 ·exact asY
theorem jA {e : TypeId} {i : TypeInfo} (hi : P.info? e = some i) (w' : World) : (sizeOf e).run P w' = .ok i.size w' := by
 simp [sizeOf, typeInfo, hi]
theorem tL {t e : TypeId} {i : TypeInfo} (hu : P.underlying t = some (.slice e)) (hi : P.info? e = some i) (a : Addr) (n c : Nat) (k : IntKind) (x : Int) (h0 : 0 ≤ x) (h1 : x < n) (w' : World) :
  (Instr.indexAt t (.slice (some a) n c) (.int k x)).run P w' = .ok (.pointer (some (a.add (x.toNat * i.size)))) w' := by
 have he : P.elem t = e := by simp [Program.elem, hu]
 rw [run_indexAt_slice w' t a n c k x atQ, if_pos ⟨h0, h1⟩, he, jA hi]
 rfl
theorem Bj (hT : cd P T) (hH : bw μ h S w) (ht : ∀ t, aY μ h S w (env t) (a.tmps.getD t undef)) (t : Nat) (x i : Operand) (hp : bE T (.indexAddr t x i) env h K) :
  cq P ⟨dst, .indexAddr t x i, ty, pos, after, guard⟩ a μ h S w K := by
 have hx := bh ht x
 have hi := bh ht i
 unfold bE at hp
 simp only at hp
 split at hp
 ·rename_i e sz bt z bs n f k ix eL hex hei
  rw [hex] at hx
  rw [hei] at hi
  replace hp := aR hp
  obtain ⟨vx, ⟨h0, h1⟩, _, rfl, hK⟩ := hp
  obtain rfl := No vx
  have ei := hi.jg
  obtain ⟨hu, _, inf, zv, jT, lX, _⟩ := hT.slice _ _ _ _ _ eL
  rcases hx.pF with ⟨_, _, _, rfl⟩ | ⟨b, off, c, vf, ex, hS, hl, hc, aI, ku⟩
  ·omega
  ·have hix : ix.toNat < n := by omega
   refine .mk hK (aE.dY (f ix.toNat) b (off + ix.toNat * sz) (vf ix.toNat) hS (fun j pv hj => aI _ j pv hix hj) (fun j pv hj => ku _ j pv hix hj)) fun w' _ => tK ?_
   rw [ex, ei, tL hu jT _ _ _ _ _ h0 h1, lX, Addr.add_lit]
 ·rename_i e sz bt z id gen off len k ix eL hex hei
  rw [hex] at hx
  rw [hei] at hi
  have ei := hi.jg
  obtain ⟨hu, _, inf, zv, jT, lX, _⟩ := hT.slice _ _ _ _ _ eL
  split at hp
  ·rename_i g bs n e' f xN
   obtain ⟨rfl, hp⟩ := hp
   replace hp := aR hp
   obtain ⟨vx, ⟨h0, h1⟩, _, rfl, hK⟩ := hp
   obtain ⟨vx, hnb⟩ := Bool.and_eq_true_iff.1 vx
   obtain rfl := No vx
   have hh := dK xN
   have hr := hx.nI
   unfold aV at hr
   rw [hh] at hr
   obtain ⟨_, _, hr⟩ := hr
   obtain ⟨hle, hr⟩ := hr rfl
   cases dX : μ id with
   | none =>
    rw [dX] at hr
    obtain ⟨_, hz⟩ := hH id _ _ _ _ _ hh
    rw [dX] at hz
    have hz : n = 0 := hz
    omega
   | some p =>
    obtain ⟨b, base⟩ := p
    rw [dX] at hr
    obtain ⟨ad, cap, ex, Oi, rP, CH⟩ := hr
    have rP := rP att
    subst rP
    refine .mk hK (v := .aM id g (off + ix.toNat) 0) (val := .pointer (some ⟨b, base + (off + ix.toNat) * sz + 0, none⟩)) ?_ fun w' _ => tK ?_
    ·show a6 μ h w id g (off + ix.toNat) 0 _
     unfold a6
     rw [hh]
     exact ⟨⟨_, rfl⟩, aqP _, fun _ => ⟨by omega, b, base, dX, ⟨CH.least, fun hb => by rw [hb] at hnb; cases hnb⟩, rfl⟩⟩
    ·rw [ex, ei, tL hu jT _ _ _ _ _ h0 h1, lX, Addr.add_lit]
     have : base + off * sz + ix.toNat * sz = base + (off + ix.toNat) * sz + 0 := by rw [arq]; omega
     rw [this]
  ·exact asY
 ·exact asY
theorem vy (hT : cd P T) (ht : ∀ t, aY μ h S w (env t) (a.tmps.getD t undef)) (t : Nat) (x i : Operand) (hp : bE T (.index t x i) env h K) :
  cq P ⟨dst, .index t x i, ty, pos, after, guard⟩ a μ h S w K := by
 have hx := bh ht x
 have hi := bh ht i
 unfold bE at hp
 simp only at hp
 split at hp
 ·rename_i s k ix eL hex hei
  rw [hex] at hx
  rw [hei] at hi
  obtain ⟨⟨h0, h1⟩, _, rfl, hK⟩ := hp
  have ei := hi.jg
  have ex := hx.j9
  have hu := hT.str _ eL
  refine .mk hK (aE.int _ _) fun w' _ => tK ?_
  rw [ex, ei]
  have hb : (ByteArray.mk ⟨s⟩)[ix.toNat]? = some (s.getD ix.toNat 0) := by
   have cD : ix.toNat < s.length := by omega
   rw [arc, Of cD]
   rw [getElem?_pos (ByteArray.mk ⟨s⟩) ix.toNat cD]
   rfl
  simp only [Instr.index, asIntOf, Sem.run_bind, Sem.run_pure, Result.andThen, run_underlying hu, if_pos h0, hb]
 ·exact asY
theorem Fl (hT : cd P T) (hH : bw μ h S w) (ht : ∀ t, aY μ h S w (env t) (a.tmps.getD t undef)) (args : Array Operand) (ts : Array TypeId) (hp : bE T (.call ⟨.builtin .len, args, ts⟩) env h K) :
  cq P ⟨dst, .call ⟨.builtin .len, args, ts⟩, ty, pos, after, guard⟩ a μ h S w K := by
 obtain ⟨args⟩ := args
 obtain ⟨ts⟩ := ts
 unfold bE at hp
 simp only at hp
 split at hp
 ·rename_i x t
  have hx := bh ht x
  have fin : ∀ (n : Int) (val : Value), a.eval x = val → K (.int .i64 n) → (∀ w', (Builtin.len_ #[t] ty #[val]).run P w' = .ok (goInt n) w') →
    cq P ⟨dst, .call ⟨.builtin .len, #[x], #[t]⟩, ty, pos, after, guard⟩ a μ h S w K := fun n val sP hK hr => .mk hK (aE.int _ _) fun w' _ => by
   simp only [execOp, resolve, invoke, builtin, Sem.run_bind, Sem.run_pure, Result.andThen_ok, asx, adr, aqS, sP, hr]
   rfl
  split at hp
  ·rename_i e sz bt z bs n f eL hex
   rw [hex] at hx
   obtain ⟨hu, _⟩ := hT.slice _ _ _ _ _ eL
   have he : P.elem t = e := by simp [Program.elem, hu]
   rcases hx.pF with ⟨aa, c, ex, rfl⟩ | ⟨b, off, c, vf, ex, _⟩
   ·exact fin _ _ ex hp fun w' => run_len_slice w' t ty _ _ _ atQ
   ·exact fin _ _ ex hp fun w' => run_len_slice w' t ty _ _ _ atQ
  ·rename_i e sz bt z eL hex
   rw [hex] at hx
   obtain ⟨hu, _⟩ := hT.slice _ _ _ _ _ eL
   have he : P.elem t = e := by simp [Program.elem, hu]
   exact fin _ _ hx.mV hp fun w' => run_len_slice w' t ty _ _ _ atQ
  ·rename_i e sz bt z id gen off n eL hex
   rw [hex] at hx
   obtain ⟨hu, _⟩ := hT.slice _ _ _ _ _ eL
   have he : P.elem t = e := by simp [Program.elem, hu]
   split at hp
   ·rename_i g bs n' e' f xN
    obtain ⟨rfl, hK⟩ := hp
    have hh := dK xN
    have hr := hx.nI
    unfold aV at hr
    rw [hh] at hr
    obtain ⟨_, _, hr⟩ := hr
    obtain ⟨hle, hr⟩ := hr rfl
    have sP : ∃ aa c, a.eval x = .slice aa n c := by
     cases dX : μ id with
     | none =>
      rw [dX] at hr
      obtain ⟨_, hz⟩ := hH id _ _ _ _ _ hh
      rw [dX] at hz
      have hz : n' = 0 := hz
      have : n = 0 := by omega
      subst this
      exact ⟨_, _, hr⟩
     | some p =>
      rw [dX] at hr
      obtain ⟨ad, cap, ex, _⟩ := hr
      exact ⟨_, _, ex⟩
    obtain ⟨aa, c, ex⟩ := sP
    exact fin _ _ ex hK fun w' => run_len_slice w' t ty _ _ _ atQ
   ·exact asY
  ·rename_i s eL hex
   rw [hex] at hx
   have hu := hT.str _ eL
   refine fin _ _ hx.j9 hp fun w' => ?_
   simp [Builtin.len_, run_underlying hu]
   rfl
  ·rename_i k0 e0 z0 id eL hex
   rw [hex] at hx
   obtain ⟨hu, _⟩ := hT.map _ _ _ _ eL
   split at hp
   ·rename_i g sz n e f xN
    obtain ⟨b, base, es, c, dX, ex, hb, hn, _⟩ := vq hH (dK xN) hx.yZ
    refine .mk hp (aE.int _ _) fun w' ha => ?_
    have kr : w'.heap[b]? = some (.map es c) := (ha.blocks b (aqT.1 hb).1).trans hb
    simp only [execOp, resolve, invoke, builtin, Sem.run_bind, Sem.run_pure, Result.andThen_ok, asx, adr, aqS, ex]
    rw [show (Builtin.len_ #[t] ty #[.map (some b)]).run P w' = .ok (goInt es.size) w' by simp [Builtin.len_, run_underlying hu, run_getObj_map w' b es c kr]]
    rw [hn]
    rfl
   ·exact asY
  ·exact asY
 ·exact asY
theorem tM (s : List UInt8) (l m : Nat) : (ByteArray.mk ⟨s⟩).extract l m = ByteArray.mk ⟨(s.take m).drop l⟩ := by
 apply ByteArray.ext
 rw [ByteArray.data_extract]
 apply Array.ext'
 rw [List.drop_take]
 simp [Array.toList_extract, List.extract]
theorem Fm (hT : cd P T) (hH : bw μ h S w) (id g off len sz n : Nat) (e : TypeId) (f : Nat → List PV) (hh : h[id]? = some (ak.row g sz n e f)) (v : Value) (hv : aY μ h S w (.own id g off len) v) (l m : Nat) (hl : l ≤ m) (hm : m ≤ len) :
  ∃ aa c, v = .slice aa len c ∧ len ≤ c ∧ ∀ (mx : Nat), m ≤ mx → mx ≤ c → aY μ h S w (.own id g (off + l) (m - l)) (.slice (if mx = l then aa else aa.map (·.add (l * sz))) (m - l) (mx - l)) := by
 have hr := hv.nI
 unfold aV at hr
 rw [hh] at hr
 obtain ⟨_, _, hr⟩ := hr
 obtain ⟨hle, hr⟩ := hr rfl
 cases dX : μ id with
 | none =>
  rw [dX] at hr
  obtain ⟨_, hz⟩ := hH id _ _ _ _ _ hh
  rw [dX] at hz
  have hz : n = 0 := hz
  have h0 : len = 0 := by omega
  subst h0
  have hr : v = .slice none 0 0 := hr
  refine ⟨none, 0, hr, aqP _, fun mx h1 h2 => ?_⟩
  have hm0 : m = 0 := by omega
  have zW : l = 0 := by omega
  have hx0 : mx = 0 := by omega
  subst hm0
  subst zW
  subst hx0
  show aV μ h w id g (off + 0) (0 - 0) _
  unfold aV
  rw [hh]
  refine ⟨⟨_, _, _, rfl⟩, aqP _, fun _ => ⟨by omega, ?_⟩⟩
  rw [dX]
  rfl
 | some p =>
  obtain ⟨b, base⟩ := p
  rw [dX] at hr
  obtain ⟨ad, cap, ex, Oi, rP, dT⟩ := hr
  refine ⟨some ad, cap, ex, Oi, fun mx h1 h2 => ?_⟩
  show aV μ h w id g (off + l) (m - l) _
  unfold aV
  rw [hh]
  refine ⟨⟨_, _, _, rfl⟩, aqP _, fun _ => ⟨by omega, ?_⟩⟩
  rw [dX]
  by_cases hml : mx = l
  ·refine ⟨ad, 0, by rw [if_pos hml]; subst hml; simp, by omega, fun h => absurd h att, ?_⟩
   obtain ⟨cur, e', z, q1, q2⟩ := dT
   refine ⟨cur, e', z, q1, arN ?_ q2⟩
   have : (off + l + 0) * sz ≤ (off + cap) * sz := ari _ att
   omega
  ·have rP := rP att
   subst rP
   refine ⟨⟨b, base + (off + l) * sz, none⟩, mx - l, ?_, by omega, fun _ => rfl, ?_⟩
   ·rw [if_neg hml, Option.map_some, Addr.add_lit, arq, asC]
   ·obtain ⟨cur, e', z, q1, q2⟩ := dT
    refine ⟨cur, e', z, q1, arN ?_ q2⟩
    have : (off + l + (mx - l)) * sz ≤ (off + cap) * sz := ari _ att
    omega
theorem Fo (sz n : Nat) (f : Nat → List PV) (v : Value) (hv : aY μ h S w (.eu sz n f) v) (l m : Nat) (hl : l ≤ m) (hm : m ≤ n) :
  ∃ aa c, v = .slice aa n c ∧ ((n ≤ c ∨ n = 0) ∧ ∀ (mx : Nat), m ≤ mx → (mx ≤ c ∨ m = 0) → aY μ h S w (.eu sz (m - l) (fun i => f (l + i))) (.slice (if mx = l then aa else aa.map (·.add (l * sz))) (m - l) (mx - l))) := by
 rcases hv.pF with ⟨aa, c, ex, rfl⟩ | ⟨b, off, c, vf, ex, hS, hlen, hc, aI, ku⟩
 ·have hm0 : m = 0 := by omega
  subst hm0
  have zW : l = 0 := by omega
  subst zW
  exact ⟨aa, c, ex, .inr rfl, fun mx _ _ => aE.lV _ _ _ _⟩
 ·refine ⟨_, c, ex, .inl hc, fun mx h1 h2 => ?_⟩
  by_cases hml : m = l
  ·subst hml
   rw [arS]
   exact aE.lV _ _ _ _
  ·rw [if_neg att, Option.map_some, Addr.add_lit]
   refine aE.eu sz (m - l) _ b (off + l * sz) (mx - l) (fun i j => vf (l + i) j) hS (fun i hi => hlen _ att) att (fun i j pv hi hj => ?_) (fun i j pv hi hj => ku _ j pv att hj)
   have := aI (l + i) j pv att hj
   rw [arq] at this
   rw [← this]
   congr 2
   omega
theorem bY {o : Oper} {s : Sem Value} {val : Value} {w' KK : World} (he : execOp a.eval o = (do pure (Next.value (← s)) : Sem Next)) (hs : s.run P w' = .ok val KK) : (execOp a.eval o).run P w' = .ok (.value val) KK := by
 rw [he]; exact tK hs
theorem qz (hx : ∀ x, aY μ h S w (ev env x) (a.eval x)) {lo : Option Operand} : (lo.map (ev env) = none → lo.map a.eval = none) ∧ ∀ k n, lo.map (ev env) = some (.int k n) → lo.map a.eval = some (.int k n) := by
 cases lo with
 | none => exact ⟨fun _ => rfl, fun k n h => (by cases h)⟩
 | some x =>
  refine ⟨fun h => (by cases h), fun k n hh => ?_⟩
  have hh : ev env x = .int k n := by injection hh
  have := hx x
  rw [hh] at this
  show some (a.eval x) = _
  rw [this.jg]
theorem CI {t e : TypeId} {i : TypeInfo} (hu : P.underlying t = some (.slice e)) (hi : P.info? e = some i) (aa : Option Addr) (n c : Nat) (hc : n ≤ c) (w' : World) :
  ((Instr.sliceAt t (.slice aa n c) none none none).run P w' = .ok (sliced aa 0 n c i.size) w') ∧
  (∀ (k : IntKind) (l : Int), 0 ≤ l → l ≤ n → (Instr.sliceAt t (.slice aa n c) (some (.int k l)) none none).run P w' = .ok (sliced aa l.toNat n c i.size) w') ∧
  (∀ (k : IntKind) (m : Int), 0 ≤ m → m ≤ n → (Instr.sliceAt t (.slice aa n c) none (some (.int k m)) none).run P w' = .ok (sliced aa 0 m.toNat c i.size) w') ∧
  (∀ (k : IntKind) (l : Int) (k' : IntKind) (m : Int), 0 ≤ l → l ≤ m → m ≤ n → (Instr.sliceAt t (.slice aa n c) (some (.int k l)) (some (.int k' m)) none).run P w' = .ok (sliced aa l.toNat m.toNat c i.size) w') ∧
  (∀ (k : IntKind) (m : Int) (k' : IntKind) (q : Int), 0 ≤ m → m ≤ q → q ≤ n → (Instr.sliceAt t (.slice aa n c) none (some (.int k m)) (some (.int k' q))).run P w' = .ok (sliced aa 0 m.toNat q.toNat i.size) w') ∧
  (∀ (k : IntKind) (l : Int) (k' : IntKind) (m : Int) (k'' : IntKind) (q : Int), 0 ≤ l → l ≤ m → m ≤ q → q ≤ n → (Instr.sliceAt t (.slice aa n c) (some (.int k l)) (some (.int k' m)) (some (.int k'' q))).run P w' = .ok (sliced aa l.toNat m.toNat q.toNat i.size) w') := by
 have he : P.elem t = e := by simp [Program.elem, hu]
 have Zx : P.underlying t = some (.slice (P.elem t)) := by rw [he]; exact hu
 have TX : (n : Int) ≤ c := by omega
 refine ⟨?_, fun k l h0 h1 => ?_, fun k m h0 h1 => ?_, fun k l k' m h0 h1 h2 => ?_, fun k m k' q h0 h1 h2 => ?_, fun k l k' m k'' q h0 h1 h2 h3 => ?_⟩ <;> rw [run_sliceAt_slice w' _ _ _ _ _ Zx]
 ·rw [run_slice_all w' t aa n c Zx, he, jA hi]; rfl
 ·rw [run_slice_l w' t aa n c Zx k l h0 h1, he, jA hi]; rfl
 ·rw [run_slice_h w' t aa n c Zx k m h0 att, he, jA hi]; rfl
 ·rw [run_slice_lh w' t aa n c Zx k k' l m h0 h1 att, he, jA hi]; rfl
 ·rw [run_slice_hm w' t aa n c Zx k k' m q h0 h1 att, he, jA hi]; rfl
 ·rw [run_slice_lhm w' t aa n c Zx k k' k'' l m q h0 h1 h2 att, he, jA hi]; rfl
theorem cq.choose {o : Oper} (hs : cq P o a μ h S w (Bk K)) : cq P o a μ h S w K := by
 obtain ⟨v, val, hK, hv, hr⟩ := hs
 cases v with
 | eu sz n f =>
  obtain ⟨n', f', rfl, hf, hK⟩ := hK
  refine ⟨_, val, hK, ?_, hr⟩
  rcases hv.pF with ⟨a, c, rfl, rfl⟩ | ⟨b, off, c, vf, rfl, h1, h2, h3, h4, h5⟩
  ·exact aE.lV _ _ _ _
  ·exact aE.eu sz n' f' b off c vf h1 (fun i hi => by rw [hf i hi]; exact h2 i hi) h3 (fun i j pv hi hj => h4 i j pv hi atL) (fun i j pv hi hj => h5 i j pv hi atL)
 | str s =>
  obtain ⟨_, rfl, hK⟩ := hK
  exact ⟨_, val, hK, hv, hr⟩
 | own id g off n =>
  obtain ⟨_, _, rfl, rfl, hK⟩ := hK
  exact ⟨_, val, hK, hv, hr⟩
 | _ => exact ⟨_, val, hK, hv, hr⟩
theorem Bl (hT : cd P T) (hH : bw μ h S w) (ht : ∀ t, aY μ h S w (env t) (a.tmps.getD t undef)) (t : Nat) (x : Operand) (lo hi mx : Option Operand) (hp : bE T (.slice t x lo hi mx) env h K) :
  cq P ⟨dst, .slice t x lo hi mx, ty, pos, after, guard⟩ a μ h S w K := by
 have hx := bh ht x
 have Nw := qz (fun x => bh ht x) (lo := lo)
 have Nx := qz (fun x => bh ht x) (lo := hi)
 have hmx := qz (fun x => bh ht x) (lo := mx)
 unfold bE at hp
 simp only at hp
 have key : ∀ (K : PV → Prop) (e : TypeId) (i : TypeInfo) (sz n : Nat) (aa : Option Addr) (c : Nat) (R : Nat → Nat → PV), P.underlying t = some (.slice e) → P.info? e = some i → i.size = sz → a.eval x = .slice aa n c → n ≤ c →
   (∀ l m mx, l ≤ m → m ≤ n → m ≤ mx → mx ≤ c → aY μ h S w (R l m) (.slice (if mx = l then aa else aa.map (·.add (l * sz))) (m - l) (mx - l))) → OV n (hi.map (ev env)) (mx.map (ev env)) →
   (match lo.map (ev env), hi.map (ev env) with
    | none, none => K (R 0 n)
    | some (.int _ l), none => (0 ≤ l ∧ l ≤ n) ∧ K (R l.toNat n)
    | none, some (.int _ m) => (0 ≤ m ∧ m ≤ n) ∧ K (R 0 m.toNat)
    | some (.int _ l), some (.int _ m) => (0 ≤ l ∧ l ≤ m ∧ m ≤ n) ∧ K (R l.toNat m.toNat)
    | _, _ => False) → cq P ⟨dst, .slice t x lo hi mx, ty, pos, after, guard⟩ a μ h S w K := by
  intro K e i sz n aa c R hu jT lX ex hc hR hm hp
  subst lX
  have jx := fun w' => CI (P := P) hu jT aa n c hc w'
  have fin : ∀ (l m q : Nat), l ≤ m → m ≤ n → m ≤ q → q ≤ c → K (R l m) → (∀ w', (Instr.sliceAt t (.slice aa n c) (lo.map a.eval) (hi.map a.eval) (mx.map a.eval)).run P w' = .ok (sliced aa l m q i.size) w') →
    cq P ⟨dst, .slice t x lo hi mx, ty, pos, after, guard⟩ a μ h S w K := fun l m q h1 h2 h3 h4 hK hr => .mk hK (hR l m q h1 h2 h3 h4) fun w' _ => bY rfl (by rw [ex]; exact hr w')
  unfold OV at hm
  split at hm
  ·rename_i e3
   have e3 := hmx.1 e3
   split at hp
   ·rename_i e1 e2
    exact fin 0 n c att att hc att hp fun w' => by rw [Nw.1 e1, Nx.1 e2, e3]; exact (jx w').1
   ·rename_i k l e1 e2
    obtain ⟨⟨h0, h1⟩, hp⟩ := hp
    exact fin l.toNat n c att att hc att hp fun w' => by rw [Nw.2 _ _ e1, Nx.1 e2, e3]; exact (jx w').2.1 _ _ h0 h1
   ·rename_i k m e1 e2
    obtain ⟨⟨h0, h1⟩, hp⟩ := hp
    exact fin 0 m.toNat c att att att att hp fun w' => by rw [Nw.1 e1, Nx.2 _ _ e2, e3]; exact (jx w').2.2.1 _ _ h0 h1
   ·rename_i k l k' m e1 e2
    obtain ⟨⟨h0, h1, h2⟩, hp⟩ := hp
    exact fin l.toNat m.toNat c att att att att hp fun w' => by rw [Nw.2 _ _ e1, Nx.2 _ _ e2, e3]; exact (jx w').2.2.2.1 _ _ _ _ h0 h1 h2
   ·exact asY
  ·rename_i k'' q e3
   have e3 := hmx.2 _ _ e3
   split at hm
   ·rename_i k3 m e2'
    obtain ⟨hm1, hm2⟩ := hm
    rw [e2'] at hp
    split at hp
    ·rename_i e1 e2
     cases e2
    ·rename_i e1 e2
     cases e2
    ·rename_i k m' e1 e2
     injection e2 with e2
     injection e2 with ea eb
     subst ea
     subst eb
     obtain ⟨⟨h0, h1⟩, hp⟩ := hp
     exact fin 0 m.toNat q.toNat att att att att hp fun w' => by rw [Nw.1 e1, Nx.2 _ _ e2', e3]; exact (jx w').2.2.2.2.1 _ _ _ _ h0 hm1 hm2
    ·rename_i k l k' m' e1 e2
     injection e2 with e2
     injection e2 with ea eb
     subst ea
     subst eb
     obtain ⟨⟨h0, h1, h2⟩, hp⟩ := hp
     exact fin l.toNat m.toNat q.toNat att att att att hp fun w' => by rw [Nw.2 _ _ e1, Nx.2 _ _ e2', e3]; exact (jx w').2.2.2.2.2 _ _ _ _ _ _ h0 h1 hm1 hm2
    ·exact asY
   ·exact hm.elim
  ·exact hm.elim
 split at hp
 ·rename_i e sz bt z bs n f eL hex
  rw [hex] at hx
  replace hp := aR hp
  obtain ⟨vx, hm, hp⟩ := hp
  obtain rfl := No vx
  obtain ⟨hu, _, inf, zv, jT, lX, _⟩ := hT.slice _ _ _ _ _ eL
  have e0 : (fun i => f (0 + i)) = f := by funext i; rw [ard]
  have KL := fun l m (h1 : l ≤ m) (h2 : m ≤ n) => Fo sz n f _ hx l m h1 h2
  obtain ⟨aa, c, ex, hc, _⟩ := KL 0 0 (aqP _) (asm _)
  have hc : n ≤ c := by rcases hc with hc | hc <;> omega
  refine cq.choose ?_
  refine key (Bk K) e inf sz n aa c (fun l m => .eu sz (m - l) (fun i => f (l + i))) hu jT lX ex hc (fun l m q h1 h2 h3 h4 => ?_) hm ?_
  ·obtain ⟨aa', c', ex', _, hR⟩ := KL l m h1 h2
   rw [ex] at ex'
   injection ex' with e1 e2 e3
   subst e1
   subst e3
   exact hR q h3 (.inl h4)
  ·simp only [e0, Nat.sub_zero]
   exact hp
 ·rename_i e sz bt z id gen off len eL hex
  rw [hex] at hx
  obtain ⟨hu, _, inf, zv, jT, lX, _⟩ := hT.slice _ _ _ _ _ eL
  split at hp
  ·rename_i g bs n' e' f xN
   obtain ⟨rfl, hp⟩ := hp
   replace hp := aR hp
   obtain ⟨vx, hm, hp⟩ := hp
   obtain rfl := No vx
   have hh := dK xN
   have KL := fun l m (h1 : l ≤ m) (h2 : m ≤ len) => Fm hT hH id g off len sz n' e' f hh _ hx l m h1 h2
   obtain ⟨aa, c, ex, hc, _⟩ := KL 0 0 (aqP _) (asm _)
   refine cq.choose ?_
   refine key (Bk K) e inf sz len aa c (fun l m => .own id g (off + l) (m - l)) hu jT lX ex hc (fun l m q h1 h2 h3 h4 => ?_) hm ?_
   ·obtain ⟨aa', c', ex', _, hR⟩ := KL l m h1 h2
    rw [ex] at ex'
    injection ex' with e1 e2 e3
    subst e1
    subst e3
    exact hR q h3 h4
   ·exact hp
  ·exact asY
 ·rename_i s eL hex
  rw [hex] at hx
  replace hp := aR hp
  obtain ⟨hmn, hp⟩ := hp
  obtain rfl : mx = none := by simpa using hmn
  refine cq.choose ?_
  generalize Bk K = K at *
  have ex := hx.j9
  have hu := hT.str _ eL
  have fv : (ByteArray.mk ⟨s⟩).size = s.length := rfl
  have fin : ∀ (l m : Nat) (s' : List UInt8), s' = (s.take m).drop l → K (.str s') → (∀ w', (Instr.sliceAt t (.string ⟨⟨s⟩⟩) (lo.map a.eval) (hi.map a.eval) none).run P w' = .ok (.string ((ByteArray.mk ⟨s⟩).extract l m)) w') →
    cq P ⟨dst, .slice t x lo hi none, ty, pos, after, guard⟩ a μ h S w K := fun l m s' hs hK hr => .mk hK (aE.str _) fun w' _ => bY rfl (by rw [ex, hs, ← tM]; exact hr w')
  simp only [vz] at hp
  split at hp
  ·rename_i e1 e2
   exact fin 0 s.length s atv hp fun w' => by rw [Nw.1 e1, Nx.1 e2, run_sliceAt_string w' _ _ _ _ _ hu, run_slice_string_all w' t ⟨⟨s⟩⟩ hu]; rfl
  ·rename_i k l e1 e2
   obtain ⟨⟨h0, h1⟩, hp⟩ := hp
   exact fin l.toNat s.length _ atv hp fun w' => by rw [Nw.2 _ _ e1, Nx.1 e2, run_sliceAt_string w' _ _ _ _ _ hu, run_slice_string_l w' t ⟨⟨s⟩⟩ hu k l h0 h1]; rfl
  ·rename_i k m e1 e2
   obtain ⟨⟨h0, h1⟩, hp⟩ := hp
   exact fin 0 m.toNat _ atv hp fun w' => by rw [Nw.1 e1, Nx.2 _ _ e2, run_sliceAt_string w' _ _ _ _ _ hu, run_slice_string_h w' t ⟨⟨s⟩⟩ hu k m h0 h1]
  ·rename_i k l k' m e1 e2
   obtain ⟨⟨h0, h1, h2⟩, hp⟩ := hp
   exact fin l.toNat m.toNat _ rfl hp fun w' => by rw [Nw.2 _ _ e1, Nx.2 _ _ e2, run_sliceAt_string w' _ _ _ _ _ hu, run_slice_string w' t ⟨⟨s⟩⟩ k k' l m hu h0 h1 h2]
  ·exact asY
 ·exact asY
theorem mh : ∀ (cs l : List PV) (off j : Nat), off + cs.length ≤ l.length → (gr l off cs)[j]? = if off ≤ j ∧ j < off + cs.length then cs[j - off]? else l[j]?
 | [], l, off, j, _ => by
  simp only [gr, mg, arR]
  rw [if_neg att]
 | c :: r, l, off, j, hl => by
  simp only [gr, an] at hl ⊢
  rw [mh r (l.set off c) (off + 1) j atx]
  by_cases h1 : j = off
  ·subst h1
   rw [if_neg att, if_pos att, arS, asb att]
   rfl
  ·rw [arF att]
   by_cases h2 : off + 1 ≤ j ∧ j < off + 1 + r.length
   ·rw [if_pos h2, if_pos att]
    have : j - off = (j - (off + 1)) + 1 := by omega
    rw [this, List.getElem?_cons_succ]
   ·rw [if_neg h2, if_neg att]
theorem ke : ∀ (cs l : List PV) (off : Nat), (gr l off cs).length = l.length
 | [], _, _ => rfl
 | c :: r, l, off => by simp only [gr]; rw [ke r]; simp
theorem aE.no {pv : PV} {v : Value} (h : aE S w pv v) : eC pv = false := by cases h <;> rfl
theorem Eh {c : PV} (h : jN c = true) : eC c = false := by cases c <;> first | rfl | cases h
theorem CJ {v : PV} (h : storable v = true) {j : Nat} {pv : PV} (hj : (cellsOf v)[j]? = some pv) : eC pv = false := by
 have hm := arh hj
 cases v with
 | agg cs => exact Eh (aqW.1 h pv hm)
 | _ => exact Eh (by rw [List.mem_singleton.1 hm]; exact h)
theorem kf {pv : PV} {v : Value} (hs : storable pv = true) (hv : aY μ h S w pv v) :
  v.cells.toList.length = (cellsOf pv).length ∧ ∀ (j : Nat) (p : PV), (cellsOf pv)[j]? = some p → ∃ u, v.cells.toList[j]? = some u ∧ bm μ h S w p u := by
 have one : ∀ (hc : bm μ h S w pv v), cellsOf pv = [pv] → v.cells.toList.length = (cellsOf pv).length ∧ ∀ (j : Nat) (p : PV), (cellsOf pv)[j]? = some p → ∃ u, v.cells.toList[j]? = some u ∧ bm μ h S w p u := by
  intro hc he
  have h1 := hc.one
  have h2 : v.cells = #[v] := by cases v <;> first | rfl | cases h1
  rw [h2, he]
  refine ⟨rfl, fun j p hj => ?_⟩
  cases j with
  | zero =>
   simp at hj
   subst hj
   exact ⟨v, rfl, hc⟩
  | succ j => simp at hj
 cases pv with
 | agg cs =>
  obtain ⟨vs, rfl, h2, h3⟩ := hv
  refine ⟨by simpa [Value.cells, cellsOf] using h2, fun j p hj => ?_⟩
  obtain ⟨u, hu, hr⟩ := h3 j p hj
  exact ⟨u, by simpa [Value.cells] using hu, hr⟩
 | aU vs => cases hs
 | fm sz n e f F => cases hs
 | fO => cases hs
 | kP id => exact one hv rfl
 | kX f bp => exact one hv rfl
 | int k n => exact one hv rfl
 | bool b => exact one hv rfl
 | str s => exact one hv rfl
 | bf => exact one hv rfl
 | dt => exact one hv rfl
 | eu sz n f => exact one hv rfl
 | dY cs => exact one hv rfl
 | own id gen off len => exact one hv rfl
 | aM id gen i off => exact one hv rfl
 | fn f => exact one hv rfl
theorem xO : ∀ (l : List Value) (s off : Nat) (cs : Array Value), off + s + l.length ≤ cs.size →
  ((l.zipIdx s).foldl (fun (cs : Array Value) (p : Value × Nat) => cs.setIfInBounds (off + p.2) p.1) cs).size = cs.size ∧
  ∀ q, ((l.zipIdx s).foldl (fun (cs : Array Value) (p : Value × Nat) => cs.setIfInBounds (off + p.2) p.1) cs)[q]? = if off + s ≤ q ∧ q < off + s + l.length then l[q - (off + s)]? else cs[q]?
 | [], s, off, cs, _ => by
  refine ⟨rfl, fun q => ?_⟩
  simp only [List.zipIdx_nil, List.foldl_nil, mg, arR]
  rw [if_neg att]
 | v :: r, s, off, cs, hl => by
  simp only [an] at hl
  obtain ⟨h1, h2⟩ := xO r (s + 1) off (cs.setIfInBounds (off + s) v) atx
  simp only [List.zipIdx_cons, List.foldl_cons, an]
  refine ⟨by rw [h1]; simp, fun q => ?_⟩
  rw [h2 q]
  by_cases hq : q = off + s
  ·subst hq
   rw [if_neg att, if_pos att, arS]
   simp [Array.getElem?_setIfInBounds, show off + s < cs.size from by omega]
  ·by_cases hr : off + (s + 1) ≤ q ∧ q < off + (s + 1) + r.length
   ·rw [if_pos hr, if_pos att]
    have : q - (off + s) = (q - (off + (s + 1))) + 1 := by omega
    rw [this, List.getElem?_cons_succ]
   ·rw [if_neg hr, if_neg att, asd att]
theorem nZ (v : Value) (off : Nat) (cs : Array Value) (hl : off + v.cells.size ≤ cs.size) :
  (v.cells.zipIdx.foldl (fun (cs : Array Value) (p : Value × Nat) => cs.setIfInBounds (off + p.2) p.1) cs).size = cs.size ∧
  ∀ q, (v.cells.zipIdx.foldl (fun (cs : Array Value) (p : Value × Nat) => cs.setIfInBounds (off + p.2) p.1) cs)[q]? = if off ≤ q ∧ q < off + v.cells.size then v.cells[q - off]? else cs[q]? := by
 have h := xO v.cells.toList 0 off cs (by simpa using hl)
 rw [← Array.foldl_toList]
 simp only [Array.toList_zipIdx, arR, arM, aro] at h ⊢
 exact h
theorem CK {l : List PV} (hb : isByte l = true) : ∃ v, l = [.int .u8 v] := by
 unfold isByte at hb
 split at hb
 ·exact ⟨_, rfl⟩
 ·cases hb
theorem vA {g : Nat → List PV} {s : List UInt8} {n : Nat} (hl : s.length = n) (hf : ∀ i, i < n → g i = [.int .u8 (s.getD i 0).toNat]) : (∀ i, i < n → isByte (g i) = true) ∧ (List.range n).map (fun i => byteOf (g i)) = s := by
 refine ⟨fun i hi => by rw [hf i hi]; rfl, ?_⟩
 apply List.ext_getElem (by simp [hl])
 intro i h1 h2
 simp only [asn, List.length_range] at h1
 rw [List.getElem_map, List.getElem_range, hf i h1]
 simp [byteOf, arc, Of h2]
theorem w7 (hT : cd P T) (hH : bw μ h S w) (ht : ∀ t, aY μ h S w (env t) (a.tmps.getD t undef)) (s d : Nat) (x : Operand) (hp : bE T (.convert s d x) env h K) :
  cq P ⟨dst, .convert s d x, ty, pos, after, guard⟩ a μ h S w K := by
 have hx := bh ht x
 unfold bE at hp
 simp only at hp
 split at hp
 ·rename_i k0 k k1 n hs hd hex
  rw [hex] at hx
  exact .mk hp (aE.int _ _) fun w' _ => bY rfl (by
   rw [hx.jg]
   simp [convert, run_underlying (hT.int _ _ hs), run_underlying (hT.int _ _ hd), Conv.intToInt])
 ·rename_i e sz bt z hs hd
  split at hp
  ·rename_i hte
   have hu := (hT.slice _ _ _ _ _ hs).1
   have hue := hT.int _ _ hte
   have hud := hT.str _ hd
   have key : ∀ (b off c n : Nat) (g : Nat → List PV), a.eval x = .slice (some ⟨b, off, none⟩) n c → (∀ i, i < n → isByte (g i) = true) → K (.str ((List.range n).map fun i => byteOf (g i))) →
     (∀ i v, i < n → g i = [.int .u8 v] → w.cell? ⟨b, off + i, none⟩ = some (.int .u8 v)) → cq P ⟨dst, .convert s d x, ty, pos, after, guard⟩ a μ h S w K := by
    intro b off c n g ex hb hK aI
    have num : ∀ i, i < n → ∃ v, g i = [.int .u8 v] := fun i hi => CK (hb i hi)
    let val : Nat → Int := fun i => match g i with | [.int _ v] => v | _ => 0
    have sP : ∀ i, i < n → g i = [.int .u8 (val i)] := fun i hi => by
     obtain ⟨v, hv⟩ := num i hi
     simp only [val, hv]
    refine .mk hK (aE.str _) fun w' ha => bY rfl ?_
    rw [ex, run_convert_bytes_arg w' s e hu hue b off n c ((List.range n).map val) atv (fun i hi => ?_) d hud]
    ·congr 2
     simp only [strOfNums]
     have : ((List.range n).map val).map (fun q => UInt8.ofNat q.toNat) = (List.range n).map fun i => byteOf (g i) := by
      rw [List.map_map]
      apply List.map_congr_left
      intro i hi
      rw [sP i (ash.1 hi)]
      rfl
     rw [this]
    ·rw [ha.cell (aI i _ hi (sP i hi))]
     simp [arc, hi]
   unfold qA at hp
   split at hp
   ·rename_i hex
    rw [hex] at hx
    refine .mk hp (aE.str _) fun w' _ => bY rfl ?_
    rw [hx.mV, run_convert_bytes_nil w' s e hu hue 0 0 d hud]
    rfl
   ·rename_i bs n f hex
    rw [hex] at hx
    replace hp := aR hp
    obtain ⟨h1, s0, zW, OW, hK⟩ := hp
    obtain ⟨hb, Zy⟩ := vA zW OW
    replace hK : K (.str s0) := hK
    rw [← Zy] at hK
    clear zW OW Zy
    obtain rfl := No h1
    rcases hx.pF with ⟨aa, c, ex, rfl⟩ | ⟨b, off, c, vf, ex, hS, hl, hc, aI, ku⟩
    ·cases aa with
     | none =>
      refine .mk hK (aE.str _) fun w' _ => bY rfl ?_
      rw [ex, run_convert_bytes_nil w' s e hu hue 0 c d hud]
      rfl
     | some ad =>
      refine .mk hK (aE.str _) fun w' _ => bY rfl ?_
      rw [ex, run_convert_bytes_string w' s d e _ 0 c hu hue hud, run_bytesToString w' ad 0 c [] (by simp [loadCells, loadCellsFrom])]
      rfl
    ·refine key b off c n f ex hb hK fun i v hi hv => ?_
     have q1 := aI i 0 (.int .u8 v) hi (by rw [hv]; rfl)
     have q2 := ku i 0 (.int .u8 v) hi (by rw [hv]; rfl)
     rw [Nat.mul_one, arR] at q1
     rw [q1]
     generalize vf i 0 = u at q2
     cases q2
     rfl
   ·rename_i id gen off n hex
    rw [hex] at hx
    split at hp
    ·rename_i g bs n' e' f xN
     obtain ⟨rfl, hp⟩ := hp
     replace hp := aR hp
     obtain ⟨h1, s0, zW, OW, hK⟩ := hp
     obtain ⟨hb, Zy⟩ := vA (g := fun i => f (off + i)) zW OW
     replace hK : K (.str s0) := hK
     rw [← Zy] at hK
     clear zW OW Zy
     obtain rfl := No h1
     have hh := dK xN
     have hr := hx.nI
     unfold aV at hr
     rw [hh] at hr
     obtain ⟨⟨a0, l0, c0, e0⟩, _, hr⟩ := hr
     obtain ⟨hln, hr⟩ := hr rfl
     obtain ⟨hl, hc⟩ := hH id g 1 n' e' f hh
     cases hm : μ id with
     | none =>
      rw [hm] at hr hc
      have hn0 : n = 0 := by omega
      subst hn0
      refine .mk hK (aE.str _) fun w' _ => bY rfl ?_
      rw [show a.eval x = .slice none 0 0 from hr, run_convert_bytes_nil w' s e hu hue 0 0 d hud]
      rfl
     | some p =>
      obtain ⟨b, base⟩ := p
      rw [hm] at hr hc
      obtain ⟨ad, cap, ex, dT, rP, CH⟩ := hr
      obtain ⟨cur, kr, mP, aI⟩ := bw.cells CH hc
      rcases arP n with h0 | h0
      ·subst h0
       refine .mk hK (aE.str _) fun w' _ => bY rfl ?_
       rw [ex, run_convert_bytes_string w' s d e _ 0 cap hu hue hud, run_bytesToString w' ad 0 cap [] (by simp [loadCells, loadCellsFrom])]
       rfl
      ·rw [rP att, Nat.mul_one] at ex
       refine key b (base + off) cap n (fun i => f (off + i)) ex hb hK fun i v hi hv => ?_
       obtain ⟨u, q1, q2⟩ := aI (off + i) 0 (.int .u8 v) att (by rw [hv]; rfl)
       have q2 : aE S w (.int .u8 v) u := q2
       cases q2
       rw [cell_of_row w b (base + off + i) cur e' (0, 0) kr, ← q1]
       congr 1
       omega
    ·exact asY
   ·exact asY
  ·exact asY
 ·exact asY
theorem vB (ht : ∀ t, aY μ h S w (env t) (a.tmps.getD t undef)) (x : Operand) (hp : bE T (.nilCheck x) env h K) :
  cq P ⟨dst, .nilCheck x, ty, pos, after, guard⟩ a μ h S w K := by
 have hx := bh ht x
 unfold bE at hp
 simp only at hp
 split at hp
 ·rename_i cs hex
  rw [hex] at hx
  obtain ⟨b, off, vf, ex, _⟩ := hx.rI
  exact .mk hp hx fun w' _ => by simp [execOp, ex]
 ·rename_i id gen i off hex
  rw [hex] at hx
  split at hp
  ·rename_i g sz n e f xN
   obtain ⟨rfl, hp⟩ := hp
   have hh := dK xN
   have hr := hx.oV
   unfold a6 at hr
   rw [hh] at hr
   obtain ⟨_, _, hr⟩ := hr
   obtain ⟨OU, b, base, dX, CH, hv⟩ := hr rfl
   exact .mk hp hx fun w' _ => by simp [execOp, hv]
  ·exact asY
 ·exact asY
theorem tN (hT : cd P T) {s sz k o size : Nat} {fl : List (Nat × Nat × Bool)} {z : List PV} {ag : Bool} (eL : T.get s = .struct sz fl z) (hk : fl[k]? = some (o, size, ag)) (b off : Nat) (w' : World) :
  (Instr.fieldAt s (.pointer (some ⟨b, off, none⟩)) k).run P w' = .ok (.pointer (some ⟨b, off + o, none⟩)) w' := by
 obtain ⟨fs, i, hu, hi, fv, CE, _, hf⟩ := hT.struct _ _ _ _ eL
 obtain ⟨f, j, d, h1, h2, h3, h4, h5, h6, h7⟩ := hf k o size ag hk
 have h0 : ¬ j.size = 0 := by omega
 simp [Instr.fieldAt, run_underlying hu, h1, Instr.sureAddr, fieldPlace, jA h3, h0, Addr.add_lit, h2]
theorem uj (hT : cd P T) (ht : ∀ t, aY μ h S w (env t) (a.tmps.getD t undef)) (s : Nat) (x : Operand) (k : Nat) (hp : bE T (.fieldAddr s x k) env h K) :
  cq P ⟨dst, .fieldAddr s x k, ty, pos, after, guard⟩ a μ h S w K := by
 have hx := bh ht x
 unfold bE at hp
 simp only at hp
 split at hp
 ·rename_i sz fl z eL
  split at hp
  ·rename_i o size ag hk
   split at hp
   ·rename_i cs hex
    rw [hex] at hx
    obtain ⟨b, off, vf, ex, hS, aI, ku⟩ := hx.rI
    refine .mk hp (aE.dY (cs.drop o) b (off + o) (fun j => vf (o + j)) hS (fun j pv hj => ?_) (fun j pv hj => ?_)) fun w' _ => bY rfl (by rw [ex]; exact tN hT eL hk b off w')
    ·rw [arT] at hj
     rw [asC]
     exact aI _ _ hj
    ·rw [arT] at hj
     exact ku _ _ hj
   ·rename_i id gen i off hex
    rw [hex] at hx
    split at hp
    ·rename_i g bs n e f xN
     obtain ⟨rfl, hp⟩ := hp
     have hh := dK xN
     have hr := hx.oV
     unfold a6 at hr
     rw [hh] at hr
     obtain ⟨_, _, hr⟩ := hr
     obtain ⟨OU, b, base, dX, CH, hv⟩ := hr rfl
     refine .mk hp ?_ fun w' _ => bY rfl (by rw [hv]; exact tN hT eL hk b _ w')
     show a6 _ _ _ _ _ _ _ _
     unfold a6
     rw [hh]
     exact ⟨⟨_, rfl⟩, aqP _, fun _ => ⟨OU, b, base, dX, CH, by simp only [asC]⟩⟩
    ·exact asY
   ·exact asY
  ·exact asY
 ·exact asY
theorem rQ (ht : ∀ t, aY μ h S w (env t) (a.tmps.getD t undef)) (sz : Nat) (fl : List (Nat × Nat × Bool)) (place : Nat → Option (Nat × Nat)) (zX : ∀ (k o size : Nat) (ag : Bool), fl[k]? = some (o, size, ag) → place k = some (o, size)) {K : List PV → Prop} :
  ∀ (l : List (Nat × Operand)) (acc : List PV) (cells : Array Value), lJ env sz fl K l acc → cells.size = sz → acc.length = sz → (∀ (j : Nat) (pv : PV), acc[j]? = some pv → ∃ u, cells[j]? = some u ∧ bm μ h S w pv u) →
  ∃ Fp gB, K Fp ∧ Instr.fill place cells (l.map fun p => (p.1, a.eval p.2)) = some gB ∧ gB.size = sz ∧ Fp.length = sz ∧ ∀ (j : Nat) (pv : PV), Fp[j]? = some pv → ∃ u, gB[j]? = some u ∧ bm μ h S w pv u
 | [], acc, cells, hp, hs, hl, hr => ⟨acc, cells, hp, rfl, hs, hl, hr⟩
 | (k, x) :: r, acc, cells, hp, hs, hl, hr => by
  unfold lJ at hp
  split at hp
  ·rename_i o size ag hk
   replace hp := aR (br hp)
   obtain ⟨mi, hp⟩ := hp
   simp only [As] at mi
   obtain ⟨⟨qV, hlen⟩, mP⟩ := mi
   have hlen := No hlen
   have mP := arp mP
   obtain ⟨h3, h4⟩ := kf qV (bh ht x)
   simp only [arM, aro] at h3 h4
   have TY : (a.eval x).cells.size = size := h3.trans hlen
   obtain ⟨g1, g2⟩ := nZ (a.eval x) o cells att
   obtain ⟨Fp, gB, q1, q2, q3⟩ := rQ ht sz fl place zX r (gr acc o (cellsOf (ev env x))) ((a.eval x).cells.zipIdx.foldl (fun (cs : Array Value) (p : Value × Nat) => cs.setIfInBounds (o + p.2) p.1) cells) hp (g1.trans hs) (by rw [ke]; exact hl)
    (fun j pv hj => by
     rw [mh _ _ _ _ att] at hj
     rw [g2 j]
     by_cases hc : o ≤ j ∧ j < o + size
     ·rw [if_pos att] at hj
      rw [if_pos att]
      exact h4 _ _ hj
     ·rw [if_neg att] at hj
      rw [if_neg att]
      exact hr j pv hj)
   refine ⟨Fp, gB, q1, ?_, q3⟩
   simp only [adr, Instr.fill, zX k o size ag hk]
   rw [if_neg (by simp only [TY, ne_eq, not_true_eq_false, false_or]; simp only [arC, decide_eq_true_eq, not_or]; simp; omega)]
   exact q2
  ·exact asY
theorem xP : ∀ (fs : List Field) (n : Nat) (fl : List (Nat × Nat × Bool)), fl.length = fs.length →
  (∀ (k o size : Nat) (ag : Bool), fl[k]? = some (o, size, ag) → ∃ f j, fs[k]? = some f ∧ f.offset = o ∧ P.info? f.type = some j ∧ j.size = size) →
  fs.mapM (fun f => (P.info? f.type).map fun i => (f.offset, i.size)) = some (fl.map fun q => (q.1, q.2.1))
 | [], n, [], _, _ => rfl
 | f :: fs, n, (o, size, ag) :: fl, hl, hf => by
  obtain ⟨f', j, h1, h2, h3, h4⟩ := hf 0 o size ag rfl
  simp at h1
  subst h1
  have ih := xP fs n fl (by simpa using hl) (fun k o size ag hk => by
   obtain ⟨f, j, q⟩ := hf (k + 1) o size ag (by simpa using hk)
   exact ⟨f, j, by simpa using q⟩)
  simp only [List.mapM_cons, adr, h3, Option.map_some, Option.bind_eq_bind, asG, ih, h2, h4]
  rfl
theorem Bm (hT : cd P T) (ht : ∀ t, aY μ h S w (env t) (a.tmps.getD t undef)) (t : Nat) (parts : Array (Nat × Operand)) (hp : bE T (.build t parts) env h K) :
  cq P ⟨dst, .build t parts, ty, pos, after, guard⟩ a μ h S w K := by
 unfold bE at hp
 simp only at hp
 split at hp
 ·rename_i sz fl z eL
  obtain ⟨fs, i, hu, hi, fv, CE, ⟨zv, hz, Ny, NA, KM⟩, hf⟩ := hT.struct _ _ _ _ eL
  have zX := xP (P := P) fs.toList 0 fl (by simpa using CE) (fun k o size ag hk => by
   obtain ⟨f, j, d, h1, h2, h3, h4, _⟩ := hf k o size ag hk
   exact ⟨f, j, by simpa using h1, h2, h3, h4⟩)
  obtain ⟨Fp, gB, q1, q2, q3, q4, q5⟩ := rQ (a := a) (μ := μ) (h := h) (S := S) (w := w) ht sz fl ((fl.map fun q => (q.1, q.2.1)).toArray[·]?) (fun k o size ag hk => by simp [hk]) parts.toList z zv.cells hp Ny NA (fun j pv hj => by
   have G6 : j < zv.cells.size := by
    have := (At.1 hj).1
    omega
   obtain ⟨eg, h5, _, h6⟩ := KM j zv.cells[j] (arl G6)
   rw [hj] at h5
   injection h5 with h5
   subst h5
   exact ⟨_, arl G6, bm.jd (h6 S w)⟩)
  refine .mk q1 ⟨gB, rfl, by omega, q5⟩ fun w' _ => bY rfl (run_build w' t _ gB ?_)
  unfold Program.built
  simp only [hi, hu, hz, zX]
  have : (parts.map fun p => (p.1, a.eval p.2)).toList = parts.toList.map fun p => (p.1, a.eval p.2) := by simp
  rw [this]
  exact q2
 ·exact asY
theorem Bn {P : Program} {t : TypeId} {d : TypeDesc} {j : TypeInfo} (hu : P.underlying t = some d) (hi : P.info? t = some j) (cs : Array Value) (off : Nat) (w : World) :
  (part t cs off).run P w = if vm d then .ok (.agg (cs.extract off (off + j.size))) w else match cs[off]? with | some v => .ok v w | none => (part t cs off).run P w := by
 cases hd : vm d with
 | true => simp [part, rJ hu, hd, jA hi]
 | false =>
  simp only [aqZ, if_false]
  cases hc : cs[off]? with
  | none => rfl
  | some v => simp [part, rJ hu, hd, hc]
theorem Bo (hT : cd P T) (ht : ∀ t, aY μ h S w (env t) (a.tmps.getD t undef)) (s : Nat) (x : Operand) (k : Nat) (hp : bE T (.field s x k) env h K) :
  cq P ⟨dst, .field s x k, ty, pos, after, guard⟩ a μ h S w K := by
 have hx := bh ht x
 unfold bE at hp
 simp only at hp
 split at hp
 ·rename_i sz fl z eL
  split at hp
  ·rename_i o size ag hk
   split at hp
   ·rename_i cs hex
    rw [hex] at hx
    obtain ⟨vs, ex, fv, hv⟩ := hx
    obtain ⟨fs, i, hu, hi, lX, CE, _, hf⟩ := hT.struct _ _ _ _ eL
    obtain ⟨f, j, d, h1, h2, h3, h4, h5, h6, h7⟩ := hf k o size ag hk
    have jx : ∀ w' v, (part f.type vs f.offset).run P w' = .ok v w' → (execOp a.eval ⟨dst, .field s x k, ty, pos, after, guard⟩).run P w' = .ok (.value v) w' := fun w' v hr => bY rfl (by
     rw [ex]
     simp [Instr.field, run_underlying hu, h1, hr, asAgg])
    split at hp
    ·obtain ⟨hle, hK⟩ := lI _ _ _ hp
     simp only [asE, aqQ, List.length_drop] at hK hle
     refine .mk hK (val := .agg (vs.extract o (o + size))) ⟨_, rfl, by simp; omega, fun q pv hq => ?_⟩ fun w' _ => jx w' _ (by rw [Bn h6 h3, ← h7, if_pos rfl, h2, h4])
     rw [asq] at hq
     split at hq
     ·rename_i cD
      rw [arT] at hq
      obtain ⟨u, zV, sL⟩ := hv _ _ hq
      refine ⟨u, ?_, sL⟩
      rw [Array.getElem?_extract]
      have : o + q < vs.size := (aqT.1 zV).1
      rw [if_pos att]
      exact zV
     ·cases hq
    ·split at hp
     ·rename_i c r hd
      have h0 : cs[o]? = some c := by
       have := congrArg (·[0]?) hd
       simpa using this
      obtain ⟨u, zV, sL⟩ := hv _ _ h0
      exact .mk (br hp) sL.v fun w' _ => jx w' _ (by rw [Bn h6 h3, ← h7, h2]; simp [zV])
     ·exact asY
   ·exact asY
  ·exact asY
 ·exact asY
theorem mD.Fq {pv : PV} {v : Value} (hs : ir pv = true) (hr : mD pv v) : aY μ h S w pv v := by
 have one : ∀ (pv : PV) (v : Value), oX pv = true → nY pv v → bm μ h S w pv v := fun pv v hs hr => by
  cases pv <;> first | (cases hs; done) | (have hr : v = _ := hr; subst hr; first | exact aE.int _ _ | exact aE.bool _ | exact aE.str _) | exact hr
 cases pv with
 | agg cs =>
  obtain ⟨vs, h1, h2, h3⟩ := hr
  exact ⟨vs, h1, h2, fun j pv hj => let ⟨u, hu, hc⟩ := h3 j pv hj; ⟨u, hu, one pv u (aqW.1 hs _ (arh hj)) hc⟩⟩
 | fO => trivial
 | int k n => exact one (.int k n) v rfl hr
 | bool b => exact one (.bool b) v rfl hr
 | str s => exact one (.str s) v rfl hr
 | _ => cases hs
theorem mD.ajf {pv : PV} {v : Value} (hs : ir pv = true) (hr : mD pv v) : gn μ h S w pv v := by
 have := mD.Fq (μ := μ) (h := h) (S := S) (w := w) hs hr
 cases pv with
 | aU _ => cases hs
 | _ => exact this
theorem y0 (hT : cd P T) (hH : bw μ h S w) (ht : ∀ t, aY μ h S w (env t) (a.tmps.getD t undef)) (t : Nat) (x i : Operand) (ok : Bool) (hp : bE T (.lookup t x i ok) env h K) :
  cq P ⟨dst, .lookup t x i ok, ty, pos, after, guard⟩ a μ h S w K := by
 have hx := bh ht x
 have hi := bh ht i
 simp only [bE] at hp
 split at hp
 ·rename_i kt et zv id eL hex
  rw [hex] at hx
  split at hp
  ·rename_i g sz n e f xN
   replace hp := aR (br hp)
   obtain ⟨hk, r, b, hm, hK⟩ := hp
   obtain ⟨hu, inf, z, jT, hz, fv, TZ, qV⟩ := hT.map _ _ _ _ eL
   obtain ⟨bl, base, es, c, dX, ex, hb, hn, CL⟩ := vq hH (dK xN) hx.yZ
   obtain ⟨q0, h0⟩ := Option.isSome_iff_exists.1 hk
   obtain ⟨d, s, hd, Zw, KN⟩ := Eg hT hi h0
   have rR : ∀ m, m ≤ n → Bp (T.get kt) f m (ev env i) → ∀ j, j < m → ∀ y : MapEntry, es.toList[j]? = some y → oW P kt d s (a.eval i) y.key false := fun m hmn hM j hj y hy => by
    obtain ⟨kp, vp, h1, h2⟩ := hM j hj
    obtain ⟨kp', vp', en, h3, _, _, h4, h5, _⟩ := CL j att
    rw [h1] at h3
    injection h3 with e1 e2
    subst e1
    have : y = en := by rw [aro] at hy; exact arG (hy.symm.trans h4)
    subst this
    exact KN kp y.key false h5 h2
   have run : ∃ val, mD r val ∧ ir r = true ∧ ∀ w', bF w w' → (Instr.lookup t (.map (some bl)) (a.eval i) ok).run P w' = .ok (if ok then .tuple #[val, .bool b] else val) w' := by
    rcases hm with ⟨rfl, i0, hi0, hM, kp, hf, hq⟩ | ⟨rfl, rfl, hM⟩
    ·obtain ⟨kp', vp', en, h3, _, h6, h4, h5, h7⟩ := CL i0 hi0
     rw [hf] at h3
     injection h3 with e1 e2
     injection e2 with e2 _
     subst e1 e2
     refine ⟨en.val, h7, h6, fun w' ha => ?_⟩
     have kr : w'.heap[bl]? = some (.map es c) := (ha.blocks bl (aqT.1 hb).1).trans hb
     have vC := vu (P := P) (w' := w') hd es.toList i0 en (rR i0 att hM) (by rw [aro]; exact h4) (KN kp en.key true h5 hq)
     simp [Instr.lookup, run_underlying hu, run_getObj_map w' bl es c kr, Zw, vC]
    ·refine ⟨z, fv, TZ, fun w' ha => ?_⟩
     have kr : w'.heap[bl]? = some (.map es c) := (ha.blocks bl (aqT.1 hb).1).trans hb
     have vC := rN (P := P) (w' := w') hd es.toList (fun j y hy => rR n (aqP _) hM j (by
      have := (At.1 hy).1
      rw [← hn]; simpa using this) y hy)
     simp [Instr.lookup, run_underlying hu, run_getObj_map w' bl es c kr, Zw, vC, zeroValue, typeInfo, jT, hz]
   obtain ⟨val, hrv, hrs, jx⟩ := run
   cases ok with
   | true =>
    refine .mk hK ?_ fun w' ha => bY rfl (by rw [ex]; exact jx w' ha)
    exact ⟨_, rfl, rfl, fun j pv hj => by
     rcases j with _ | _ | j
     ·cases hj; exact ⟨_, rfl, hrv.ajf hrs⟩
     ·cases hj; exact ⟨_, rfl, aE.bool _⟩
     ·simp at hj⟩
   | false => exact .mk (br hK) (hrv.Fq hrs) fun w' ha => bY rfl (by rw [ex]; exact jx w' ha)
  ·exact asY
 ·exact asY
theorem vD {env : Env} {K : List (Nat × Nat) → Prop} : ∀ (l : List Operand) (acc : List (Nat × Nat)), oY env K l acc → ∃ bp, K (acc.reverse ++ bp) ∧ bp.length = l.length ∧ ∀ (j : Nat) (x : Operand) (p : Nat × Nat), l[j]? = some x → bp[j]? = some p → ev env x = .aM p.1 p.2 0 0
 | [], acc, h => ⟨[], by rw [asc]; exact h, rfl, fun j x p hx => by simp at hx⟩
 | x :: r, acc, h => by
  unfold oY at h
  split at h
  ·rename_i id gen he
   obtain ⟨bp, h1, h2, h3⟩ := vD r _ h
   refine ⟨(id, gen) :: bp, by simpa using h1, by simp [h2], fun j y p hy hp => ?_⟩
   cases j with
   | zero => simp at hy hp; subst hy; subst hp; exact he
   | succ j => exact h3 j y p atM (by simpa using hp)
  ·exact h.elim
theorem vF (ht : ∀ t, aY μ h S w (env t) (a.tmps.getD t undef)) (fn : Fn) (first captured : Array Operand) (hp : bE T (.makeFunc fn first captured) env h K) :
  cq P ⟨dst, .makeFunc fn first captured, ty, pos, after, guard⟩ a μ h S w K := by
 simp only [bE] at hp
 split at hp
 ·rename_i f
  obtain ⟨hf, hp⟩ := aR hp
  obtain ⟨bp, hK, hl, hc⟩ := vD _ _ hp
  have OW : first = #[] := by simpa [Array.isEmpty] using hf
  subst OW
  refine .mk (val := .func (.func f) #[] (captured.map a.eval)) (by simpa using hK) ?_ fun w' ha => by first | rfl | simp [execOp, Instr.makeFunc]
  show k6 μ h w f bp _
  refine ⟨_, rfl, by simpa using hl.symm, fun j p hj => ?_⟩
  have cD : j < captured.toList.length := by rw [← hl]; exact (At.1 hj).1
  have hx := Of cD
  refine ⟨a.eval captured.toList[j], by rw [asr, ← aro, hx]; rfl, ?_⟩
  have he := hc j _ p hx hj
  have hv := bh ht captured.toList[j]
  rw [he] at hv
  exact hv
 ·exact asY
theorem ky (hT : cd P T) (hH : bw μ h S w) (ht : ∀ t, aY μ h S w (env t) (a.tmps.getD t undef)) {op : Op} (hp : bE T op env h K) :
  cq P ⟨dst, op, ty, pos, after, guard⟩ a μ h S w K := by
 cases op with
 | lookup t x i ok => exact y0 hT hH ht t x i ok hp
 | makeFunc fn first captured => exact vF ht fn first captured hp
 | move x => exact .mk (br hp) (bh ht x) fun _ _ => rfl
 | assign x => exact .mk (br hp) (bh ht x) fun _ _ => rfl
 | pick c x y =>
  have hc := bh ht c
  simp only [bE] at hp
  split at hp
  ·rename_i b hex
   rw [hex] at hc
   have ec := hc.j3
   obtain ⟨h1, h2⟩ := iV hp
   cases b with
   | true => exact .mk (br (h1 rfl)) (bh ht x) fun w' _ => by simp [execOp, ec, asBool]
   | false => exact .mk (br (h2 rfl)) (bh ht y) fun w' _ => by simp [execOp, ec, asBool]
  ·exact asY
 | binOp bo t x y t' => exact Fj hT bo t t' x y _ _ (bh ht x) (bh ht y) hp
 | unOp u t x =>
  have hx := bh ht x
  simp only [bE] at hp
  split at hp
  ·rename_i b hex
   rw [hex] at hx
   exact .mk hp (aE.bool _) fun w' _ => bY rfl (by rw [hx.j3, unary_not]; rfl)
  ·rename_i k n hex
   rw [hex] at hx
   exact .mk hp (aE.int _ _) fun w' _ => bY rfl (by rw [hx.jg, unary_neg]; rfl)
  ·exact asY
 | load t x => exact vw hT hH t x _ (bh ht x) hp
 | convert s d x => exact w7 hT hH ht s d x hp
 | nilCheck x => exact vB ht x hp
 | fieldAddr s x k => exact uj hT ht s x k hp
 | build t parts => exact Bm hT ht t parts hp
 | field s x k => exact Bo hT ht s x k hp
 | indexAddr t x i => exact Bj hT hH ht t x i hp
 | index t x i => exact vy hT ht t x i hp
 | extract x i =>
  have hx := bh ht x
  simp only [bE] at hp
  split at hp
  ·rename_i vs hex
   rw [hex] at hx
   split at hp
   ·rename_i v hv
    obtain ⟨us, e1, e2, e3⟩ := hx
    obtain ⟨u, hu, hr⟩ := e3 i v hv
    have hr' : aY μ h S w v u := by
     cases v with
     | aU ps => exact (show False from hr).elim
     | _ => exact hr
    exact .mk (br hp) hr' fun w' _ => bY rfl (by rw [e1]; simp [Instr.extract, hu])
   ·exact asY
  ·exact asY
 | slice t x lo hi mx => exact Bl hT hH ht t x lo hi mx hp
 | call c =>
  obtain ⟨cal, args, ts⟩ := c
  cases cal with
  | builtin b => cases b with
   | len => exact Fl hT hH ht args ts hp
   | _ => exact (show False from hp).elim
  | _ => exact (show False from hp).elim
 | _ => exact (show False from hp).elim
end
section
variable {P : Program} {T : lq} {μ : Mu} {h : List ak} {S : Nat → Prop} {w w1 : World}
def la (μ : Mu) (id : Nat) (p : Option (Nat × Nat)) : Mu := fun j => if j = id then p else μ j
theorem bg (μ : Mu) (id : Nat) (p : Option (Nat × Nat)) : la μ id p id = p := by simp [la]
theorem de (μ : Mu) {id j : Nat} (p : Option (Nat × Nat)) (hj : j ≠ id) : la μ id p j = μ j := by simp [la, hj]
structure Core (μ : Mu) (h : List ak) (S : Nat → Prop) (w : World) : Prop where
 heap : bw μ h S w
 ok : nC μ h S w
theorem mO (hc : Core μ h S w) (id g g1 sz n n1 : Nat) (e : TypeId) (f f1 : Nat → List PV) (hh : h[id]? = some (ak.row g sz n e f)) (b1 xQ : Nat) (jZ : Array Value)
  (hg : g ≤ g1) (hg1 : g1 = g → μ id = some (b1, xQ) ∧ n1 = n)
  (hb : w.heap.size ≤ b1 ∨ ∃ base cur, μ id = some (b1, base) ∧ w.heap[b1]? = some (.cells cur e (0, 0)) ∧ cur.size = jZ.size)
  (hw : w1.heap[b1]? = some (.cells jZ e (0, 0))) (mP : xQ + n1 * sz ≤ jZ.size)
  (iu : ∀ b, b < w.heap.size → b ≠ b1 → w1.heap[b]? = w.heap[b]?) (vG : w.heap.size ≤ w1.heap.size) (hos : w1.os = w.os) (KO : w1.tape = w.tape) (KP : w1.output = w.output)
  (hl : ∀ i, i < n1 → (f1 i).length = sz) (Np : ∀ b base, μ id = some (b, base) → ¬ my w b)
  (aI : ∀ (i j : Nat) (pv : PV), i < n1 → (f1 i)[j]? = some pv → ∃ v : Value, jZ[xQ + i * sz + j]? = some v ∧ k4 μ h S w pv v) (OZ : Nat)
  (rS : ∀ (i j bs n' : Nat) (e' : TypeId) (f' : Nat → List PV) (F' : Nat → Prop), i < n1 → (f1 i)[j]? = some (.fm bs n' e' f' F') → OZ + i < n ∧ (f (OZ + i))[j]? = some (.fm bs n' e' f' F')) :
  Fr μ h S w (la μ id (some (b1, xQ))) (h.set id (.row g1 sz n1 e f1)) S w1 ∧ Core (la μ id (some (b1, xQ))) (h.set id (.row g1 sz n1 e f1)) S w1 := by
 have hid : id < h.length := (At.1 hh).1
 have gZ : (h.set id (ak.row g1 sz n1 e f1))[id]? = some (ak.row g1 sz n1 e f1) := by simp [hid]
 have bR : ∀ j, j ≠ id → (h.set id (ak.row g1 sz n1 e f1))[j]? = h[j]? := fun j hj => by rw [arF (asa hj)]
 have ajg : b1 < w1.heap.size := (aqT.1 hw).1
 have Bq : b1 < w.heap.size → bH μ h b1 := fun cD => by
  rcases hb with hb | ⟨base, cur, hm, _, _⟩
  ·omega
  ·exact .inl ⟨id, g, sz, n, e, f, base, hh, hm⟩
 have ez : ∀ j x y b, cA (h.set id (ak.row g1 sz n1 e f1)) j x y b → cA h j (if j = id then OZ + x else x) y b := fun j x y b ⟨gj, lK, nj, ej, fj, bs, n', e', f', F', q1, q2, q3, q4⟩ => by
  by_cases gH : j = id
  ·subst gH
   rw [gZ] at q1
   injection q1 with q1
   injection q1 with e1 e2 e3 e4 e5
   subst e1 e2 e3 e4 e5
   obtain ⟨r1, r2⟩ := rS x y _ _ _ _ _ q2 q3
   rw [if_pos rfl]
   exact ⟨_, _, _, _, _, _, _, _, _, _, hh, r1, r2, q4⟩
  ·rw [bR j gH] at q1
   rw [if_neg gH]
   exact atq
 have vH : ∀ j x y b, cA h j x y b → b < w.heap.size ∧ b ≠ b1 := fun j x y b hx => by
  have cD := hc.ok.lt b (.inr ⟨j, x, y, hx⟩)
  refine ⟨cD, ?_⟩
  rintro rfl
  rcases hb with hb | ⟨base, cur, hm, _, _⟩
  ·omega
  ·exact hc.ok.hv b ⟨id, g, sz, n, e, f, base, hh, hm⟩ j x y hx
 have ji : Fr μ h S w (la μ id (some (b1, xQ))) (h.set id (.row g1 sz n1 e f1)) S w1 := by
  refine ⟨by simp, fun b cD w4 => ?_, fun _ hb => hb, fun _ hb => .inl hb, fun b kr => ?_, vG, hos, KO, KP, fun j gj lK nj ej fj hj => ?_, fun j hj => ?_, fun b k vI dT => ?_, fun j gj lK nj ej fj b base hj hm kY => ?_, fun b j x y hx kY => ?_⟩
  rotate_right
  ·obtain ⟨q1, q2⟩ := vH j x y b hx
   obtain ⟨es, c, q⟩ := kY
   exact ⟨es, c, (iu b q1 q2).trans q⟩
  ·by_cases Ei : b = b1
   ·subst Ei; exact (w4 (Bq cD)).elim
   ·exact iu b cD Ei
  ·rcases kr with ⟨j, gj, lK, nj, ej, fj, n7, hj, hm⟩ | ⟨j, x, y, hx⟩
   rotate_left
   ·exact .inl (.inr ⟨_, _, _, ez j x y b hx⟩)
   by_cases gH : j = id
   ·subst gH
    rw [bg] at hm
    injection hm with hm
    injection hm with h1 h2
    subst h1
    rcases arO b1 w.heap.size with cD | NB
    ·exact .inl (Bq cD)
    ·exact .inr NB
   ·rw [bR j gH] at hj
    rw [de μ _ gH] at hm
    exact .inl (.inl ⟨j, gj, lK, nj, ej, fj, n7, hj, hm⟩)
  ·by_cases gH : j = id
   ·subst gH
    rw [hh] at hj
    injection hj with hj
    injection hj with e1 e2 e3 e4 e5
    subst e1 e2 e3 e4 e5
    rw [gZ]
    refine ⟨hg, fun he => ?_⟩
    obtain ⟨h1, h2⟩ := hg1 he
    exact ⟨by rw [bg, h1], rfl, h2, rfl⟩
   ·rw [bR j gH, hj]
    exact ⟨aqP _, fun _ => ⟨de μ _ gH, rfl, rfl, rfl⟩⟩
  ·have gH : j ≠ id := by rintro rfl; rw [hh] at hj; cases hj
   rw [bR j gH]; exact hj
  ·by_cases Ei : b = b1
   ·subst Ei
    obtain ⟨cur, e', z, q1, q2⟩ := dT
    rcases hb with hb | ⟨base, CM, hm, ju, fv⟩
    ·have := (aqT.1 q1).1; omega
    ·rw [ju] at q1
     injection q1 with q1
     injection q1 with q1 _ _
     subst q1
     exact ⟨jZ, e, _, hw, by omega⟩
   ·exact iq.of_same (iu b dT.lt Ei) dT
  ·have gH : j ≠ id := by rintro rfl; exact Np b base hm kY
   have Ei : b ≠ b1 := by
    rintro rfl
    obtain ⟨es, c, q⟩ := kY
    rcases hb with hb | ⟨jL, CM, tG, ju, _⟩
    ·have := (aqT.1 q).1; omega
    ·rw [ju] at q; cases q
   obtain ⟨es, c, q⟩ := kY
   exact ⟨⟨es, c, (iu b (aqT.1 q).1 Ei).trans q⟩, .inr ⟨⟨_, _, _, _, _, (bR j gH).trans hj⟩, by rw [de μ _ gH]; exact hm⟩⟩
 refine ⟨ji, ⟨fun j gj lK nj ej fj hj => ?_, ?_⟩⟩
 ·by_cases gH : j = id
  ·subst gH
   rw [gZ] at hj
   injection hj with hj
   injection hj with e1 e2 e3 e4 e5
   subst e1 e2 e3 e4 e5
   rw [bg]
   refine ⟨hl, bw.Br ⟨jZ, hw, mP, fun i k pv hi hk => ?_⟩⟩
   obtain ⟨v, h1, h2⟩ := aI i k pv hi hk
   refine ⟨v, h1, h2.fr ji hc.ok (fun bs n' e' f' F' he b kr => ?_)⟩
   rw [he] at hk
   obtain ⟨r1, r2⟩ := rS i k _ _ _ _ _ hi hk
   obtain ⟨q1, q2⟩ := vH j (OZ + i) k b ⟨_, _, _, _, _, _, _, _, _, _, hh, r1, r2, kr⟩
   exact iu b q1 q2
  ·rw [bR j gH] at hj
   obtain ⟨h1, h2⟩ := hc.heap j gj lK nj ej fj hj
   refine ⟨h1, ?_⟩
   rw [de μ _ gH]
   cases hm : μ j with
   | none => rw [hm] at h2; exact h2
   | some p =>
    obtain ⟨b, base⟩ := p
    rw [hm] at h2
    obtain ⟨o, q1, q2⟩ := h2
    have cD : b < w.heap.size := (aqT.1 q1).1
    have Ei : b ≠ b1 := by
     rintro rfl
     rcases hb with hb | ⟨jL, CM, tG, _⟩
     ·omega
     ·exact gH (hc.ok.inj j id _ _ _ _ _ _ _ _ _ _ _ _ _ hj hh hm tG)
    exact ⟨o, (iu b cD Ei).trans q1, q2.mono (fun i y pv v hi hy hr => hr.fr ji hc.ok (fun bs n' e' f' F' he b' kr => by
     obtain ⟨q1, q2⟩ := vH j i y b' ⟨_, _, _, _, _, _, _, _, _, _, hj, hi, by rw [hy, he], kr⟩
     exact iu b' q1 q2))⟩
 ·refine ⟨fun b vI O0 => ?_, fun b vI => ?_, fun b O0 => ars (hc.ok.slt b O0) vG, ?_, hc.ok.vJ ji, fun b hvb j x y hx => ?_, fun b j x y j' x' y' hx qB => ?_⟩
  rotate_right 2
  ·obtain ⟨q1, q2⟩ := vH _ _ _ b (ez j x y b hx)
   obtain ⟨k, gk, szk, nk, ek, fk, KQ, hk, hm⟩ := hvb
   by_cases sT : k = id
   ·subst sT
    rw [bg] at hm
    injection hm with hm
    injection hm with h1 h2
    exact q2 h1.symm
   ·rw [bR k sT] at hk
    rw [de μ _ sT] at hm
    exact hc.ok.hv b ⟨k, gk, szk, nk, ek, fk, KQ, hk, hm⟩ _ _ _ (ez j x y b hx)
  ·obtain ⟨r1, r2, r3⟩ := hc.ok.hh b _ _ _ _ _ _ (ez j x y b hx) (ez j' x' y' b qB)
   subst r1
   refine ⟨rfl, ?_, r3⟩
   split at r2 <;> omega
  ·rcases ji.own b vI with h1 | h1
   ·exact hc.ok.apart b h1 O0
   ·have := hc.ok.slt b O0; omega
  ·rcases vI with ⟨j, gj, lK, nj, ej, fj, n7, hj, hm⟩ | ⟨j, x, y, hx⟩
   rotate_left
   ·exact ars (hc.ok.lt b (.inr ⟨_, _, _, ez j x y b hx⟩)) vG
   by_cases gH : j = id
   ·subst gH
    rw [bg] at hm
    injection hm with hm
    injection hm with h1 h2
    subst h1
    exact ajg
   ·rw [bR j gH] at hj
    rw [de μ _ gH] at hm
    exact ars (hc.ok.lt b (.inl ⟨j, gj, lK, nj, ej, fj, n7, hj, hm⟩)) vG
  ·intro i j gi NC ni ei fi gj lK nj ej fj b o o' hi hj lY lj
   by_cases G7 : i = id
   ·by_cases gH : j = id
    ·rw [G7, gH]
    ·subst G7
     rw [bg] at lY
     injection lY with lY
     injection lY with h1 h2
     subst h1
     rw [bR j gH] at hj
     rw [de μ _ gH] at lj
     rcases hb with hb | ⟨jL, CM, tG, _⟩
     ·have := hc.ok.lt _ (.inl ⟨j, gj, lK, nj, ej, fj, o', hj, lj⟩); omega
     ·exact hc.ok.inj i j _ _ _ _ _ _ _ _ _ _ _ _ _ hh hj tG lj
   ·rw [bR i G7] at hi
    rw [de μ _ G7] at lY
    by_cases gH : j = id
    ·subst gH
     rw [bg] at lj
     injection lj with lj
     injection lj with h1 h2
     subst h1
     rcases hb with hb | ⟨jL, CM, tG, _⟩
     ·have := hc.ok.lt _ (.inl ⟨i, gi, NC, ni, ei, fi, o, hi, lY⟩); omega
     ·exact hc.ok.inj i j _ _ _ _ _ _ _ _ _ _ _ _ _ hi hh lY tG
    ·rw [bR j gH] at hj
     rw [de μ _ gH] at lj
     exact hc.ok.inj i j _ _ _ _ _ _ _ _ _ _ _ _ _ hi hj lY lj
theorem xR (hc : Core μ h S w) (sz n : Nat) (e : TypeId) (f : Nat → List PV) (p : Option (Nat × Nat))
  (hp : match p with
   | none => n = 0
   | some (b, base) => w.heap.size ≤ b ∧ ∃ o : Obj, w1.heap[b]? = some o ∧ qC (bm μ h S w) base sz n e f o)
  (ha : bF w w1) (hl : ∀ i, i < n → (f i).length = sz) (rS : ∀ (i j : Nat) (pv : PV), i < n → (f i)[j]? = some pv → eC pv = false) :
  Fr μ h S w (la μ h.length p) (h ++ [.row 0 sz n e f]) S w1 ∧ Core (la μ h.length p) (h ++ [.row 0 sz n e f]) S w1 := by
 have mj : ∀ j o, h[j]? = some o → (h ++ [ak.row 0 sz n e f])[j]? = some o := fun j o hj => by
  rw [art (At.1 hj).1]; exact hj
 have uC : (h ++ [ak.row 0 sz n e f])[h.length]? = some (ak.row 0 sz n e f) := by simp
 have ml : ∀ j o, (h ++ [ak.row 0 sz n e f])[j]? = some o → (h[j]? = some o ∧ j ≠ h.length) ∨ (j = h.length ∧ o = ak.row 0 sz n e f) := fun j o hj => by
  rcases Nat.lt_trichotomy j h.length with cD | heq | xN
  ·rw [art cD] at hj; exact .inl ⟨hj, by omega⟩
  ·subst heq; rw [uC] at hj; injection hj with hj; exact .inr ⟨rfl, hj.symm⟩
  ·rw [arA atx] at hj; cases hj
 have k7 : ∀ j o, h[j]? = some o → la μ h.length p j = μ j := fun j o hj => de μ _ (by have := (At.1 hj).1; omega)
 have ez : ∀ j x y b, cA (h ++ [ak.row 0 sz n e f]) j x y b → cA h j x y b := fun j x y b ⟨gj, lK, nj, ej, fj, bs, n', e', f', F', q1, q2, q3, q4⟩ => by
  rcases ml j _ q1 with ⟨h1, h2⟩ | ⟨h1, h2⟩
  ·exact ⟨_, _, _, _, _, _, _, _, _, _, h1, q2, q3, q4⟩
  ·injection h2 with e1 e2 e3 e4 e5
   subst e1 e2 e3 e4 e5
   have := rS x y _ q2 q3
   cases this
 have ji : Fr μ h S w (la μ h.length p) (h ++ [.row 0 sz n e f]) S w1 := by
  refine ⟨by simp, fun b cD _ => ha.blocks b cD, fun _ hb => hb, fun _ hb => .inl hb, fun b kr => ?_, ha.size, ha.os, ha.tape, ha.output, fun j gj lK nj ej fj hj => ?_, fun j hj => mj j _ hj, fun b k vI dT => iq.of_same (ha.blocks b dT.lt) dT, fun j gj lK nj ej fj b base hj hm kY => ⟨let ⟨es, c, q⟩ := kY; ⟨es, c, (ha.blocks b (aqT.1 q).1).trans q⟩, .inr ⟨⟨_, _, _, _, _, mj j _ hj⟩, by rw [k7 j _ hj]; exact hm⟩⟩, fun b j x y hx kY => let ⟨es, c, q⟩ := kY; ⟨es, c, (ha.blocks b (aqT.1 q).1).trans q⟩⟩
  ·rcases kr with ⟨j, gj, lK, nj, ej, fj, n7, hj, hm⟩ | ⟨j, x, y, hx⟩
   rotate_left
   ·exact .inl (.inr ⟨_, _, _, ez j x y b hx⟩)
   rcases ml j _ hj with ⟨h1, h2⟩ | ⟨h1, h2⟩
   ·rw [de μ _ h2] at hm
    exact .inl (.inl ⟨j, gj, lK, nj, ej, fj, n7, h1, hm⟩)
   ·subst h1
    rw [bg] at hm
    subst hm
    exact .inr hp.1
  ·rw [mj j _ hj]
   exact ⟨aqP _, fun _ => ⟨k7 j _ hj, rfl, rfl, rfl⟩⟩
 refine ⟨ji, ⟨fun j gj lK nj ej fj hj => ?_, ?_⟩⟩
 ·rcases ml j _ hj with ⟨h1, h2⟩ | ⟨h1, h2⟩
  ·obtain ⟨q1, q2⟩ := hc.heap j gj lK nj ej fj h1
   refine ⟨q1, ?_⟩
   rw [de μ _ h2]
   cases hm : μ j with
   | none => rw [hm] at q2; exact q2
   | some p' =>
    obtain ⟨b, base⟩ := p'
    rw [hm] at q2
    obtain ⟨o, r1, r2⟩ := q2
    have cD : b < w.heap.size := (aqT.1 r1).1
    exact ⟨o, (ha.blocks b cD).trans r1, r2.mono (fun i y pv v hi hy hr => hr.fr ji hc.ok (fun bs n' e' f' F' he b' kr => ha.blocks b' (hc.ok.lt b' (.inr ⟨j, i, y, _, _, _, _, _, _, _, _, _, _, h1, hi, he ▸ hy, kr⟩))))⟩
  ·subst h1
   injection h2 with e1 e2 e3 e4 e5
   subst e1 e2 e3 e4 e5
   rw [bg]
   refine ⟨hl, ?_⟩
   cases p with
   | none => exact hp
   | some p' =>
    obtain ⟨b, base⟩ := p'
    obtain ⟨_, o, r1, r2⟩ := hp
    exact ⟨o, r1, r2.mono (fun i y pv v hi hy hr => (hr.fr ji hc.ok).k (rS i y pv hi hy))⟩
 ·refine ⟨fun b vI O0 => ?_, fun b vI => ?_, fun b O0 => ars (hc.ok.slt b O0) ha.size, ?_, hc.ok.vJ ji, fun b hvb j x y hx => ?_, fun b j x y j' x' y' hx qB => hc.ok.hh b _ _ _ _ _ _ (ez j x y b hx) (ez j' x' y' b qB)⟩
  rotate_right
  ·have hx := ez j x y b hx
   obtain ⟨k, gk, szk, nk, ek, fk, KQ, hk, hm⟩ := hvb
   rcases ml k _ hk with ⟨h1, h2⟩ | ⟨h1, h2⟩
   ·rw [de μ _ h2] at hm
    exact hc.ok.hv b ⟨k, gk, szk, nk, ek, fk, KQ, h1, hm⟩ _ _ _ hx
   ·subst h1
    rw [bg] at hm
    subst hm
    have := hc.ok.lt b (.inr ⟨_, _, _, hx⟩)
    have := hp.1
    omega
  ·rcases ji.own b vI with h1 | h1
   ·exact hc.ok.apart b h1 O0
   ·have := hc.ok.slt b O0; omega
  ·rcases vI with ⟨j, gj, lK, nj, ej, fj, n7, hj, hm⟩ | ⟨j, x, y, hx⟩
   rotate_left
   ·exact ars (hc.ok.lt b (.inr ⟨_, _, _, ez j x y b hx⟩)) ha.size
   rcases ml j _ hj with ⟨h1, h2⟩ | ⟨h1, h2⟩
   ·rw [de μ _ h2] at hm
    exact ars (hc.ok.lt b (.inl ⟨j, gj, lK, nj, ej, fj, n7, h1, hm⟩)) ha.size
   ·subst h1
    rw [bg] at hm
    subst hm
    obtain ⟨_, o, r1, _⟩ := hp
    exact (aqT.1 r1).1
  ·intro i j gi NC ni ei fi gj lK nj ej fj b o o' hi hj lY lj
   rcases ml i _ hi with ⟨h1, h2⟩ | ⟨h1, h2⟩
   ·rw [de μ _ h2] at lY
    rcases ml j _ hj with ⟨h3, h4⟩ | ⟨h3, h4⟩
    ·rw [de μ _ h4] at lj
     exact hc.ok.inj i j _ _ _ _ _ _ _ _ _ _ _ _ _ h1 h3 lY lj
    ·subst h3
     rw [bg] at lj
     subst lj
     have := hc.ok.lt _ (.inl ⟨i, gi, NC, ni, ei, fi, o, h1, lY⟩)
     have := hp.1
     omega
   ·subst h1
    rw [bg] at lY
    rcases ml j _ hj with ⟨h3, h4⟩ | ⟨h3, h4⟩
    ·rw [de μ _ h4] at lj
     subst lY
     have := hc.ok.lt _ (.inl ⟨j, gj, lK, nj, ej, fj, o', h3, lj⟩)
     have := hp.1
     omega
    ·exact h3.symm
theorem lD (hc : Core μ h S w) (sz n : Nat) (e : TypeId) (f : Nat → List PV) (p : Option (Nat × Nat))
  (hp : match p with
   | none => n = 0
   | some (b, base) => w.heap.size ≤ b ∧ ∃ cur : Array Value, w1.heap[b]? = some (.cells cur e (0, 0)) ∧ base + n * sz ≤ cur.size ∧
    ∀ (i j : Nat) (pv : PV), i < n → (f i)[j]? = some pv → ∃ v : Value, cur[base + i * sz + j]? = some v ∧ bm μ h S w pv v)
  (ha : bF w w1) (hl : ∀ i, i < n → (f i).length = sz) (rS : ∀ (i j : Nat) (pv : PV), i < n → (f i)[j]? = some pv → eC pv = false) :
  Fr μ h S w (la μ h.length p) (h ++ [.row 0 sz n e f]) S w1 ∧ Core (la μ h.length p) (h ++ [.row 0 sz n e f]) S w1 := by
 refine xR hc sz n e f p ?_ ha hl rS
 cases p with
 | none => exact hp
 | some q => exact ⟨hp.1, bw.Br hp.2⟩
theorem iq.qw {b k : Nat} (h : iq w b k) : ¬ my w b := by
 rintro ⟨es, c, q⟩
 obtain ⟨cur, e, z, h1, _⟩ := h
 rw [h1] at q; cases q
end
theorem mm.refl : ∀ (l : List PV), mm l l
 | [] => trivial
 | a :: l => ⟨.same a, mm.refl l⟩
theorem mm.len : ∀ {l r : List PV}, mm l r → r.length = l.length
 | [], [], _ => rfl
 | a :: l, b :: r, h => by simp [mm.len h.2]
 | [], _ :: _, h => h.elim
 | _ :: _, [], h => h.elim
theorem mm.get : ∀ {l r : List PV}, mm l r → ∀ {j : Nat} {b : PV}, r[j]? = some b → ∃ a, l[j]? = some a ∧ G8 a b
 | [], [], _, j, b, hj => by simp at hj
 | a :: l, c :: r, h, 0, b, hj => by simp at hj; subst hj; exact ⟨a, rfl, h.1⟩
 | a :: l, c :: r, h, j + 1, b, hj => by
  obtain ⟨x, q1, q2⟩ := mm.get h.2 (j := j) atC
  exact ⟨x, by simpa using q1, q2⟩
 | [], _ :: _, h, _, _, _ => h.elim
 | _ :: _, [], h, _, _, _ => h.elim
theorem mm.ajh : ∀ {l r : List PV}, mm l r → ∀ {j : Nat} {a : PV}, l[j]? = some a → ∃ b, r[j]? = some b ∧ G8 a b
 | [], [], _, j, b, hj => by simp at hj
 | a :: l, c :: r, h, 0, b, hj => by simp at hj; subst hj; exact ⟨c, rfl, h.1⟩
 | a :: l, c :: r, h, j + 1, b, hj => by
  obtain ⟨x, q1, q2⟩ := mm.ajh h.2 (j := j) atC
  exact ⟨x, by simpa using q1, q2⟩
 | [], _ :: _, h, _, _, _ => h.elim
 | _ :: _, [], h, _, _, _ => h.elim
theorem G8.Zz {a b : PV} (h : G8 a b) {μ : Mu} {l : List ak} {S : Nat → Prop} {w : World} {v : Value} (hr : bm μ l S w a v) : bm μ l S w b v := by
 cases h with
 | same => exact hr
 | nil sz f =>
  have hr : aE S w .bf v := hr
  cases hr
  exact aE.lV _ _ _ _
 | Fs sz e f => exact bm.one hr
def OEq : ak → ak → Prop
 | .row g sz n e f, .row g' bs n' e' f' => g = g' ∧ sz = bs ∧ n = n' ∧ e = e' ∧ ∀ i, i < n → mm (f i) (f' i)
 | .dead, .dead => True
 | _, _ => False
def cM : List ak → List ak → Prop
 | [], [] => True
 | o :: l, o' :: l' => OEq o o' ∧ cM l l'
 | _, _ => False
theorem cM.len : ∀ {l l' : List ak}, cM l l' → l.length = l'.length
 | [], [], _ => rfl
 | o :: l, o' :: l', h => by simp [cM.len h.2]
 | [], _ :: _, h => h.elim
 | _ :: _, [], h => h.elim
theorem cM.get : ∀ {l l' : List ak}, cM l l' → ∀ {j : Nat} {g sz n : Nat} {e : TypeId} {f : Nat → List PV}, l[j]? = some (ak.row g sz n e f) → ∃ f', l'[j]? = some (ak.row g sz n e f') ∧ ∀ i, i < n → mm (f i) (f' i)
 | o :: l, o' :: l', h, 0, g, sz, n, e, f, hj => by
  simp at hj
  subst hj
  cases o' with
  | dead => exact h.1.elim
  | row g' bs n' e' f' =>
   obtain ⟨rfl, rfl, rfl, rfl, hf⟩ := h.1
   exact ⟨f', rfl, hf⟩
 | o :: l, o' :: l', h, j + 1, g, sz, n, e, f, hj => by
  simp at hj
  obtain ⟨f', h1, h2⟩ := cM.get h.2 hj
  exact ⟨f', by simpa using h1, h2⟩
 | [], [], _, _, _, _, _, _, _, hj => by simp at hj
 | [], _ :: _, h, _, _, _, _, _, _, _ => h.elim
 | _ :: _, [], h, _, _, _, _, _, _, _ => h.elim
theorem cM.Ft : ∀ {l l' : List ak}, cM l l' → ∀ {j : Nat} {g sz n : Nat} {e : TypeId} {f' : Nat → List PV}, l'[j]? = some (ak.row g sz n e f') → ∃ f, l[j]? = some (ak.row g sz n e f) ∧ ∀ i, i < n → mm (f i) (f' i)
 | o :: l, o' :: l', h, 0, g, sz, n, e, f', hj => by
  simp at hj
  subst hj
  cases o with
  | dead => exact h.1.elim
  | row g' bs n' e' f =>
   obtain ⟨rfl, rfl, rfl, rfl, hf⟩ := h.1
   exact ⟨f, rfl, hf⟩
 | o :: l, o' :: l', h, j + 1, g, sz, n, e, f', hj => by
  simp at hj
  obtain ⟨f, h1, h2⟩ := cM.Ft h.2 hj
  exact ⟨f, by simpa using h1, h2⟩
 | [], [], _, _, _, _, _, _, _, hj => by simp at hj
 | [], _ :: _, h, _, _, _, _, _, _, _ => h.elim
 | _ :: _, [], h, _, _, _, _, _, _, _ => h.elim
theorem cM.getD : ∀ {l l' : List ak}, cM l l' → ∀ {j : Nat}, l[j]? = some ak.dead → l'[j]? = some ak.dead
 | o :: l, o' :: l', h, 0, hj => by
  simp at hj
  subst hj
  cases o' with
  | dead => rfl
  | row g' bs n' e' f' => exact h.1.elim
 | o :: l, o' :: l', h, j + 1, hj => by
  simp at hj
  simpa using cM.getD h.2 hj
 | [], [], _, _, hj => by simp at hj
 | [], _ :: _, h, _, _ => h.elim
 | _ :: _, [], h, _, _ => h.elim
theorem cM.O1 {l l' : List ak} (h : cM l l') {id i j b : Nat} (ho : cA l' id i j b) : cA l id i j b := by
 obtain ⟨g, sz, n, e, f', bs, n', e', f2, F', q1, q2, q3, q4⟩ := ho
 obtain ⟨f, r1, r2⟩ := h.Ft q1
 obtain ⟨a, ha, hle⟩ := (r2 i q2).get q3
 cases hle with
 | same => exact ⟨_, _, _, _, _, _, _, _, _, _, r1, q2, ha, q4⟩
 | Fs => exact q4.elim
theorem cM.aji {l l' : List ak} (h : cM l l') {μ : Mu} {b : Nat} (ho : w8 μ l' b) : w8 μ l b := by
 obtain ⟨id, g, sz, n, e, f, base, h1, h2⟩ := ho
 obtain ⟨f', h3, _⟩ := h.Ft h1
 exact ⟨id, g, sz, n, e, f', base, h3, h2⟩
theorem cM.sU {l l' : List ak} (h : cM l l') {μ : Mu} {b : Nat} (ho : bH μ l' b) : bH μ l b := by
 rcases ho with ho | ⟨id, i, j, ho⟩
 ·exact .inl (h.aji ho)
 ·exact .inr ⟨id, i, j, h.O1 ho⟩
theorem cM.hid {l l' : List ak} (h : cM l l') {id i j b : Nat} (ho : cA l id i j b) : cA l' id i j b := by
 obtain ⟨g, sz, n, e, f, bs, n', e', f2, F', q1, q2, q3, q4⟩ := ho
 obtain ⟨f', r1, r2⟩ := h.get q1
 obtain ⟨c, hc, hle⟩ := (r2 i q2).ajh q3
 cases hle
 exact ⟨_, _, _, _, _, _, _, _, _, _, r1, q2, hc, q4⟩
theorem cM.owned {l l' : List ak} (h : cM l l') {μ : Mu} {b : Nat} (ho : bH μ l b) : bH μ l' b := by
 rcases ho with ⟨id, g, sz, n, e, f, base, h1, h2⟩ | ⟨x, y, z, ho⟩
 ·obtain ⟨f', h3, _⟩ := h.get h1
  exact .inl ⟨id, g, sz, n, e, f', base, h3, h2⟩
 ·exact .inr ⟨_, _, _, h.hid ho⟩
theorem cM.own {l l' : List ak} (h : cM l l') {μ : Mu} {w : World} {id gen off len : Nat} {v : Value} (hr : aV μ l w id gen off len v) : aV μ l' w id gen off len v := by
 unfold aV at *
 refine ⟨hr.1, ?_⟩
 have hr := hr.2
 cases ho : l[id]? with
 | none => rw [ho] at hr; exact hr.elim
 | some o =>
  cases o with
  | dead => rw [h.getD ho]; trivial
  | row g sz n e f =>
   obtain ⟨f', h1, _⟩ := h.get ho
   rw [ho] at hr
   rw [h1]
   exact hr
theorem cM.aM {l l' : List ak} (h : cM l l') {μ : Mu} {id gen i off : Nat} {v : Value} {w : World} (hr : a6 μ l w id gen i off v) : a6 μ l' w id gen i off v := by
 unfold a6 at *
 refine ⟨hr.1, ?_⟩
 have hr := hr.2
 cases ho : l[id]? with
 | none => rw [ho] at hr; exact hr.elim
 | some o =>
  cases o with
  | dead => rw [h.getD ho]; trivial
  | row g sz n e f =>
   obtain ⟨f', h1, _⟩ := h.get ho
   rw [ho] at hr
   rw [h1]
   exact hr
theorem G8.O2 {a b : PV} (h : G8 a b) (ha : ir a = true) : b = a := by
 cases h with
 | same => rfl
 | _ => cases ha
theorem mm.O2 {kp vp : PV} {l : List PV} (h : mm [kp, vp] l) (h1 : ir kp = true) (h2 : ir vp = true) : l = [kp, vp] := by
 rcases l with _ | ⟨a, _ | ⟨b, _ | ⟨c, l⟩⟩⟩
 ·exact h.elim
 ·exact h.2.elim
 ·rw [h.1.O2 h1, h.2.1.O2 h2]
 ·exact h.2.2.elim
theorem cM.kP {l l' : List ak} (h : cM l l') {μ : Mu} {w : World} {id : Nat} {v : Value} (hr : ew μ l w id v) : ew μ l' w id v := by
 unfold ew at *
 refine ⟨hr.1, ?_⟩
 have hr := hr.2
 cases ho : l[id]? with
 | none => rw [ho] at hr; exact hr.elim
 | some o =>
  cases o with
  | dead => rw [h.getD ho]; trivial
  | row g sz n e f =>
   obtain ⟨f', h1, _⟩ := h.get ho
   rw [ho] at hr
   rw [h1]
   exact hr
theorem cM.kX {l l' : List ak} (h : cM l l') {μ : Mu} {w : World} {f : Nat} {bp : List (Nat × Nat)} {v : Value} (hr : k6 μ l w f bp v) : k6 μ l' w f bp v := oh.mono hr (fun id g u hu => h.aM hu)
theorem cM.Zz {l l' : List ak} (h : cM l l') {μ : Mu} {S : Nat → Prop} {w : World} {pv : PV} {v : Value} (hr : bm μ l S w pv v) : bm μ l' S w pv v := by
 cases pv with
 | own id gen off len => exact h.own hr
 | aM id gen i off => exact h.aM hr
 | kP id => exact h.kP hr
 | kX f bp => exact h.kX hr
 | _ => exact hr
theorem cM.ZA {l l' : List ak} (h : cM l l') {μ : Mu} {S : Nat → Prop} {w : World} {pv : PV} {v : Value} (hr : k4 μ l S w pv v) : k4 μ l' S w pv v := by
 cases pv with
 | fm sz n e f F => exact hr
 | _ => exact bm.k (h.Zz (k4.c hr)) rfl
theorem G8.ZA {a b : PV} (h : G8 a b) {μ : Mu} {l : List ak} {S : Nat → Prop} {w : World} {v : Value} (hr : k4 μ l S w a v) : k4 μ l S w b v := by
 cases h with
 | same => exact hr
 | nil sz f =>
  have hr : aE S w .bf v := hr
  cases hr
  exact aE.lV _ _ _ _
 | Fs sz e f =>
  have hr : aE S w .bf v := hr
  cases hr
  exact jH.nil _ _ _ _ (fun _ h => h)
theorem cM.Fq {l l' : List ak} (h : cM l l') {μ : Mu} {S : Nat → Prop} {w : World} {pv : PV} {v : Value} (hr : gn μ l S w pv v) : gn μ l' S w pv v := by
 cases pv with
 | own id gen off len => exact h.own hr
 | aM id gen i off => exact h.aM hr
 | kP id => exact h.kP hr
 | kX f bp => exact h.kX hr
 | agg cs =>
  obtain ⟨vs, h1, h2, h3⟩ := hr
  exact ⟨vs, h1, h2, fun j pv hj => by obtain ⟨u, hu, hc⟩ := h3 j pv hj; exact ⟨u, hu, h.Zz hc⟩⟩
 | _ => exact hr
theorem cM.refl : ∀ (l : List ak), cM l l
 | [] => trivial
 | .row g sz n e f :: l => ⟨⟨rfl, rfl, rfl, rfl, fun _ _ => mm.refl _⟩, cM.refl l⟩
 | .dead :: l => ⟨trivial, cM.refl l⟩
theorem cM.set : ∀ (l : List ak) (id g sz n : Nat) (e : TypeId) (f f' : Nat → List PV), (∀ i, i < n → mm (f i) (f' i)) → cM (l.set id (.row g sz n e f)) (l.set id (.row g sz n e f'))
 | [], _, _, _, _, _, _, _, _ => trivial
 | o :: l, 0, g, sz, n, e, f, f', hf => ⟨⟨rfl, rfl, rfl, rfl, hf⟩, cM.refl l⟩
 | o :: l, id + 1, g, sz, n, e, f, f', hf => ⟨by cases o; exact ⟨rfl, rfl, rfl, rfl, fun _ _ => mm.refl _⟩; exact trivial, cM.set l id g sz n e f f' hf⟩
theorem cM.snoc : ∀ (l : List ak) (g sz n : Nat) (e : TypeId) (f f' : Nat → List PV), (∀ i, i < n → mm (f i) (f' i)) → cM (l ++ [.row g sz n e f]) (l ++ [.row g sz n e f'])
 | [], g, sz, n, e, f, f', hf => ⟨⟨rfl, rfl, rfl, rfl, hf⟩, trivial⟩
 | o :: l, g, sz, n, e, f, f', hf => ⟨by cases o; exact ⟨rfl, rfl, rfl, rfl, fun _ _ => mm.refl _⟩; exact trivial, cM.snoc l g sz n e f f' hf⟩
theorem cM.ao6 {l l' : List ak} (h : cM l l') {μ : Mu} {S : Nat → Prop} {w : World} {pv : PV} {v : Value} (hr : aY μ l S w pv v) : aY μ l' S w pv v := by
 cases pv with
 | aU ps =>
  obtain ⟨vs, h1, h2, h3⟩ := hr
  exact ⟨vs, h1, h2, fun j pv hj => by obtain ⟨u, hu, hc⟩ := h3 j pv hj; exact ⟨u, hu, h.Fq hc⟩⟩
 | own id gen off len => exact h.own hr
 | aM id gen i off => exact h.aM hr
 | kP id => exact h.kP hr
 | kX f bp => exact h.kX hr
 | agg cs => exact h.Fq (pv := .agg cs) hr
 | _ => exact hr
theorem cM.core {l l' : List ak} (he : cM l l') {μ : Mu} {S : Nat → Prop} {w : World} (hc : Core μ l S w) : Core μ l' S w := by
 refine ⟨fun id g sz n e f hid => ?_, ⟨fun b hb => hc.ok.apart b (he.sU hb), fun b hb => hc.ok.lt b (he.sU hb), hc.ok.slt, fun i j g sz n e f g' bs n' e' f' b o o' hi hj h1 h3 => ?_, hc.ok.known, fun b hb id i j hx => hc.ok.hv b (he.aji hb) id i j (he.O1 hx), fun b _ _ _ _ _ _ hx hy => hc.ok.hh b _ _ _ _ _ _ (he.O1 hx) (he.O1 hy)⟩⟩
 ·obtain ⟨f', h1, h3⟩ := he.Ft hid
  obtain ⟨q1, q2⟩ := hc.heap id g sz n e f' h1
  refine ⟨fun i hi => by rw [(h3 i hi).len]; exact q1 i hi, ?_⟩
  cases hm : μ id with
  | none => rw [hm] at q2; exact q2
  | some p =>
   obtain ⟨b, base⟩ := p
   rw [hm] at q2
   obtain ⟨o, r1, r2⟩ := q2
   refine ⟨o, r1, ?_⟩
   cases o with
   | cells cur e' z =>
    obtain ⟨r2, r3, r4, r5⟩ := r2
    refine ⟨r2, r3, r4, fun i j pv hi hj => ?_⟩
    obtain ⟨a, ha, hle⟩ := (h3 i hi).get hj
    obtain ⟨v, hv, TX⟩ := r5 i j a hi ha
    exact ⟨v, hv, he.ZA (hle.ZA TX)⟩
   | map es c =>
    obtain ⟨r2, r3⟩ := r2
    refine ⟨r2, fun i hi => ?_⟩
    obtain ⟨kp, vp, en, s1, s2, s3, s4⟩ := r3 i hi
    have hle := h3 i hi
    rw [s1] at hle
    exact ⟨kp, vp, en, hle.O2 s2 s3, s2, s3, s4⟩
   | _ => exact r2.elim
 ·obtain ⟨fi, q1, _⟩ := he.Ft hi
  obtain ⟨fj, q2, _⟩ := he.Ft hj
  exact hc.ok.inj i j g sz n e fi g' bs n' e' fj b o o' q1 q2 h1 h3
theorem cM.fr {l l' : List ak} (he : cM l l') {μ0 μ : Mu} {h0 : List ak} {S0 S : Nat → Prop} {w0 w : World} (hF : Fr μ0 h0 S0 w0 μ l S w) : Fr μ0 h0 S0 w0 μ l' S w := by
 refine ⟨by rw [← he.len]; exact hF.len, hF.blocks, hF.sub, hF.new, fun b hb => hF.own b (he.sU hb), hF.size, hF.os, hF.tape, hF.output, fun id g sz n e f hid => ?_, fun id hid => he.getD (hF.dead id hid), hF.bp, fun id g sz n e f b base hj hm kY => ?_, hF.p8⟩
 rotate_left
 ·obtain ⟨r1, r2⟩ := hF.maps id g sz n e f b base hj hm kY
  refine ⟨r1, ?_⟩
  rcases r2 with r2 | ⟨⟨g', bs, n', e', f', r2⟩, r3⟩
  ·exact .inl (he.getD r2)
  ·obtain ⟨f2, h1, _⟩ := he.get r2
   exact .inr ⟨⟨_, _, _, _, _, h1⟩, r3⟩
 have hg := hF.vK id g sz n e f hid
 cases ho : l[id]? with
 | none => rw [ho] at hg; exact hg.elim
 | some o =>
  cases o with
  | dead => rw [he.getD ho]; trivial
  | row g' bs n' e' f' =>
   obtain ⟨f2, h1, _⟩ := he.get ho
   rw [ho] at hg
   rw [h1]
   exact hg
section
variable {P : Program} {T : lq} {μ : Mu} {h : List ak} {S : Nat → Prop} {w : World}
def eG (P : Program) (o : Oper) (a : Act) (μ : Mu) (h : List ak) (S : Nat → Prop) (w : World) (K : PV → List ak → Prop) : Prop :=
 ∀ (next : Act → World → Prop) (Q : Exit → Act → World → Prop),
  (∀ v val h' μ' S' w', K v h' → aY μ' h' S' w' v val → Core μ' h' S' w' → Fr μ h S w μ' h' S' w' → next (a.put o.dst val) w') → o.wp P a w next Q
theorem eG.rows {o : Oper} {a : Act} {K : PV → List ak → Prop} (hA : eG P o a μ h S w (fun v h1 => ∃ h2, cM h1 h2 ∧ K v h2)) : eG P o a μ h S w K := by
 intro next Q hn
 refine hA next Q fun v val h' μ' S' w' ⟨h2, he, hK⟩ hv hc hf => ?_
 exact hn v val h2 μ' S' w' hK (he.ao6 hv) (he.core hc) (he.fr hf)
theorem eG.mW {o : Oper} {a : Act} {K : PV → List ak → Prop} (hc : Core μ h S w) (hs : cq P o a μ h S w (fun v => K v h)) : eG P o a μ h S w K := by
 obtain ⟨v, val, hK, hv, hr⟩ := hs
 intro next Q hn
 unfold Oper.wp
 rw [hr w (bF.refl w)]
 exact hn v val h μ S w hK hv hc Fr.refl
theorem eG.gC {o : Oper} {a : Act} {K : PV → List ak → Prop} {v : PV} {val : Value} {h' : List ak} {μ' : Mu} {S' : Nat → Prop} {w' : World} (hr : (execOp a.eval o).run P w = .ok (.value val) w') (hK : K v h') (hv : aY μ' h' S' w' v val)
  (hc : Core μ' h' S' w') (hf : Fr μ h S w μ' h' S' w') : eG P o a μ h S w K := by
 intro next Q hn
 unfold Oper.wp
 rw [hr]
 exact hn v val h' μ' S' w' hK hv hc hf
theorem eG.Ej {o : Oper} {a : Act} {K : PV → List ak → Prop} {h' : List ak} {μ' : Mu} {S' : Nat → Prop} {w' : World} (hr : (execOp a.eval o).run P w = .ok .skip w') (hK : K .fO h')
  (hc : Core μ' h' S' w') (hf : Fr μ h S w μ' h' S' w') : eG P o a μ h S w K := by
 intro next Q hn
 unfold Oper.wp
 rw [hr]
 exact hn .fO undef h' μ' S' w' hK trivial hc hf
theorem O3 (hT : cd P T) {t : Nat} {n : Nat} (hn : jj (T.get t) = n) (w3 : 0 < n) : ∃ i, P.info? t = some i ∧ i.size = n := by
 cases eL : T.get t with
 | struct sz fl z =>
  obtain ⟨fs, i, _, hi, fv, _⟩ := hT.struct _ _ _ _ eL
  rw [eL] at hn
  exact ⟨i, hi, fv.trans hn⟩
 | other => rw [eL] at hn; simp [jj] at hn; omega
 | _ =>
  rw [eL] at hn
  have h1 : n = 1 := hn.symm
  subst h1
  refine hT.one t ?_ ?_
  ·rw [eL]; rfl
  ·intro sz fl z hh; rw [eL] at hh; cases hh
variable {a : Act} {env : Env} {K : PV → List ak → Prop} {dst : Option Tmp} {ty : TypeId} {pos : String} {after : Array Edge} {guard : Option (Nat × Bool)}
theorem qD (cur vs : List Value) (o q : Nat) (hl : o + vs.length ≤ cur.length) :
  (cur.take o ++ vs ++ cur.drop (o + vs.length))[q]? = if o ≤ q ∧ q < o + vs.length then vs[q - o]? else cur[q]? := by
 have h1 : (cur.take o).length = o := by simp; omega
 by_cases ha : q < o
 ·rw [if_neg att, amb, art att, asq, if_pos ha]
 ·by_cases hb : q < o + vs.length
  ·rw [if_pos ⟨by omega, hb⟩, art atx, arn att, h1]
  ·rw [if_neg att, arn atx, arT]
   congr 1
   simp
   omega
theorem Bs (hT : cd P T) (hc : Core μ h S w) (ht : ∀ t, aY μ h S w (env t) (a.tmps.getD t undef)) (t : Nat) (ad x : Operand) (hp : pop P T (.store t ad x) env h K) :
  eG P ⟨dst, .store t ad x, ty, pos, after, guard⟩ a μ h S w K := by
 have hx := bh ht x
 have rP := bh ht ad
 simp only [pop] at hp
 split at hp
 ·rename_i id gen i off hea
  rw [hea] at rP
  split at hp
  ·rename_i g sz n e f hg
   obtain ⟨rfl, hp⟩ := hp
   replace hp := aR (br hp)
   obtain ⟨mi, hK⟩ := hp
   simp only [As] at mi
   obtain ⟨⟨⟨qV, w3⟩, hty⟩, hle⟩ := mi
   have w3 := arp w3
   have hty := No hty
   have hle := arp hle
   have hh := dK hg
   have hr := rP.oV
   unfold a6 at hr
   rw [hh] at hr
   obtain ⟨_, _, hr⟩ := hr
   obtain ⟨OU, b, base, dX, CH, hav⟩ := hr rfl
   obtain ⟨hl, iW⟩ := hc.heap id g sz n e f hh
   rw [dX] at iW
   obtain ⟨cur, ju, mP, aI⟩ := bw.cells CH.1 iW
   obtain ⟨hvl, hvc⟩ := kf qV hx
   have hso : ∀ (j : Nat) (pv : PV), (cellsOf (ev env x))[j]? = some pv → eC pv = false := fun j pv hj => CJ qV hj
   generalize Nu : cellsOf (ev env x) = cs at *
   generalize TY : (a.eval x).cells.toList = vs at *
   have w3 : 0 < cs.length := by omega
   obtain ⟨inf, jT, lX⟩ := O3 hT hty w3
   have hmul : (i + 1) * sz ≤ n * sz := ari _ OU
   rw [arq] at hmul
   have jx : (storeCells ⟨b, base + i * sz + off, none⟩ vs 0).run P w = .ok () (w.setRow b (cur.toList.take (base + i * sz + off + 0) ++ vs ++ cur.toList.drop (base + i * sz + off + 0 + vs.length)).toArray) :=
    run_storeCells_at P b (base + i * sz + off) e vs 0 cur w ju att (fun v hv => by
     obtain ⟨j, hj, rfl⟩ := arW.1 hv
     have Fu : j < cs.length := by omega
     obtain ⟨u, hu, hr⟩ := hvc j cs[j] (Of Fu)
     rw [Of hj] at hu
     injection hu with hu
     rw [hu]
     exact hr.one)
   rw [arR] at jx
   have Ek : ∀ k, (sW f i (gr (f i) off cs) k) = if k = i then gr (f i) off cs else f k := fun k => by
    unfold sW
    by_cases hk : k = i
    ·subst hk; simp
    ·have : Nat.beq k i = false := by
      cases hb : Nat.beq k i with
      | true => exact (hk (No hb)).elim
      | false => rfl
     simp [this, hk]
   have lL := mO (w1 := w.setRow b (cur.toList.take (base + i * sz + off) ++ vs ++ cur.toList.drop (base + i * sz + off + vs.length)).toArray) hc id g g sz n n e f (sW f i (gr (f i) off cs)) hh b base
    (cur.toList.take (base + i * sz + off) ++ vs ++ cur.toList.drop (base + i * sz + off + vs.length)).toArray (aqP _) (fun _ => ⟨dX, rfl⟩)
    (.inr ⟨base, cur, dX, ju, by simp; omega⟩) (setRow_heap w b cur _ e _ ju) atx
    (fun b' _ nr => setRow_other w b b' _ nr) atv rfl rfl rfl
    (fun k hk => by
     rw [Ek]
     split
     ·rename_i sT; subst sT; rw [ke]; exact hl _ hk
     ·exact hl k hk)
    (fun b' jL tG => by rw [dX] at tG; injection tG with tG; injection tG with h1 _; subst h1; exact CH.1.qw)
    (fun k j pv hk hj => by
     have AU : j < sz := by
      have h1 := (At.1 hj).1
      rw [Ek] at h1
      split at h1
      ·rw [ke, hl i OU] at h1; exact h1
      ·rw [hl k hk] at h1; exact h1
     have O4 : (cur.toList.take (base + i * sz + off) ++ vs ++ cur.toList.drop (base + i * sz + off + vs.length)).toArray[base + k * sz + j]? = if base + i * sz + off ≤ base + k * sz + j ∧ base + k * sz + j < base + i * sz + off + vs.length then vs[base + k * sz + j - (base + i * sz + off)]? else cur[base + k * sz + j]? := by
      have hsp := qD cur.toList vs (base + i * sz + off) (base + k * sz + j) atx
      rw [asy, hsp]
      simp only [aro]
     rw [O4]
     rw [Ek] at hj
     by_cases sT : k = i
     ·subst sT
      rw [if_pos rfl, mh cs (f k) off j (by rw [hl k hk]; exact hle)] at hj
      by_cases hr : off ≤ j ∧ j < off + cs.length
      ·rw [if_pos hr] at hj
       rw [if_pos att]
       obtain ⟨u, hu, ku⟩ := hvc _ _ hj
       exact ⟨u, by rw [← hu]; congr 1; omega, ku.k (hso _ _ hj)⟩
      ·rw [if_neg hr] at hj
       rw [if_neg att]
       exact aI k j pv hk hj
     ·rw [if_neg sT] at hj
      have KP : ¬ (base + i * sz + off ≤ base + k * sz + j ∧ base + k * sz + j < base + i * sz + off + vs.length) := by
       rcases Nat.lt_or_gt_of_ne sT with cD | xN
       ·have : (k + 1) * sz ≤ i * sz := ari _ cD
        rw [arq] at this
        omega
       ·have : (i + 1) * sz ≤ k * sz := ari _ xN
        rw [arq] at this
        omega
      rw [if_neg KP]
      exact aI k j pv hk hj) 0 (fun k j bs n' e' f' F' hk hj => by
    rw [ard]
    refine ⟨hk, ?_⟩
    rw [Ek] at hj
    by_cases sT : k = i
    ·subst sT
     rw [if_pos rfl, mh cs (f k) off j (by rw [hl k hk]; exact hle)] at hj
     by_cases hr : off ≤ j ∧ j < off + cs.length
     ·rw [if_pos hr] at hj
      have := hso _ _ hj
      cases this
     ·rw [if_neg hr] at hj; exact hj
    ·rw [if_neg sT] at hj; exact hj)
   obtain ⟨ji, mQ⟩ := lL
   obtain ⟨_, f', rfl, oB, hK⟩ := hK
   refine eG.rows (eG.Ej ?_ ⟨_, cM.set _ _ _ _ _ _ _ _ oB, hK⟩ mQ ji)
   have e1 : (execOp a.eval ⟨dst, .store t ad x, ty, pos, after, guard⟩) = (do Instr.storeAt t (a.eval ad) (a.eval x); pure .skip : Sem Next) := rfl
   rw [e1, hav]
   have fv : ¬ (a.eval x).cells.size ≠ inf.size := by
    rw [lX]
    simp only [ne_eq, Decidable.not_not]
    rw [← hvl, ← TY]
    simp
   simp only [Instr.storeAt, Instr.sureAddr, storeVar, Sem.run_bind, Sem.run_pure, Result.andThen, jA jT, if_neg fv, TY, jx]
  ·exact asY
 ·exact asY
theorem w9 (z : Array Value) (n q : Nat) (hq : q < n) (hz : 0 < z.size) : (madeCells z n)[q]? = z[q % z.size]? := by
 have h1 : q % z.size < z.size := Nat.mod_lt _ hz
 simp [madeCells, hq, h1]
theorem O5 (i j sz : Nat) (hj : j < sz) : (i * sz + j) % sz = j := by
 rw [Nat.mul_comm, Nat.mul_add_mod]; exact Nat.mod_eq_of_lt hj
theorem jO (w : World) (o : Obj) : bF w (w.alloc o) :=
 ⟨fun b hb => Below.heap_alloc w o b hb, by simp, rfl, rfl, rfl⟩
theorem CN (hT : cd P T) (hc : Core μ h S w) (ht : ∀ t, aY μ h S w (env t) (a.tmps.getD t undef)) (t : Nat) (l c : Operand) (hp : pop P T (.makeSlice t l c) env h K) :
  eG P ⟨dst, .makeSlice t l c, ty, pos, after, guard⟩ a μ h S w K := by
 have hl := bh ht l
 have dT := bh ht c
 simp only [pop] at hp
 split at hp
 ·rename_i e sz bytes zero k n k' m eL hel hec
  rw [hel] at hl
  rw [hec] at dT
  obtain ⟨⟨h0, h1, h2, h3⟩, _, f', rfl, oB, hK⟩ := hp
  obtain ⟨hu, fv, inf, zv, jT, lX, T0, hz, Ny, NA, KM⟩ := hT.slice _ _ _ _ _ eL
  subst lX T0
  have hm : (inf.bytes : Int) * m ≤ 281474976710656 := by
   have e1 : (m.toNat : Int) = m := Int.toNat_of_nonneg att
   have e2 : ((m.toNat * inf.bytes : Nat) : Int) ≤ 140737488355328 := by omega
   rw [Int.natCast_mul, e1, Int.mul_comm] at e2
   omega
  have jx := run_make (P := P) w t e inf zv hu jT hz k k' n m h0 h1 hm att
  have lL := lD (w1 := w.alloc (.cells (madeCells zv.cells (m.toNat * inf.size)) e)) hc inf.size n.toNat e (fun _ => zero) (some (w.heap.size, 0))
   ⟨aqP _, _, heap_alloc_new w _, by
    rw [size_madeCells, ard]
    exact ari _ att, fun i j pv hi hj => by
    have AU : j < inf.size := by rw [← NA]; exact (At.1 hj).1
    have cD : 0 + i * inf.size + j < m.toNat * inf.size := by
     have : (i + 1) * inf.size ≤ m.toNat * inf.size := ari _ att
     rw [arq] at this
     omega
    rw [w9 _ _ _ cD att, ard, Ny, O5 i j _ AU]
    have G6 : j < zv.cells.size := by omega
    obtain ⟨eg, h5, _, h6⟩ := KM j zv.cells[j] (arl G6)
    rw [hj] at h5
    injection h5 with h5
    subst h5
    exact ⟨_, arl G6, bm.jd (h6 S w)⟩⟩ (jO w _) (fun i hi => NA) (fun i j pv _ hj => by
  have G6 : j < zv.cells.size := by have := (At.1 hj).1; omega
  obtain ⟨eg, h5, _, h6⟩ := KM j zv.cells[j] (arl G6)
  rw [hj] at h5; injection h5 with h5; rw [h5]; exact aE.no (h6 S w))
  obtain ⟨ji, mQ⟩ := lL
  refine eG.rows (eG.gC (bY rfl (by rw [hl.jg, dT.jg]; exact jx)) ⟨_, cM.snoc _ _ _ _ _ _ _ oB, hK⟩ ?_ mQ ji)
  show aV _ _ _ _ _ _ _ _
  unfold aV
  rw [arn (aqP _), arS]
  refine ⟨⟨_, _, _, rfl⟩, aqP _, fun _ => ⟨by omega, ?_⟩⟩
  rw [bg]
  refine ⟨_, m.toNat, rfl, by omega, fun _ => by simp, _, e, _, heap_alloc_new w _, ?_⟩
  rw [size_madeCells]
  simp
 ·exact asY
theorem Bt (sz len : Nat) (place : Nat → Option (Nat × Nat)) (KR : ∀ i, place i = some (i * sz, sz)) : ∀ (l : List (Nat × Operand)) (ρ : Operand → Value) (k : Nat) (cells : Array Value), tO len k l = true → cells.size = len * sz →
  (∀ p ∈ l, (ρ p.2).cells.size = sz) →
  ∃ gB, Instr.fill place cells (l.map fun p => (p.1, ρ p.2)) = some gB ∧ gB.size = len * sz ∧ (∀ q, q < k * sz → gB[q]? = cells[q]?) ∧
   ∀ (i j : Nat) (p : Nat × Operand), l[i]? = some p → j < sz → gB[(k + i) * sz + j]? = (ρ p.2).cells[j]?
 | [], ρ, k, cells, hi, hs, _ => ⟨cells, rfl, hs, fun _ _ => rfl, fun i j p hp => by simp at hp⟩
 | (i0, x) :: r, ρ, k, cells, hi, hs, hv => by
  simp only [tO, As] at hi
  have hik := No hi.1
  subst hik
  have hlen : ∀ (l : List (Nat × Operand)) (k : Nat), tO len k l = true → k ≤ len := by
   intro l
   induction l with
   | nil => intro k h; exact Nat.le_of_eq (No h)
   | cons p l ih =>
    intro k h
    obtain ⟨a, b⟩ := p
    simp only [tO, As] at h
    have := ih (k + 1) h.2
    omega
  have hk := hlen r (i0 + 1) hi.2
  have hvx := hv (i0, x) atv
  have rT : (i0 + 1) * sz ≤ len * sz := ari _ hk
  have ZB := rT
  rw [arq] at ZB
  obtain ⟨g1, g2⟩ := nZ (ρ x) (i0 * sz) cells (by rw [hvx]; omega)
  obtain ⟨gB, h1, h2, h3, h4⟩ := Bt sz len place KR r ρ (i0 + 1) _ hi.2 (g1.trans hs) (fun p hp => hv p (by simp [hp]))
  refine ⟨gB, ?_, h2, fun q hq => ?_, fun i j p hp hj => ?_⟩
  ·simp only [adr, Instr.fill, KR]
   rw [if_neg (by simp only [hvx, ne_eq, not_true_eq_false, false_or]; simp only [arC, decide_eq_true_eq, not_or]; simp; omega)]
   exact h1
  ·rw [h3 q (by rw [arq]; omega), g2 q, if_neg att]
  ·cases i with
   | zero =>
    simp at hp
    subst hp
    rw [arR, h3 _ (by rw [arq]; omega), g2, hvx, if_pos att]
    congr 1
    omega
   | succ i =>
    simp at hp
    have := h4 i j p hp hj
    rw [show i0 + 1 + i = i0 + (i + 1) from by omega] at this
    exact this
theorem sX (hT : cd P T) (hc : Core μ h S w) (ht : ∀ t, aY μ h S w (env t) (a.tmps.getD t undef)) (t len : Nat) (parts : Array (Nat × Operand)) (hp : pop P T (.buildSlice t len parts) env h K) :
  eG P ⟨dst, .buildSlice t len parts, ty, pos, after, guard⟩ a μ h S w K := by
 simp only [pop] at hp
 split at hp
 ·rename_i e sz bytes zero eL
  replace hp := aR hp
  obtain ⟨mi, hK⟩ := hp
  obtain ⟨hu, fv, inf, zv, jT, lX, T0, hz, Ny, NA, KM⟩ := hT.slice _ _ _ _ _ eL
  subst lX
  simp only [As] at mi
  obtain ⟨O4, hle⟩ := mi
  have hle := arp hle
  obtain ⟨kQ, hK⟩ := tP _ _ hK
  simp only [asE, aqQ] at hK
  have iW : ∀ p ∈ parts.toList, (a.eval p.2).cells.size = inf.size ∧ (cellsOf (ev env p.2)).length = inf.size ∧
    ∀ (j : Nat) (q : PV), (cellsOf (ev env p.2))[j]? = some q → ∃ u, (a.eval p.2).cells[j]? = some u ∧ bm μ h S w q u := fun p hp => by
   obtain ⟨h1, h2⟩ := kQ p hp
   have h2 := No h2
   obtain ⟨h3, h4⟩ := kf h1 (bh ht p.2)
   simp only [arM, aro] at h3 h4
   exact ⟨h3.trans h2, h2, h4⟩
  obtain ⟨gB, f1, f2, _, f4⟩ := Bt inf.size len (fun i => some (i * inf.size, inf.size)) (fun _ => rfl) parts.toList a.eval 0
   ((Array.range (len * inf.size)).map (fun q => (if len * inf.size = 0 then #[] else zv.cells)[q % (if len * inf.size = 0 then #[] else zv.cells).size]!)) O4 atv (fun p hp => (iW p hp).1)
  have hlen : parts.toList.length = len := by
   have key : ∀ (l : List (Nat × Operand)) (k : Nat), tO len k l = true → k + l.length = len := by
    intro l
    induction l with
    | nil => intro k hh; exact No hh
    | cons p l ih =>
     intro k hh
     obtain ⟨x, y⟩ := p
     simp only [tO, As] at hh
     have := ih (k + 1) hh.2
     simp only [an]
     omega
   have := key parts.toList 0 O4
   omega
  have bP : ∀ i, i < len → ∃ p, parts.toList[i]? = some p ∧ p ∈ parts.toList ∧ (parts.toList.map fun p => cellsOf (ev env p.2)).getD i [] = cellsOf (ev env p.2) := fun i hi => by
   have Fv : i < parts.toList.length := by omega
   refine ⟨parts.toList[i], Of Fv, arb Fv, ?_⟩
   rw [arc, ark, Of Fv]
   rfl
  have lL := lD (w1 := w.alloc (.cells gB e)) hc inf.size len e (fun k => (parts.toList.map fun p => cellsOf (ev env p.2)).getD k []) (some (w.heap.size, 0))
   ⟨aqP _, gB, heap_alloc_new w _, by omega, fun i j pv hi hj => by
    obtain ⟨p, Fh, Nr, T1⟩ := bP i hi
    rw [T1] at hj
    obtain ⟨_, q2, q3⟩ := iW p Nr
    have AU : j < inf.size := by rw [← q2]; exact (At.1 hj).1
    have := f4 i j p Fh AU
    rw [ard] at this
    obtain ⟨u, zV, sL⟩ := q3 j pv hj
    exact ⟨u, by rw [← zV, ← this, ard], sL⟩⟩ (jO w _)
   (fun i hi => by
    obtain ⟨p, Fh, Nr, T1⟩ := bP i hi
    rw [T1]
    exact (iW p Nr).2.1) (fun i j pv hi hj => by
    obtain ⟨p, Fh, Nr, T1⟩ := bP i hi
    rw [T1] at hj
    exact CJ (kQ p Nr).1 hj)
  obtain ⟨ji, mQ⟩ := lL
  obtain ⟨f', oB, hK⟩ := hK
  refine eG.rows (eG.gC (val := .slice (some ⟨w.heap.size, 0, none⟩) len len) (bY rfl ?_) ⟨_, cM.snoc _ _ _ _ _ _ _ oB, hK⟩ ?_ mQ ji)
  ·have ZC : (parts.map fun p => (p.1, a.eval p.2)).toList = parts.toList.map fun p => (p.1, a.eval p.2) := by simp
   have hn : ¬ (16777216 < len * inf.size) := by omega
   have El : Instr.fill (fun i => some (i * inf.size, inf.size)) (Array.map (fun x => (if len * inf.size = 0 then #[] else zv.cells)[x % (if len * inf.size = 0 then #[] else zv.cells).size]!) (Array.range (len * inf.size))) (parts.map fun p => (p.1, a.eval p.2)).toList = some gB := by
    rw [ZC]; exact f1
   by_cases h0 : len * inf.size = 0
   ·simp [h0] at El
    simp only [Instr.buildSlice, Sem.run_bind, run_underlying hu, Result.andThen, jA jT]
    simp [h0, newRow]
    rw [El]
    rfl
   ·simp [h0] at El
    simp only [Instr.buildSlice, Sem.run_bind, run_underlying hu, Result.andThen, jA jT]
    simp [h0, hn, newRow, zeroValue, typeInfo, jT, hz]
    rw [El]
    rfl
  ·show aV _ _ _ _ _ _ _ _
   unfold aV
   rw [arn (aqP _), arS]
   refine ⟨⟨_, _, _, rfl⟩, aqP _, fun _ => ⟨by omega, ?_⟩⟩
   rw [bg]
   exact ⟨_, len, rfl, aqP _, fun _ => by simp, gB, e, _, heap_alloc_new w _, by rw [ard, ard]; omega⟩
 ·exact asY
theorem Fw (hc : Core μ h S w) (ht : ∀ t, aY μ h S w (env t) (a.tmps.getD t undef)) (t : Nat) (x : Operand) (hp : pop P T (.box t x) env h K) :
  eG P ⟨dst, .box t x, ty, pos, after, guard⟩ a μ h S w K := by
 simp only [pop] at hp
 replace hp := aR (br hp)
 obtain ⟨mi, hK⟩ := hp
 simp only [As] at mi
 obtain ⟨qV, hlen⟩ := mi
 have hlen := No hlen
 obtain ⟨h3, h4⟩ := kf qV (bh ht x)
 simp only [arM, aro] at h3 h4
 have lL := lD (w1 := w.alloc (.cells (a.eval x).cells t)) hc (jj (T.get t)) 1 t (fun _ => cellsOf (ev env x)) (some (w.heap.size, 0))
  ⟨aqP _, _, heap_alloc_new w _, by omega, fun i j pv hi hj => by
   obtain ⟨u, hu, hr⟩ := h4 j pv hj
   have : i = 0 := by omega
   subst this
   exact ⟨u, by rw [← hu]; congr 1; omega, hr⟩⟩ (jO w _) (fun i hi => hlen) (fun i j pv _ hj => CJ qV hj)
 obtain ⟨ji, mQ⟩ := lL
 refine eG.gC (val := .pointer (some ⟨w.heap.size, 0, none⟩)) (bY rfl ?_) hK ?_ mQ ji
 ·simp [Instr.box, newVar, newRow]
 ·show a6 _ _ _ _ _ _ _ _
  unfold a6
  rw [arn (aqP _), arS]
  refine ⟨⟨_, rfl⟩, aqP _, fun _ => ⟨by omega, w.heap.size, 0, bg _ _ _, ⟨⟨_, _, _, heap_alloc_new w _, asm _⟩, fun _ => rfl⟩, ?_⟩⟩
  simp
theorem Bu (hT : cd P T) (hc : Core μ h S w) (t : Nat) (hp : pop P T (.alloc t) env h K) :
  eG P ⟨dst, .alloc t, ty, pos, after, guard⟩ a μ h S w K := by
 simp only [pop] at hp
 split at hp
 ·rename_i z eL
  obtain ⟨i, zv, hi, hz, Ny, NA, KM⟩ := hT.zero t z eL
  generalize fv : jj (T.get t) = sz at *
  have lL := lD (w1 := w.alloc (.cells zv.cells t)) hc sz 1 t (fun _ => z) (some (w.heap.size, 0))
   ⟨aqP _, _, heap_alloc_new w _, by omega, fun i j pv hi hj => by
    have G6 : j < zv.cells.size := by
     have := (At.1 hj).1
     omega
    obtain ⟨eg, h5, _, h6⟩ := KM j zv.cells[j] (arl G6)
    rw [hj] at h5
    injection h5 with h5
    subst h5
    have : i = 0 := by omega
    subst this
    exact ⟨_, by rw [← arl G6]; congr 1; omega, bm.jd (h6 S w)⟩⟩ (jO w _) (fun i hi => NA) (fun i j pv _ hj => by
  have G6 : j < zv.cells.size := by have := (At.1 hj).1; omega
  obtain ⟨eg, h5, _, h6⟩ := KM j zv.cells[j] (arl G6)
  rw [hj] at h5; injection h5 with h5; rw [h5]; exact aE.no (h6 S w))
  obtain ⟨ji, mQ⟩ := lL
  refine eG.gC (val := .pointer (some ⟨w.heap.size, 0, none⟩)) (bY rfl ?_) hp ?_ mQ ji
  ·simp [Instr.alloc, zeroValue, typeInfo, hi, hz, newVar, newRow]
  ·show a6 _ _ _ _ _ _ _ _
   unfold a6
   rw [arn (aqP _), arS]
   refine ⟨⟨_, rfl⟩, aqP _, fun _ => ⟨by omega, w.heap.size, 0, bg _ _ _, ⟨⟨_, _, _, heap_alloc_new w _, asm _⟩, fun _ => rfl⟩, ?_⟩⟩
   simp
 ·exact asY
end
end Go.Am
