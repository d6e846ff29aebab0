/- Texts of the proof, joined and shortened. -/
import Derived.Test.YtalfppmpmnlnlaaGreatDoorPk0
import Derived.WalkLawsBesides
set_option linter.unusedVariables false
set_option linter.unusedSimpArgs false
namespace Go.Am
open Go Go.RowKit
def BK : TypeDesc → Bool
 | .struct _ => true
 | .array _ _ => true
 | _ => false
def jW (P : Program) : Nat → List Field → List PV → Bool
 | _, [], [] => true
 | n, f :: r, .int k _ :: z => f.name != "_" && Nat.beq f.offset n && (match P.underlying f.type with | some (.int k') => rh k k' | _ => false) && jW P (n + 1) r z
 | n, f :: r, .bool _ :: z => f.name != "_" && Nat.beq f.offset n && (match P.underlying f.type with | some .bool => true | _ => false) && jW P (n + 1) r z
 | n, f :: r, .str _ :: z => f.name != "_" && Nat.beq f.offset n && (match P.underlying f.type with | some .string => true | _ => false) && jW P (n + 1) r z
 | _, _, _ => false
def Fo (P : Program) (t : Nat) (z : List PV) : Bool := match P.underlying t with
 | some (.struct fs) => !(P.stoodInHeld t) && !(P.eqGuardType P.depth t) && jW P 0 fs.toList z
 | _ => false
structure dJ (P : Program) (T : pr) : Prop where
 flat : ∀ t sz fl z, T.get t = .struct sz fl z → zN z = true → Fo P t z = true
 int : ∀ t k, T.get t = .int k → P.underlying t = some (.int k)
 bool : ∀ t, T.get t = .bool → P.underlying t = some .bool
 str : ∀ t, T.get t = .str → P.underlying t = some .string
 ptr : ∀ t e, T.get t = .ptr e → P.underlying t = some (.pointer e)
 slice : ∀ t e sz Oj z, T.get t = .slice e sz Oj z → P.underlying t = some (.slice e) ∧ 0 < sz ∧ ∃ i zv, P.info? e = some i ∧ i.size = sz ∧ i.bytes = Oj ∧ i.zero = some zv ∧ zv.cells.size = sz ∧ z.length = sz ∧
  ∀ (j : Nat) (u : Value), zv.cells[j]? = some u → ∃ pv : PV, z[j]? = some pv ∧ u.oneCell' = true ∧ ∀ S w, aV S w pv u
 map : ∀ t k e z, T.get t = .map k e z → P.underlying t = some (.map k e) ∧ ∃ i zv, P.info? e = some i ∧ i.zero = some zv ∧ ri z zv ∧ kE z = true ∧ storable z = true
 bytes : ∀ t e sz Oj z, T.get t = .slice e sz Oj z → 0 < Oj
 one : ∀ t, lJ (T.get t) = 1 → (∀ sz fl z, T.get t ≠ .struct sz fl z) → ∃ i, P.info? t = some i ∧ i.size = 1
 zero : ∀ t z, BL (T.get t) = some z → ∃ i zv, P.info? t = some i ∧ i.zero = some zv ∧ zv.cells.size = lJ (T.get t) ∧ z.length = lJ (T.get t) ∧
  ∀ (j : Nat) (u : Value), zv.cells[j]? = some u → ∃ pv : PV, z[j]? = some pv ∧ u.oneCell' = true ∧ ∀ S w, aV S w pv u
 struct : ∀ t sz fl z, T.get t = .struct sz fl z → ∃ fs i, P.underlying t = some (.struct fs) ∧ P.info? t = some i ∧ i.size = sz ∧ fl.length = fs.size ∧
  (∃ zv, i.zero = some zv ∧ zv.cells.size = sz ∧ z.length = sz ∧ ∀ (j : Nat) (u : Value), zv.cells[j]? = some u → ∃ pv : PV, z[j]? = some pv ∧ u.oneCell' = true ∧ ∀ S w, aV S w pv u) ∧
  ∀ (k : Nat) (off size : Nat) (ag : Bool), fl[k]? = some (off, size, ag) → ∃ f j d, fs[k]? = some f ∧ f.offset = off ∧ P.info? f.type = some j ∧ j.size = size ∧ 0 < size ∧
   P.underlying f.type = some d ∧ ag = BK d
section
variable {P : Program} {T : pr} {μ : Mu} {h : List ak} {S : Nat → Prop} {w : World}
theorem bN.lC {k : IntKind} {n : Int} {v : Value} (hv : bN μ h S w (.int k n) v) : v = .int k n := by
 have hv : aV S w (.int k n) v := hv
 cases hv; rfl
theorem bN.mZ {b : Bool} {v : Value} (hv : bN μ h S w (.bool b) v) : v = .bool b := by
 have hv : aV S w (.bool b) v := hv
 cases hv; rfl
theorem bN.nd {s : List UInt8} {v : Value} (hv : bN μ h S w (.str s) v) : v = .string ⟨⟨s⟩⟩ := by
 have hv : aV S w (.str s) v := hv
 cases hv; rfl
theorem bN.rJ {v : Value} (hv : bN μ h S w .aq v) : v = .slice none 0 0 := by
 have hv : aV S w .aq v := hv
 cases hv; rfl
theorem bN.Ol {f : Nat} {v : Value} (hv : bN μ h S w (.fn f) v) : v = .func (.func f) #[] #[] := by
 have hv : aV S w (.fn f) v := hv
 cases hv; rfl
theorem bN.u9 {sz n : Nat} {f : Nat → List PV} {v : Value} (hv : bN μ h S w (.gz sz n f) v) :
  (∃ a c, v = .slice a n c ∧ n = 0) ∨ ∃ (b off c : Nat) (vf : Nat → Nat → Value), v = .slice (some ⟨b, off, none⟩) n c ∧ S b ∧ (∀ i, i < n → (f i).length = sz) ∧ n ≤ c ∧
   (∀ (i j : Nat) (pv : PV), i < n → (f i)[j]? = some pv → w.cell? ⟨b, off + i * sz + j, none⟩ = some (vf i j)) ∧ (∀ (i j : Nat) (pv : PV), i < n → (f i)[j]? = some pv → aV S w pv (vf i j)) := by
 have hv : aV S w (.gz sz n f) v := hv
 cases hv with
 | qj _ _ a c => exact .inl ⟨a, c, rfl, rfl⟩
 | gz _ _ _ b off c vf h1 h2 h3 h4 h5 => exact .inr ⟨b, off, c, vf, rfl, h1, h2, h3, h4, h5⟩
theorem bN.xq {cs : List PV} {v : Value} (hv : bN μ h S w (.gf cs) v) :
  ∃ (b off : Nat) (vf : Nat → Value), v = .pointer (some ⟨b, off, none⟩) ∧ S b ∧ (∀ (j : Nat) (pv : PV), cs[j]? = some pv → w.cell? ⟨b, off + j, none⟩ = some (vf j)) ∧ (∀ (j : Nat) (pv : PV), cs[j]? = some pv → aV S w pv (vf j)) := by
 have hv : aV S w (.gf cs) v := hv
 cases hv with
 | gf _ b off vf h1 h4 h5 => exact ⟨b, off, vf, rfl, h1, h4, h5⟩
theorem Om {v : Value} {p : PV} (h : VP v = some p) : aV S w p v := by
 cases v with
 | int k n => cases h; exact aV.int k n
 | bool b => cases h; exact aV.bool b
 | string s =>
  obtain ⟨⟨l⟩⟩ := s
  cases h
  exact aV.str l
 | slice a n c =>
  cases a with
  | none =>
   cases n with
   | zero =>
    cases c with
    | zero => cases h; exact aV.aq
    | succ c => cases h
   | succ n => cases h
  | some a => cases h
 | _ => cases h
theorem G9 : ∀ {vs : List Value} {l : List PV}, Lr vs = some l → vs.length = l.length ∧ ∀ (j : Nat) (pv : PV), l[j]? = some pv → ∃ u, vs[j]? = some u ∧ aV S w pv u
 | [], l, h => by
  cases h
  exact ⟨rfl, fun j pv hj => by simp at hj⟩
 | v :: r, l, h => by
  unfold Lr at h
  cases h1 : VP v with
  | none => rw [h1] at h; cases h
  | some p =>
   cases h2 : Lr r with
   | none => rw [h1, h2] at h; cases h
   | some q =>
    rw [h1, h2] at h
    cases h
    obtain ⟨q1, q2⟩ := G9 h2
    refine ⟨by simp [q1], fun j pv hj => ?_⟩
    cases j with
    | zero => simp at hj; subst hj; exact ⟨v, rfl, Om h1⟩
    | succ j => obtain ⟨u, r1, r2⟩ := q2 j pv ahI; exact ⟨u, by simpa using r1, r2⟩
theorem Ha (v : Value) : bN μ h S w (ofValue v) v := by
 cases v with
 | int k n => exact aV.int k n
 | bool b => exact aV.bool b
 | string s =>
  obtain ⟨⟨l⟩⟩ := s
  exact aV.str l
 | slice a n c =>
  cases a with
  | none =>
   cases n with
   | zero =>
    cases c with
    | zero => exact aV.aq
    | succ c => trivial
   | succ n => trivial
  | some a => trivial
 | agg vs =>
  simp only [ofValue]
  cases hl : Lr vs.toList with
  | none => trivial
  | some l =>
   obtain ⟨q1, q2⟩ := G9 (S := S) (w := w) hl
   exact ⟨vs, rfl, by simpa using q1, fun j pv hj => by obtain ⟨u, r1, r2⟩ := q2 j pv hj; exact ⟨u, by simpa using r1, bZ.kG r2⟩⟩
 | _ => trivial
theorem bY {env : Env} {a : Act} (ht : ∀ t, bN μ h S w (env t) (a.tmps.getD t undef)) (x : Operand) : bN μ h S w (ev env x) (a.eval x) := by
 cases x with
 | tmp t => exact ht t
 | const v => exact Ha v
 | global g => trivial
 | func f => exact aV.fn f
def dV (P : Program) (o : Oper) (a : Act) (μ : Mu) (h : List ak) (S : Nat → Prop) (w : World) (K : PV → Prop) : Prop :=
 ∃ v val, K v ∧ bN μ h S w v val ∧ ∀ w', cP w w' → (execOp a.eval o).run P w' = .ok (.value val) w'
theorem dV.mk {o : Oper} {a : Act} {K : PV → Prop} {v : PV} {val : Value} (hK : K v) (hv : bN μ h S w v val) (hr : ∀ w', cP w w' → (execOp a.eval o).run P w' = .ok (.value val) w') : dV P o a μ h S w K := ⟨v, val, hK, hv, hr⟩
variable {a : Act} {env : Env} {K : PV → Prop} {dst : Option Tmp} {ty : TypeId} {pos : String} {after : Array Edge} {guard : Option (Nat × Bool)}
theorem zO {s : Sem Value} {w' On : World} {val : Value} (hs : s.run P w' = .ok val On) : (do pure (Next.value (← s)) : Sem Next).run P w' = .ok (.value val) On := by
 simp [hs]
theorem toList_mk (l : List UInt8) : (ByteArray.mk ⟨l⟩).toList = l := by
 have h : (ByteArray.mk ⟨l⟩).toList = (ByteArray.mk ⟨l⟩).data.toList := by simp
 rw [h]
theorem Kr {bo : BinOp} {t : TypeId} {x y : Operand} {u u' val : Value} {w' : World} (hg : eqGuard bo t x y u u' = pure ()) (hb : (binOp bo t u u').run P w' = .ok val w') :
  (do eqGuard bo t x y u u'; binOp bo t u u' : Sem Value).run P w' = .ok val w' := by
 rw [hg]
 simp [hb]
theorem sM {P : Program} {t : TypeId} {d : TypeDesc} (hu : P.underlying t = some d) (hd : BK d = false) (cs : Array Value) (off : Nat) (v : Value) (hc : cs[off]? = some v) (w : World) : (part t cs off).run P w = .ok v w := by
 have : (isAgg t).run P w = .ok false w := by
  unfold isAgg
  simp only [Sem.run_bind, run_underlying hu, Result.andThen]
  cases d <;> first | rfl | cases hd
 simp [part, this, hc]
theorem cy {g q : Bool} {o : Option Bool} {b : Bool} (h : Hb g q o = some b) : g = true ∧ ∃ c, o = some c ∧ b = (q && c) := by
 cases o with
 | none => cases h
 | some c => cases g with
  | true => exact ⟨rfl, c, rfl, (aeC h).symm⟩
  | false => cases h
theorem rj {P : Program} {μ : Mu} {h : List ak} {S : Nat → Prop} {w w' : World} {xs ys : Array Value} (d : Nat) : ∀ (fs : List Field) (z Q0 Ks : List PV) (n : Nat) (b : Bool), jW P n fs z = true →
  (∀ (j : Nat) (pv : PV), Q0[j]? = some pv → ∃ u, xs[n + j]? = some u ∧ bZ μ h S w pv u) → (∀ (j : Nat) (pv : PV), Ks[j]? = some pv → ∃ u, ys[n + j]? = some u ∧ bZ μ h S w pv u) →
  DM z Q0 Ks = some b → (Op.eqFields (d + 1) xs ys fs).run P w' = .ok b w'
 | [], z, Q0, Ks, n, b, hf, _, _, hk => by
  cases z with
  | nil =>
   cases Q0 with
   | nil => cases Ks with
    | nil => cases hk; rfl
    | cons _ _ => cases hk
   | cons _ _ => cases hk
  | cons _ _ => simp [jW] at hf
 | f :: fs, z, Q0, Ks, n, b, hf, hx, hy, hk => by
  have go : ∀ (c1 c2 : PV) (v1 v2 : Value) (q c : Bool) (dd : TypeDesc) (z r r' : List PV), Q0 = c1 :: r → Ks = c2 :: r' → (∀ u, bZ μ h S w c1 u → u = v1) → (∀ u, bZ μ h S w c2 u → u = v2) → f.name ≠ "_" → f.offset = n → P.underlying f.type = some dd → BK dd = false →
    (Op.equalIn (d + 1) f.type v1 v2).run P w' = .ok q w' → jW P (n + 1) fs z = true → DM z r r' = some c → (Op.eqFields (d + 1) xs ys (f :: fs)).run P w' = .ok (q && c) w' := by
   intro c1 c2 v1 v2 q c dd z r r' e1 e2 hi1 hi2 Q1 Zl hu hd hq hfs vB
   subst e1 e2
   obtain ⟨u1, Mq, hr1⟩ := hx 0 c1 rfl
   obtain ⟨u2, Kt, hr2⟩ := hy 0 c2 rfl
   obtain rfl := hi1 u1 hr1
   obtain rfl := hi2 u2 hr2
   have lV := rj (w' := w') d fs z r r' (n + 1) c hfs (fun j pv hj => by
     obtain ⟨u, q1, q2⟩ := hx (j + 1) pv ahI
     exact ⟨u, by rw [← q1]; congr 1; omega, q2⟩) (fun j pv hj => by
     obtain ⟨u, q1, q2⟩ := hy (j + 1) pv ahI
     exact ⟨u, by rw [← q1]; congr 1; omega, q2⟩) vB
   have p1 := sM hu hd xs f.offset u1 (by rw [Zl]; exact Mq) w'
   have p2 := sM hu hd ys f.offset u2 (by rw [Zl]; exact Kt) w'
   unfold Op.eqFields
   rw [if_pos Q1]
   simp only [Sem.run_bind, p1, p2, hq, Result.andThen_ok]
   cases q with
   | true => simpa using lV
   | false => simp
  unfold DM at hk
  split at hk
  ·simp [jW] at hf
  ·rename_i k n0 z k1 a r k2 b' r'
   simp only [jW, so, bne_iff_ne] at hf
   obtain ⟨⟨⟨h1, h2⟩, h3⟩, h4⟩ := hf
   have h2 := adW h2
   obtain ⟨hg, c, hc, rfl⟩ := cy hk
   simp only [so] at hg
   obtain rfl := fp hg.1
   obtain rfl := fp hg.2
   split at h3
   ·rename_i k' hu
    exact go _ _ (.int k a) (.int k b') (a == b') c _ z r r' rfl rfl (fun u hu => by have hu : aV S w (.int k a) u := hu; cases hu; rfl) (fun u hu => by have hu : aV S w (.int k b') u := hu; cases hu; rfl) h1 h2 hu rfl (run_equalIn_int w' d _ _ _ _ _ hu) h4 hc
   ·cases h3
  ·rename_i n0 z a r b' r'
   simp only [jW, so, bne_iff_ne] at hf
   obtain ⟨⟨⟨h1, h2⟩, h3⟩, h4⟩ := hf
   have h2 := adW h2
   obtain ⟨hg, c, hc, rfl⟩ := cy hk
   split at h3
   ·rename_i hu
    exact go _ _ (.bool a) (.bool b') (a == b') c _ z r r' rfl rfl (fun u hu => by have hu : aV S w (.bool a) u := hu; cases hu; rfl) (fun u hu => by have hu : aV S w (.bool b') u := hu; cases hu; rfl) h1 h2 hu rfl (run_equalIn_bool w' d _ _ _ hu) h4 hc
   ·cases h3
  ·rename_i n0 z a r b' r'
   simp only [jW, so, bne_iff_ne] at hf
   obtain ⟨⟨⟨h1, h2⟩, h3⟩, h4⟩ := hf
   have h2 := adW h2
   obtain ⟨hg, c, hc, rfl⟩ := cy hk
   split at h3
   ·rename_i hu
    exact go _ _ (.string ⟨⟨a⟩⟩) (.string ⟨⟨b'⟩⟩) (a == b') c _ z r r' rfl rfl (fun u hu => by have hu : aV S w (.str a) u := hu; cases hu; rfl) (fun u hu => by have hu : aV S w (.str b') u := hu; cases hu; rfl) h1 h2 hu rfl (by
     rw [run_equalIn_string w' d _ _ _ hu, toList_mk, toList_mk]) h4 hc
   ·cases h3
  ·cases hk
theorem Ls (hT : dJ P T) (bo : BinOp) (t t' : TypeId) (x y : Operand) (px py : PV) (hx : bN μ h S w px (a.eval x)) (hy : bN μ h S w py (a.eval y)) (hp : Lt (T.get t) bo px py K) :
  dV P ⟨dst, .binOp bo t x y t', ty, pos, after, guard⟩ a μ h S w K := by
 have key : ∀ (v : PV) (val : Value), K v → bN μ h S w v val → eqGuard bo t x y (a.eval x) (a.eval y) = pure () → (∀ w', (binOp bo t (a.eval x) (a.eval y)).run P w' = .ok val w') →
   dV P ⟨dst, .binOp bo t x y t', ty, pos, after, guard⟩ a μ h S w K := fun v val hK hv hg hr => .mk hK hv fun w' _ => zO (Kr hg (hr w'))
 unfold Lt at hp
 split at hp
 ·rename_i k n k' n'
  have ex := hx.lC
  have ey := hy.lC
  have hg : eqGuard bo t x y (a.eval x) (a.eval y) = pure () := by rw [ex]; apply eqGuard_at_int
  cases bo <;> simp only at hp
  case shl =>
   have h0 : ¬ n' < 0 := by omega
   exact key _ _ hp.2 (aV.int _ _) hg fun w' => by rw [ex, ey, binOp_shl]; simp only [Op.shift, if_neg h0]; rfl
  case shr =>
   have h0 : ¬ n' < 0 := by omega
   exact key _ _ hp.2 (aV.int _ _) hg fun w' => by rw [ex, ey, binOp_shr]; simp only [Op.shift, if_neg h0]; rfl
  all_goals
   replace hp := bF hp
   obtain ⟨hk, hp⟩ := hp
   obtain rfl := fp hk
  case and => exact key _ _ hp (aV.int _ _) hg fun w' => by rw [ex, ey, binOp_and, intBits_and]; rfl
  case or => exact key _ _ hp (aV.int _ _) hg fun w' => by rw [ex, ey, binOp_or, intBits_or]; rfl
  case xor => exact key _ _ hp (aV.int _ _) hg fun w' => by rw [ex, ey, binOp_xor, intBits_xor]; rfl
  case andNot => exact key _ _ hp (aV.int _ _) hg fun w' => by rw [ex, ey, binOp_andNot, intBits_andNot]; rfl
  case add => exact key _ _ hp (aV.int _ _) hg fun w' => by rw [ex, ey, binOp_add]; rfl
  case sub => exact key _ _ hp (aV.int _ _) hg fun w' => by rw [ex, ey, binOp_sub]; rfl
  case mul => exact key _ _ hp (aV.int _ _) hg fun w' => by rw [ex, ey, binOp_mul]; rfl
  case quo => exact key _ _ hp.2 (aV.int _ _) hg fun w' => by rw [ex, ey, binOp_quo]; simp [Op.intDiv, hp.1]
  case rem => exact key _ _ hp.2 (aV.int _ _) hg fun w' => by rw [ex, ey, binOp_rem]; simp [Op.intDiv, hp.1]
  case eql => exact key _ _ hp (aV.bool _) hg fun w' => by rw [ex, ey, binOp_eql]; rfl
  case neq => exact key _ _ hp (aV.bool _) hg fun w' => by rw [ex, ey, binOp_neq]; rfl
  case lss => exact key _ _ hp (aV.bool _) hg fun w' => by rw [ex, ey, binOp_lss]; rfl
  case leq => exact key _ _ hp (aV.bool _) hg fun w' => by rw [ex, ey, binOp_leq]; rfl
  case gtr => exact key _ _ hp (aV.bool _) hg fun w' => by rw [ex, ey, binOp_gtr]; rfl
  case geq => exact key _ _ hp (aV.bool _) hg fun w' => by rw [ex, ey, binOp_geq]; rfl
 ·rename_i b b'
  have ex := hx.mZ
  have ey := hy.mZ
  have hg : eqGuard bo t x y (a.eval x) (a.eval y) = pure () := by rw [ex]; apply eqGuard_at_bool
  split at hp
  ·rename_i gY
   exact key _ _ hp (aV.bool _) hg fun w' => by rw [ex, ey]; exact run_eql_bool w' t _ _ (hT.bool _ gY)
  ·rename_i gY
   exact key _ _ hp (aV.bool _) hg fun w' => by rw [ex, ey]; exact run_neq_bool w' t _ _ (hT.bool _ gY)
  ·exact agR
 ·rename_i s s'
  have ex := hx.nd
  have ey := hy.nd
  have hg : eqGuard bo t x y (a.eval x) (a.eval y) = pure () := by rw [ex]; apply eqGuard_at_string
  cases bo <;> simp only at hp
  case add =>
   obtain ⟨NC, _, rfl, Mj⟩ := hp
   refine key _ _ Mj (aV.str _) hg fun w' => ?_
   rw [ex, ey, binOp_string_add]
   have h1 : ¬ (((ByteArray.mk ⟨s⟩).size + (ByteArray.mk ⟨s'⟩).size : Nat) : Int) > IntKind.i64.max := by
    have e1 : (ByteArray.mk ⟨s⟩).size = s.length := rfl
    have e2 : (ByteArray.mk ⟨s'⟩).size = s'.length := rfl
    rw [e1, e2, IntKind.max_i64]
    omega
   simp only [Op.stringOp, if_neg h1]
   have h2 : ByteArray.mk ⟨s⟩ ++ ByteArray.mk ⟨s'⟩ = ByteArray.mk ⟨s ++ s'⟩ := by
    apply ByteArray.ext
    simp [ByteArray.data_append]
   rw [h2]
   rfl
  case eql => exact key _ _ hp (aV.bool _) hg fun w' => by rw [ex, ey, binOp_string_eql, toList_mk, toList_mk]; rfl
  case neq => exact key _ _ hp (aV.bool _) hg fun w' => by rw [ex, ey, binOp_string_neq, toList_mk, toList_mk]; rfl
  case lss => exact key _ _ hp (aV.bool _) hg fun w' => by rw [ex, ey, binOp_string_lss, toList_mk, toList_mk]; rfl
  case leq => exact key _ _ hp (aV.bool _) hg fun w' => by rw [ex, ey, binOp_string_leq, toList_mk, toList_mk]; rfl
  case gtr => exact key _ _ hp (aV.bool _) hg fun w' => by rw [ex, ey, binOp_string_gtr, toList_mk, toList_mk]; rfl
  case geq => exact key _ _ hp (aV.bool _) hg fun w' => by rw [ex, ey, binOp_string_geq, toList_mk, toList_mk]; rfl
  all_goals exact hp.elim
 ·rename_i Q0 Ks
  split at hp
  ·rename_i sz fl z gY
   replace hp := bF hp
   obtain ⟨hz, hp⟩ := hp
   have zQ := hT.flat _ _ _ _ gY hz
   unfold Fo at zQ
   split at zQ
   ·rename_i fs hu
    simp only [so, aex] at zQ
    obtain ⟨⟨h1, h2⟩, h3⟩ := zQ
    obtain ⟨xs, ex, _, Xs⟩ := hx
    obtain ⟨ys, ey, _, hys⟩ := hy
    have I7 : P.fieldsOf t = fs := by simp [Program.fieldsOf, hu]
    have lV : ∀ b, DM z Q0 Ks = some b → ∀ w', (Op.equalIn 10000 t (.agg xs) (.agg ys)).run P w' = .ok b w' := fun b hk w' => by
     rw [run_equalIn_struct w' 9999 t xs ys (by rw [I7]; exact hu) h1, I7]
     exact rj (μ := μ) (h := h) (S := S) (w := w) 9998 fs.toList z Q0 Ks 0 b h3 (fun j pv hj => by rw [adX]; exact Xs j pv hj) (fun j pv hj => by rw [adX]; exact hys j pv hj) hk
    have Zm : ∀ (b : Bool), K (.bool b) → (∀ w', (binOp bo t (.agg xs) (.agg ys)).run P w' = .ok (.bool b) w') → dV P ⟨dst, .binOp bo t x y t', ty, pos, after, guard⟩ a μ h S w K := fun b hK hr => .mk hK (aV.bool b) fun w' _ => zO (by
     rw [ex, ey]
     simp [run_eqGuard_agg w' bo t x y xs ys h2, hr w'])
    split at hp
    ·rename_i b hb
     split at hp
     ·obtain ⟨_, rfl, hK⟩ := hp
      exact Zm _ hK fun w' => by rw [run_eql_struct, lV b hb w']; rfl
     ·obtain ⟨_, rfl, hK⟩ := hp
      exact Zm _ hK fun w' => by rw [run_neq_struct, lV b hb w']; rfl
     ·exact agR
    ·exact agR
   ·cases zQ
  ·exact agR
 ·exact agR
theorem xr {t : TypeId} {d : TypeDesc} (hu : P.underlying t = some d) (w' : World) : (isAgg t).run P w' = .ok (BK d) w' := by
 unfold isAgg
 simp only [Sem.run_bind, run_underlying hu, Result.andThen]
 cases d <;> rfl
def Q2 (μ : Mu) (h : List ak) (S : Nat → Prop) (w : World) (cells : List PV) (b off : Nat) : Prop :=
 ∀ (j : Nat) (pv : PV), cells[j]? = some pv → ∃ u, w.cell? ⟨b, off + j, none⟩ = some u ∧ bZ μ h S w pv u
theorem BM (hT : dJ P T) (t : Nat) (x : Operand) (cells : List PV) (b off : Nat) (hx : a.eval x = .pointer (some ⟨b, off, none⟩)) (hc : Q2 μ h S w cells b off) (hp : yO T t cells K)
  (Q3 : ∀ pv u, pv ∈ cells → bZ μ h S w pv u → bN μ h S w pv u) :
  dV P ⟨dst, .load t x, ty, pos, after, guard⟩ a μ h S w K := by
 have key : ∀ (v : PV) (val : Value), K v → bN μ h S w v val → (∀ w', cP w w' → (loadVar t ⟨b, off, none⟩).run P w' = .ok val w') →
   dV P ⟨dst, .load t x, ty, pos, after, guard⟩ a μ h S w K := fun v val hK hv hr => .mk hK hv fun w' ha => by
  refine zO ?_
  rw [hx]
  simp [Instr.loadAt, Instr.sureAddr, hr w' ha]
 have one : ∀ d, P.underlying t = some d → BK d = false → (∃ c r, cells = c :: r ∧ K c) →
   dV P ⟨dst, .load t x, ty, pos, after, guard⟩ a μ h S w K := fun d hu hd ⟨c, r, H6, hK⟩ => by
  obtain ⟨u, Mq, Kt⟩ := hc 0 c (by rw [H6]; rfl)
  refine key c u hK (Q3 c u (by rw [H6]; simp) Kt) fun w' ha => ?_
  have h0 := ha.cell Mq
  rw [aeO] at h0
  unfold loadVar
  simp only [Sem.run_bind, xr hu, hd, Result.andThen]
  simp [run_load, h0]
 unfold yO at hp
 split at hp
 ·rename_i sz fl zz gY
  obtain ⟨fs, i, hu, hi, jl, _⟩ := hT.struct _ _ _ _ gY
  replace hp := pS _ _ _ hp
  obtain ⟨hle, hK⟩ := hp
  simp only [afO, aeQ] at hK
  have hf : ∃ f : Nat → Value, ∀ (j : Nat) (pv : PV), cells[j]? = some pv → w.cell? ⟨b, off + j, none⟩ = some (f j) ∧ bZ μ h S w pv (f j) := by
   refine ⟨fun j => (w.cell? ⟨b, off + j, none⟩).getD undef, fun j pv hj => ?_⟩
   obtain ⟨u, h1, h2⟩ := hc j pv hj
   simp only [h1, afq]
   exact ⟨trivial, h2⟩
  obtain ⟨f, hf⟩ := hf
  refine key _ (.agg ((List.range sz).map f).toArray) hK ⟨_, rfl, by simp [Nat.min_eq_left hle], fun j pv hj => ?_⟩ fun w' ha => ?_
  ·rw [afk] at hj
   split at hj
   ·rename_i I8
    obtain ⟨h1, h2⟩ := hf j pv hj
    exact ⟨f j, by simp [I8], h2⟩
   ·cases hj
  ·unfold loadVar
   have hd : BK (.struct fs) = true := rfl
   simp only [Sem.run_bind, xr hu, hd, Result.andThen]
   have hl := run_loadCells (P := P) w' ⟨b, off, none⟩ sz f (fun j hj => by
    rw [Addr.add_lit]
    have Hc : j < cells.length := aet hj hle
    exact ha.cell (hf j _ (Is Hc)).1)
   simp [sizeOf, typeInfo, hi, jl, hl]
 ·exact agR
 ·rename_i h1 h2
  have H6 : ∃ c r, cells = c :: r ∧ K c := by
   cases cells with
   | nil => exact hp.elim
   | cons c r => exact ⟨c, r, rfl, cp hp⟩
  cases gY : T.get t with
  | int k => exact one _ (hT.int _ _ gY) rfl H6
  | bool => exact one _ (hT.bool _ gY) rfl H6
  | str => exact one _ (hT.str _ gY) rfl H6
  | slice e sz Oj z => exact one _ (hT.slice _ _ _ _ _ gY).1 rfl H6
  | struct sz fl zz => exact (h1 _ _ _ gY).elim
  | map k e z => exact one _ (hT.map _ _ _ _ gY).1 rfl H6
  | ptr e => exact one _ (hT.ptr _ _ gY) rfl H6
  | other => exact (h2 gY).elim
theorem fH {id : Nat} {g sz n : Nat} {e : TypeId} {f : Nat → List PV} (hh : dk h id = .row g sz n e f) : h[id]? = some (ak.row g sz n e f) := by
 unfold dk at hh
 rw [adY] at hh
 cases ho : h[id]? with
 | none => rw [ho] at hh; cases hh
 | some o => rw [ho] at hh; simp at hh; rw [hh]
theorem bN.sO {id gen off len : Nat} {v : Value} (hv : bN μ h S w (.own id gen off len) v) : bL μ h w id gen off len v := hv
theorem bN.um {id gen i off : Nat} {v : Value} (hv : bN μ h S w (.aG id gen i off) v) : cc μ h w id gen i off v := hv
theorem bN.Fp {id : Nat} {v : Value} (hv : bN μ h S w (.lA id) v) : gJ μ h w id v := hv
theorem BN (hH : cH μ h S w) {id g sz n : Nat} {e : TypeId} {f : Nat → List PV} {v : Value} (hh : h[id]? = some (ak.row g sz n e f)) (hr : gJ μ h w id v) :
  ∃ b base es c, μ id = some (b, base) ∧ v = .map (some b) ∧ w.heap[b]? = some (.map es c) ∧ es.size = n ∧
   ∀ i, i < n → ∃ (kp vp : PV) (en : MapEntry), f i = [kp, vp] ∧ kE kp = true ∧ kE vp = true ∧ es[i]? = some en ∧ ri kp en.key ∧ ri vp en.val := by
 unfold gJ at hr
 rw [hh] at hr
 obtain ⟨_, b, base, iL, ⟨es, c, hb⟩, rfl⟩ := hr
 obtain ⟨_, ho⟩ := hH id g sz n e f hh
 rw [iL] at ho
 obtain ⟨o, h1, h2⟩ := ho
 obtain rfl := aeC (hb.symm.trans h1)
 exact ⟨b, base, es, c, iL, rfl, hb, h2.1, h2.2⟩
theorem xt : ∀ (z xs ys : List PV) (b : Bool), DM z xs ys = some b → ∀ (j : Nat) (pv : PV), ys[j]? = some pv → ∀ u, tn pv u → bZ μ h S w pv u
 | z, xs, ys, b, hk, j, pv, hj, u, hu => by
  unfold DM at hk
  split at hk
  ·simp at hj
  ·obtain ⟨_, c, hc, _⟩ := cy hk
   cases j with
   | zero => simp at hj; subst hj; have hu : u = _ := hu; subst hu; exact aV.int _ _
   | succ j => exact xt _ _ _ c hc j pv ahI u hu
  ·obtain ⟨_, c, hc, _⟩ := cy hk
   cases j with
   | zero => simp at hj; subst hj; have hu : u = _ := hu; subst hu; exact aV.bool _
   | succ j => exact xt _ _ _ c hc j pv ahI u hu
  ·obtain ⟨_, c, hc, _⟩ := cy hk
   cases j with
   | zero => simp at hj; subst hj; have hu : u = _ := hu; subst hu; exact aV.str _
   | succ j => exact xt _ _ _ c hc j pv ahI u hu
  ·cases hk
theorem AU : ∀ (z xs ys : List PV) (b : Bool), DM z xs ys = some b → xs.length = z.length
 | z, xs, ys, b, hk => by
  unfold DM at hk
  split at hk
  ·rfl
  ·obtain ⟨_, c, hc, _⟩ := cy hk
   simp [AU _ _ _ c hc]
  ·obtain ⟨_, c, hc, _⟩ := cy hk
   simp [AU _ _ _ c hc]
  ·obtain ⟨_, c, hc, _⟩ := cy hk
   simp [AU _ _ _ c hc]
  ·cases hk
theorem I9 {kt : TypeId} {fs : Array Field} {z xs : List PV} {Qg : Array Value} (hu : P.underlying kt = some (.struct fs)) (hf : jW P 0 fs.toList z = true)
  (hx : ∀ (j : Nat) (pv : PV), xs[j]? = some pv → ∃ u, Qg[j]? = some u ∧ bZ μ h S w pv u) (hl : xs.length = z.length) (em : Bool) (w' : World) : (Instr.checkKey em 10000 kt (.agg Qg)).run P w' = .ok () w' := by
 rw [show 10000 = 9999 + 1 from rfl, Instr.checkKey]
 simp only [Sem.run_bind, run_underlying hu, Result.andThen_ok]
 rw [← Array.forIn_toList]
 replace hx : ∀ (j : Nat) (pv : PV), xs[j]? = some pv → ∃ u, Qg[0 + j]? = some u ∧ bZ μ h S w pv u := fun j pv hj => by rw [adX]; exact hx j pv hj
 generalize (0 : Nat) = n at hf hx
 generalize fs.toList = L at hf
 clear hu
 induction L generalizing n z xs with
 | nil => simp
 | cons f L ih =>
  cases z with
  | nil => simp [jW] at hf
  | cons c z =>
   cases xs with
   | nil => simp at hl
   | cons p xs =>
    have Zn : jW P (n + 1) L z = true → (∀ (j : Nat) (pv : PV), xs[j]? = some pv → ∃ u, Qg[n + 1 + j]? = some u ∧ bZ μ h S w pv u) := fun _ j pv hj => by
     obtain ⟨u, q1, q2⟩ := hx (j + 1) pv ahI
     exact ⟨u, by rw [← q1]; congr 1; omega, q2⟩
    obtain ⟨u, Mq, _⟩ := hx 0 p rfl
    have key : ∃ d, P.underlying f.type = some d ∧ BK d = false ∧ f.name ≠ "_" ∧ f.offset = n ∧ jW P (n + 1) L z = true ∧ ∀ u, (Instr.checkKey em 9999 f.type u).run P w' = .ok () w' := by
     cases c with
     | int k n0 =>
      simp only [jW, so, bne_iff_ne] at hf
      obtain ⟨⟨⟨h1, h2⟩, h3⟩, h4⟩ := hf
      split at h3
      ·rename_i k' hu
       exact ahe
      ·cases h3
     | bool b0 =>
      simp only [jW, so, bne_iff_ne] at hf
      obtain ⟨⟨⟨h1, h2⟩, h3⟩, h4⟩ := hf
      split at h3
      ·rename_i hu
       exact ahe
      ·cases h3
     | str s0 =>
      simp only [jW, so, bne_iff_ne] at hf
      obtain ⟨⟨⟨h1, h2⟩, h3⟩, h4⟩ := hf
      split at h3
      ·rename_i hu
       exact ahe
      ·cases h3
     | _ => simp [jW] at hf
    obtain ⟨d, hu, hd, hn, ho, hfs, Lu⟩ := key
    have p1 := sM hu hd Qg f.offset u (by rw [ho]; exact Mq) w'
    have p2 := Lu u
    simp only [List.forIn_cons, Sem.run_bind, hn, ne_eq, not_false_eq_true, if_true, Result.andThen_ok, p1, p2, Sem.run_pure]
    exact ih (by simpa using hl) (n + 1) (Zn hfs) hfs
def uo (P : Program) (kt : TypeId) (d : TypeDesc) (s : Bool) (key ek : Value) (q : Bool) : Prop :=
 match s with
 | false => Instr.sameNow d key ek = some q
 | true => Instr.sameNow d key ek = none ∧ ∀ w', (Op.equal kt key ek).run P w' = .ok q w'
theorem Ku (hT : dJ P T) {kt : Nat} {kv : PV} {key : Value} {q0 : Bool} (VQ : bN μ h S w kv key) (h0 : lf (T.get kt) kv kv = some q0) :
  ∃ d s, P.underlying kt = some d ∧ (∀ (em : Bool) (w' : World), (Instr.checkKey em 10000 kt key).run P w' = .ok () w') ∧ ∀ (kp : PV) (ek : Value) (q : Bool), ri kp ek → lf (T.get kt) kv kp = some q → uo P kt d s key ek q := by
 cases gY : T.get kt with
 | int k =>
  rw [gY] at h0
  cases kv <;> simp only [lf] at h0 <;> try cases h0
  rename_i k1 x
  have hu := hT.int _ _ gY
  obtain ⟨hg0, _⟩ := cy h0
  simp only [so] at hg0
  obtain rfl := fp hg0.1
  obtain rfl := VQ.lC
  refine ⟨_, false, hu, fun em w' => by rw [show 10000 = 9999 + 1 from rfl, Instr.checkKey]; simp [run_underlying hu], fun kp ek q hs hq => ?_⟩
  cases kp <;> simp only [lf] at hq <;> try cases hq
  rename_i k3 y3
  obtain ⟨hg, c, hc, rfl⟩ := cy hq
  injection hc with hc; subst hc
  simp only [so] at hg
  obtain rfl := fp hg.2
  obtain rfl : ek = _ := hs
  simp [uo, Instr.sameNow]
 | str =>
  rw [gY] at h0
  cases kv <;> simp only [lf] at h0 <;> try cases h0
  rename_i x
  have hu := hT.str _ gY
  obtain rfl := VQ.nd
  refine ⟨_, false, hu, fun em w' => by rw [show 10000 = 9999 + 1 from rfl, Instr.checkKey]; simp [run_underlying hu], fun kp ek q hs hq => ?_⟩
  cases kp <;> simp only [lf] at hq <;> try cases hq
  obtain rfl : ek = _ := hs
  rename_i y3
  simp only [uo, Instr.sameNow]
  congr 1
  show ((Array.mk x) == (Array.mk y3)) = (x == y3)
  rw [aeA, beq_iff_eq, beq_iff_eq, Array.mk.injEq]
 | struct sz fl z =>
  rw [gY] at h0
  cases kv <;> simp only [lf] at h0 <;> try cases h0
  rename_i xs
  split at h0
  ·rename_i hz
   have zQ := hT.flat _ _ _ _ gY hz
   unfold Fo at zQ
   split at zQ
   ·rename_i fs hu
    simp only [so, aex] at zQ
    obtain ⟨⟨h1, h2⟩, h3⟩ := zQ
    obtain ⟨Qg, ex, _, Xs⟩ := (show jX μ h S w (.agg xs) key from VQ)
    subst ex
    have I7 : P.fieldsOf kt = fs := by simp [Program.fieldsOf, hu]
    refine ⟨_, true, hu, fun em w' => I9 hu h3 Xs (AU z xs xs q0 h0) em w', fun kp ek q hs hq => ?_⟩
    cases kp <;> simp only [lf, hz] at hq <;> try cases hq
    rename_i Ks
    obtain ⟨vys, rfl, _, hys⟩ := (show ∃ vs : Array Value, ek = .agg vs ∧ vs.size = Ks.length ∧ ∀ (j : Nat) (pv : PV), Ks[j]? = some pv → ∃ u : Value, vs[j]? = some u ∧ tn pv u from hs)
    refine ⟨rfl, fun w' => ?_⟩
    show (Op.equalIn 10000 kt (.agg Qg) (.agg vys)).run P w' = _
    rw [run_equalIn_struct w' 9999 kt Qg vys (by rw [I7]; exact hu) h1, I7]
    exact rj (μ := μ) (h := h) (S := S) (w := w) 9998 fs.toList z xs Ks 0 q h3 (fun j pv hj => by rw [adX]; exact Xs j pv hj) (fun j pv hj => by
     rw [adX]
     obtain ⟨u, hu, hr⟩ := hys j pv hj
     exact ⟨u, hu, xt z xs Ks q hq j pv hj u hr⟩) hq
   ·cases zQ
  ·cases h0
 | _ =>
  rw [gY] at h0
  cases kv <;> simp [lf] at h0
theorem BO {d : TypeDesc} {key : Value} : ∀ (l : List MapEntry) (i s : Nat) (en : MapEntry), (∀ j, j < i → ∀ x : MapEntry, l[j]? = some x → Instr.sameNow d key x.key = some false) → l[i]? = some en → Instr.sameNow d key en.key = some true →
  Instr.findNow d key l s = some (some (s + i, en.val))
 | [], i, s, en, _, h, _ => by simp at h
 | x :: l, 0, s, en, _, h, hq => by
  simp at h; subst h
  simp [Instr.findNow, hq]
 | x :: l, i + 1, s, en, hf, h, hq => by
  have h0 := hf 0 ahw x rfl
  have := BO l i (s + 1) en (fun j hj y hy => hf (j + 1) ahw y aif) ahT hq
  simp only [Instr.findNow, h0, this]
  congr 3
  omega
theorem xu {d : TypeDesc} {key : Value} : ∀ (l : List MapEntry) (s : Nat), (∀ (j : Nat) (x : MapEntry), l[j]? = some x → Instr.sameNow d key x.key = some false) → Instr.findNow d key l s = some none
 | [], s, _ => rfl
 | x :: l, s, hf => by
  have h0 := hf 0 x rfl
  simp only [Instr.findNow, h0]
  exact xu l (s + 1) (fun j y hy => hf (j + 1) y aif)
theorem BP {kt : TypeId} {key : Value} {w' : World} : ∀ (l : List MapEntry) (i s : Nat) (en : MapEntry), (∀ j, j < i → ∀ x : MapEntry, l[j]? = some x → (Op.equal kt key x.key).run P w' = .ok false w') → l[i]? = some en → (Op.equal kt key en.key).run P w' = .ok true w' →
  (Instr.findAsking kt key l s).run P w' = .ok (some (s + i, en.val)) w'
 | [], i, s, en, _, h, _ => by simp at h
 | x :: l, 0, s, en, _, h, hq => by
  simp at h; subst h
  simp [Instr.findAsking, hq]
 | x :: l, i + 1, s, en, hf, h, hq => by
  have h0 := hf 0 ahw x rfl
  have := BP l i (s + 1) en (fun j hj y hy => hf (j + 1) ahw y aif) ahT hq
  simp only [Instr.findAsking, Sem.run_bind, h0, Result.andThen_ok, aeU, if_false, this]
  congr 3
  omega
theorem xw {kt : TypeId} {key : Value} {w' : World} : ∀ (l : List MapEntry) (s : Nat), (∀ (j : Nat) (x : MapEntry), l[j]? = some x → (Op.equal kt key x.key).run P w' = .ok false w') → (Instr.findAsking kt key l s).run P w' = .ok none w'
 | [], s, _ => rfl
 | x :: l, s, hf => by
  have h0 := hf 0 x rfl
  simp only [Instr.findAsking, Sem.run_bind, h0, Result.andThen_ok, aeU, if_false]
  exact xw l (s + 1) (fun j y hy => hf (j + 1) y aif)
theorem BQ {kt : TypeId} {d : TypeDesc} {s : Bool} {key : Value} {w' : World} (hu : P.underlying kt = some d) (l : List MapEntry) (i : Nat) (en : MapEntry) (hf : ∀ j, j < i → ∀ x : MapEntry, l[j]? = some x → uo P kt d s key x.key false)
  (hi : l[i]? = some en) (hq : uo P kt d s key en.key true) : (Instr.findKey kt key l).run P w' = .ok (some (i, en.val)) w' := by
 unfold Instr.findKey
 cases s with
 | false =>
  have := BO l i 0 en hf hi hq
  rw [adX] at this
  simp [run_underlying hu, this]
 | true =>
  have h1 := BP (P := P) (w' := w') l i 0 en (fun j hj x hx => (hf j hj x hx).2 w') hi (hq.2 w')
  rw [adX] at h1
  have h2 : Instr.findNow d key l 0 = none := by
   cases l with
   | nil => simp at hi
   | cons x l =>
    have h3 : Instr.sameNow d key x.key = none := by
     cases i with
     | zero => simp at hi; subst hi; exact hq.1
     | succ i => exact (hf 0 ahw x rfl).1
    simp [Instr.findNow, h3]
  simp [run_underlying hu, h2, h1]
theorem xx {kt : TypeId} {d : TypeDesc} {s : Bool} {key : Value} {w' : World} (hu : P.underlying kt = some d) (l : List MapEntry) (hf : ∀ (j : Nat) (x : MapEntry), l[j]? = some x → uo P kt d s key x.key false) :
  (Instr.findKey kt key l).run P w' = .ok none w' := by
 unfold Instr.findKey
 cases s with
 | false => simp [run_underlying hu, xu l 0 hf]
 | true =>
  have h1 := xw (P := P) (w' := w') (kt := kt) (key := key) l 0 (fun j x hx => (hf j x hx).2 w')
  cases l with
  | nil => simp [run_underlying hu, Instr.findNow]
  | cons x l =>
   have h3 : Instr.sameNow d key x.key = none := (hf 0 x rfl).1
   simp [run_underlying hu, Instr.findNow, h3, h1]
theorem bZ.v {pv : PV} {u : Value} (hc : bZ μ h S w pv u) : bN μ h S w pv u := by
 cases pv <;> first | exact (show False from hc).elim | trivial | exact hc
theorem BR (hT : dJ P T) (hH : cH μ h S w) (t : Nat) (x : Operand) (px : PV) (hx : bN μ h S w px (a.eval x)) (hp : xy T t px h K) :
  dV P ⟨dst, .load t x, ty, pos, after, guard⟩ a μ h S w K := by
 unfold xy at hp
 split at hp
 ·rename_i cells
  obtain ⟨b, off, vf, e1, _, h2, h3⟩ := hx.xq
  exact BM hT t x cells b off e1 (fun j pv hj => ⟨vf j, h2 j pv hj, bZ.kG (h3 j pv hj)⟩) hp fun pv u _ hc => hc.v
 ·rename_i id gen i off
  split at hp
  ·rename_i g sz n e f hg
   obtain ⟨rfl, _, rfl, hp⟩ := hp
   have hh := fH hg
   have hr := hx.um
   unfold cc at hr
   rw [hh] at hr
   obtain ⟨_, _, hr⟩ := hr
   obtain ⟨NL, b, base, iL, Ja, hv⟩ := hr rfl
   obtain ⟨hl, hc⟩ := hH id g sz n e f hh
   rw [iL] at hc
   obtain ⟨cur, hb, jl, bw⟩ := cH.cells Ja hc
   refine BM hT t x _ b (base + i * sz + off) hv (fun j pv hj => ?_) hp fun pv u _ hc => hc.v
   rw [aeV] at hj
   obtain ⟨v, h1, h2⟩ := bw i (off + j) pv NL hj
   refine ⟨v, ?_, h2.c⟩
   rw [cell_of_row w b (base + i * sz + off + j) cur e (0, 0) hb, ← h1]
   congr 1
   omega
  ·exact agR
 ·exact agR
theorem l6 {e : TypeId} {i : TypeInfo} (hi : P.info? e = some i) (w' : World) : (sizeOf e).run P w' = .ok i.size w' := by
 simp [sizeOf, typeInfo, hi]
theorem zR {t e : TypeId} {i : TypeInfo} (hu : P.underlying t = some (.slice e)) (hi : P.info? e = some i) (a : Addr) (n c : Nat) (k : IntKind) (x : Int) (h0 : 0 ≤ x) (h1 : x < n) (w' : World) :
  (Instr.indexAt t (.slice (some a) n c) (.int k x)).run P w' = .ok (.pointer (some (a.add (x.toNat * i.size)))) w' := by
 have he : P.elem t = e := by simp [Program.elem, hu]
 rw [run_indexAt_slice w' t a n c k x aij, if_pos ⟨h0, h1⟩, he, l6 hi]
 rfl
theorem Hd (hT : dJ P T) (hH : cH μ h S w) (ht : ∀ t, bN μ h S w (env t) (a.tmps.getD t undef)) (t : Nat) (x i : Operand) (hp : cz T (.indexAddr t x i) env h K) :
  dV P ⟨dst, .indexAddr t x i, ty, pos, after, guard⟩ a μ h S w K := by
 have hx := bY ht x
 have hi := bY ht i
 unfold cz at hp
 simp only at hp
 split at hp
 ·rename_i e sz bt z cf n f k ix gY hex Zo
  rw [hex] at hx
  rw [Zo] at hi
  replace hp := bF hp
  obtain ⟨Dd, ⟨h0, h1⟩, _, rfl, hK⟩ := hp
  obtain rfl := adW Dd
  have ei := hi.lC
  obtain ⟨hu, _, inf, zv, mG, qk, _⟩ := hT.slice _ _ _ _ _ gY
  rcases hx.u9 with ⟨_, _, _, rfl⟩ | ⟨b, off, c, vf, ex, hS, hl, hc, bw, nH⟩
  ·omega
  ·have hix : ix.toNat < n := by omega
   refine .mk hK (aV.gf (f ix.toNat) b (off + ix.toNat * sz) (vf ix.toNat) hS (fun j pv hj => bw _ j pv hix hj) (fun j pv hj => nH _ j pv hix hj)) fun w' _ => zO ?_
   rw [ex, ei, zR hu mG _ _ _ _ _ h0 h1, qk, Addr.add_lit]
 ·rename_i e sz bt z id gen off len k ix gY hex Zo
  rw [hex] at hx
  rw [Zo] at hi
  have ei := hi.lC
  obtain ⟨hu, _, inf, zv, mG, qk, _⟩ := hT.slice _ _ _ _ _ gY
  split at hp
  ·rename_i g cf n e' f DN
   obtain ⟨rfl, hp⟩ := hp
   replace hp := bF hp
   obtain ⟨Dd, ⟨h0, h1⟩, _, rfl, hK⟩ := hp
   obtain rfl := adW Dd
   have hh := fH DN
   have hr := hx.sO
   unfold bL at hr
   rw [hh] at hr
   obtain ⟨_, _, hr⟩ := hr
   obtain ⟨hle, hr⟩ := hr rfl
   cases iL : μ id with
   | none =>
    rw [iL] at hr
    obtain ⟨_, hz⟩ := hH id _ _ _ _ _ hh
    rw [iL] at hz
    have hz : n = 0 := hz
    omega
   | some p =>
    obtain ⟨b, base⟩ := p
    rw [iL] at hr
    obtain ⟨ad, cap, ex, VR, xz, Ja⟩ := hr
    have xz := xz ahw
    subst xz
    refine .mk hK (v := .aG id g (off + ix.toNat) 0) (val := .pointer (some ⟨b, base + (off + ix.toNat) * sz + 0, none⟩)) ?_ fun w' _ => zO ?_
    ·show cc μ h w id g (off + ix.toNat) 0 _
     unfold cc
     rw [hh]
     exact ⟨⟨_, rfl⟩, adV _, fun _ => ⟨by omega, b, base, iL, Ja.least, rfl⟩⟩
    ·rw [ex, ei, zR hu mG _ _ _ _ _ h0 h1, qk, Addr.add_lit]
     have : base + off * sz + ix.toNat * sz = base + (off + ix.toNat) * sz + 0 := by rw [aeu]; omega
     rw [this]
  ·exact agR
 ·exact agR
theorem BS (hT : dJ P T) (ht : ∀ t, bN μ h S w (env t) (a.tmps.getD t undef)) (t : Nat) (x i : Operand) (hp : cz T (.index t x i) env h K) :
  dV P ⟨dst, .index t x i, ty, pos, after, guard⟩ a μ h S w K := by
 have hx := bY ht x
 have hi := bY ht i
 unfold cz at hp
 simp only at hp
 split at hp
 ·rename_i s k ix gY hex Zo
  rw [hex] at hx
  rw [Zo] at hi
  obtain ⟨⟨h0, h1⟩, _, rfl, hK⟩ := hp
  have ei := hi.lC
  have ex := hx.nd
  have hu := hT.str _ gY
  refine .mk hK (aV.int _ _) fun w' _ => zO ?_
  rw [ex, ei]
  have hb : (ByteArray.mk ⟨s⟩)[ix.toNat]? = some (s.getD ix.toNat 0) := by
   have bO : ix.toNat < s.length := by omega
   rw [adY, Is bO]
   rw [getElem?_pos (ByteArray.mk ⟨s⟩) ix.toNat bO]
   rfl
  simp only [Instr.index, asIntOf, Sem.run_bind, Sem.run_pure, Result.andThen, run_underlying hu, if_pos h0, hb]
 ·exact agR
theorem Lv (hT : dJ P T) (hH : cH μ h S w) (ht : ∀ t, bN μ h S w (env t) (a.tmps.getD t undef)) (args : Array Operand) (ts : Array TypeId) (hp : cz T (.call ⟨.builtin .len, args, ts⟩) env h K) :
  dV P ⟨dst, .call ⟨.builtin .len, args, ts⟩, ty, pos, after, guard⟩ a μ h S w K := by
 obtain ⟨args⟩ := args
 obtain ⟨ts⟩ := ts
 unfold cz at hp
 simp only at hp
 split at hp
 ·rename_i x t
  have hx := bY ht x
  have fin : ∀ (n : Int) (val : Value), a.eval x = val → K (.int .i64 n) → (∀ w', (Builtin.len_ #[t] ty #[val]).run P w' = .ok (goInt n) w') →
    dV P ⟨dst, .call ⟨.builtin .len, #[x], #[t]⟩, ty, pos, after, guard⟩ a μ h S w K := fun n val yP hK hr => .mk hK (aV.int _ _) fun w' _ => by
   simp only [execOp, resolve, invoke, builtin, Sem.run_bind, Sem.run_pure, Result.andThen_ok, afC, aec, aep, yP, hr]
   rfl
  split at hp
  ·rename_i e sz bt z cf n f gY hex
   rw [hex] at hx
   obtain ⟨hu, _⟩ := hT.slice _ _ _ _ _ gY
   have he : P.elem t = e := by simp [Program.elem, hu]
   rcases hx.u9 with ⟨aa, c, ex, rfl⟩ | ⟨b, off, c, vf, ex, _⟩
   ·exact fin _ _ ex hp fun w' => run_len_slice w' t ty _ _ _ aij
   ·exact fin _ _ ex hp fun w' => run_len_slice w' t ty _ _ _ aij
  ·rename_i e sz bt z gY hex
   rw [hex] at hx
   obtain ⟨hu, _⟩ := hT.slice _ _ _ _ _ gY
   have he : P.elem t = e := by simp [Program.elem, hu]
   exact fin _ _ hx.rJ hp fun w' => run_len_slice w' t ty _ _ _ aij
  ·rename_i e sz bt z id gen off n gY hex
   rw [hex] at hx
   obtain ⟨hu, _⟩ := hT.slice _ _ _ _ _ gY
   have he : P.elem t = e := by simp [Program.elem, hu]
   split at hp
   ·rename_i g cf n' e' f DN
    obtain ⟨rfl, hK⟩ := hp
    have hh := fH DN
    have hr := hx.sO
    unfold bL at hr
    rw [hh] at hr
    obtain ⟨_, _, hr⟩ := hr
    obtain ⟨hle, hr⟩ := hr rfl
    have yP : ∃ aa c, a.eval x = .slice aa n c := by
     cases iL : μ id with
     | none =>
      rw [iL] at hr
      obtain ⟨_, hz⟩ := hH id _ _ _ _ _ hh
      rw [iL] at hz
      have hz : n' = 0 := hz
      have : n = 0 := by omega
      subst this
      exact ⟨_, _, hr⟩
     | some p =>
      rw [iL] at hr
      obtain ⟨ad, cap, ex, _⟩ := hr
      exact ⟨_, _, ex⟩
    obtain ⟨aa, c, ex⟩ := yP
    exact fin _ _ ex hK fun w' => run_len_slice w' t ty _ _ _ aij
   ·exact agR
  ·rename_i s gY hex
   rw [hex] at hx
   have hu := hT.str _ gY
   refine fin _ _ hx.nd hp fun w' => ?_
   simp [Builtin.len_, run_underlying hu]
   rfl
  ·rename_i k0 e0 z0 id gY hex
   rw [hex] at hx
   obtain ⟨hu, _⟩ := hT.map _ _ _ _ gY
   split at hp
   ·rename_i g sz n e f DN
    obtain ⟨b, base, es, c, iL, ex, hb, hn, _⟩ := BN hH (fH DN) hx.Fp
    refine .mk hp (aV.int _ _) fun w' ha => ?_
    have oI : w'.heap[b]? = some (.map es c) := (ha.blocks b (adZ.1 hb).1).trans hb
    simp only [execOp, resolve, invoke, builtin, Sem.run_bind, Sem.run_pure, Result.andThen_ok, afC, aec, aep, ex]
    rw [show (Builtin.len_ #[t] ty #[.map (some b)]).run P w' = .ok (goInt es.size) w' by simp [Builtin.len_, run_underlying hu, run_getObj_map w' b es c oI]]
    rw [hn]
    rfl
   ·exact agR
  ·exact agR
 ·exact agR
theorem zT (s : List UInt8) (l m : Nat) : (ByteArray.mk ⟨s⟩).extract l m = ByteArray.mk ⟨(s.take m).drop l⟩ := by
 apply ByteArray.ext
 rw [ByteArray.data_extract]
 apply Array.ext'
 rw [List.drop_take]
 simp [Array.toList_extract, List.extract]
theorem Lw (hT : dJ P T) (hH : cH μ h S w) (id g off len sz n : Nat) (e : TypeId) (f : Nat → List PV) (hh : h[id]? = some (ak.row g sz n e f)) (v : Value) (hv : bN μ h S w (.own id g off len) v) (l m : Nat) (hl : l ≤ m) (hm : m ≤ len) :
  ∃ aa c, v = .slice aa len c ∧ len ≤ c ∧ ∀ (mx : Nat), m ≤ mx → mx ≤ c → bN μ h S w (.own id g (off + l) (m - l)) (.slice (if mx = l then aa else aa.map (·.add (l * sz))) (m - l) (mx - l)) := by
 have hr := hv.sO
 unfold bL at hr
 rw [hh] at hr
 obtain ⟨_, _, hr⟩ := hr
 obtain ⟨hle, hr⟩ := hr rfl
 cases iL : μ id with
 | none =>
  rw [iL] at hr
  obtain ⟨_, hz⟩ := hH id _ _ _ _ _ hh
  rw [iL] at hz
  have hz : n = 0 := hz
  have h0 : len = 0 := by omega
  subst h0
  have hr : v = .slice none 0 0 := hr
  refine ⟨none, 0, hr, adV _, fun mx h1 h2 => ?_⟩
  have Zp : m = 0 := by omega
  have tN : l = 0 := by omega
  have hx0 : mx = 0 := by omega
  subst Zp
  subst tN
  subst hx0
  show bL μ h w id g (off + 0) (0 - 0) _
  unfold bL
  rw [hh]
  refine ⟨⟨_, _, _, rfl⟩, adV _, fun _ => ⟨by omega, ?_⟩⟩
  rw [iL]
  rfl
 | some p =>
  obtain ⟨b, base⟩ := p
  rw [iL] at hr
  obtain ⟨ad, cap, ex, VR, xz, iY⟩ := hr
  refine ⟨some ad, cap, ex, VR, fun mx h1 h2 => ?_⟩
  show bL μ h w id g (off + l) (m - l) _
  unfold bL
  rw [hh]
  refine ⟨⟨_, _, _, rfl⟩, adV _, fun _ => ⟨by omega, ?_⟩⟩
  rw [iL]
  by_cases hml : mx = l
  ·refine ⟨ad, 0, by rw [if_pos hml]; subst hml; simp, by omega, fun h => absurd h ahw, ?_⟩
   obtain ⟨cur, e', q1, q2⟩ := iY
   refine ⟨cur, e', q1, aer ?_ q2⟩
   have : (off + l + 0) * sz ≤ (off + cap) * sz := aek _ ahw
   omega
  ·have xz := xz ahw
   subst xz
   refine ⟨⟨b, base + (off + l) * sz, none⟩, mx - l, ?_, by omega, fun _ => rfl, ?_⟩
   ·rw [if_neg hml, Option.map_some, Addr.add_lit, aeu, Nat.add_assoc]
   ·obtain ⟨cur, e', q1, q2⟩ := iY
    refine ⟨cur, e', q1, aer ?_ q2⟩
    have : (off + l + (mx - l)) * sz ≤ (off + cap) * sz := aek _ ahw
    omega
theorem Lx (sz n : Nat) (f : Nat → List PV) (v : Value) (hv : bN μ h S w (.gz sz n f) v) (l m : Nat) (hl : l ≤ m) (hm : m ≤ n) :
  ∃ aa c, v = .slice aa n c ∧ ((n ≤ c ∨ n = 0) ∧ ∀ (mx : Nat), m ≤ mx → (mx ≤ c ∨ m = 0) → bN μ h S w (.gz sz (m - l) (fun i => f (l + i))) (.slice (if mx = l then aa else aa.map (·.add (l * sz))) (m - l) (mx - l))) := by
 rcases hv.u9 with ⟨aa, c, ex, rfl⟩ | ⟨b, off, c, vf, ex, hS, hlen, hc, bw, nH⟩
 ·have Zp : m = 0 := by omega
  subst Zp
  have tN : l = 0 := by omega
  subst tN
  exact ⟨aa, c, ex, .inr rfl, fun mx _ _ => aV.qj _ _ _ _⟩
 ·refine ⟨_, c, ex, .inl hc, fun mx h1 h2 => ?_⟩
  by_cases hml : m = l
  ·subst hml
   rw [aeR]
   exact aV.qj _ _ _ _
  ·rw [if_neg ahw, Option.map_some, Addr.add_lit]
   refine aV.gz sz (m - l) _ b (off + l * sz) (mx - l) (fun i j => vf (l + i) j) hS (fun i hi => hlen _ ahw) ahw (fun i j pv hi hj => ?_) (fun i j pv hi hj => nH _ j pv ahw hj)
   have := bw (l + i) j pv ahw hj
   rw [aeu] at this
   rw [← this]
   congr 2
   omega
theorem dr {o : Oper} {s : Sem Value} {val : Value} {w' On : World} (he : execOp a.eval o = (do pure (Next.value (← s)) : Sem Next)) (hs : s.run P w' = .ok val On) : (execOp a.eval o).run P w' = .ok (.value val) On := by
 rw [he]; exact zO hs
theorem wv (hx : ∀ x, bN μ h S w (ev env x) (a.eval x)) {lo : Option Operand} : (lo.map (ev env) = none → lo.map a.eval = none) ∧ ∀ k n, lo.map (ev env) = some (.int k n) → lo.map a.eval = some (.int k n) := by
 cases lo with
 | none => exact ⟨fun _ => rfl, fun k n h => (by cases h)⟩
 | some x =>
  refine ⟨fun h => (by cases h), fun k n hh => ?_⟩
  have hh : ev env x = .int k n := by injection hh
  have := hx x
  rw [hh] at this
  show some (a.eval x) = _
  rw [this.lC]
theorem Jb {t e : TypeId} {i : TypeInfo} (hu : P.underlying t = some (.slice e)) (hi : P.info? e = some i) (aa : Option Addr) (n c : Nat) (hc : n ≤ c) (w' : World) :
  ((Instr.sliceAt t (.slice aa n c) none none none).run P w' = .ok (sliced aa 0 n c i.size) w') ∧
  (∀ (k : IntKind) (l : Int), 0 ≤ l → l ≤ n → (Instr.sliceAt t (.slice aa n c) (some (.int k l)) none none).run P w' = .ok (sliced aa l.toNat n c i.size) w') ∧
  (∀ (k : IntKind) (m : Int), 0 ≤ m → m ≤ n → (Instr.sliceAt t (.slice aa n c) none (some (.int k m)) none).run P w' = .ok (sliced aa 0 m.toNat c i.size) w') ∧
  (∀ (k : IntKind) (l : Int) (k' : IntKind) (m : Int), 0 ≤ l → l ≤ m → m ≤ n → (Instr.sliceAt t (.slice aa n c) (some (.int k l)) (some (.int k' m)) none).run P w' = .ok (sliced aa l.toNat m.toNat c i.size) w') ∧
  (∀ (k : IntKind) (m : Int) (k' : IntKind) (q : Int), 0 ≤ m → m ≤ q → q ≤ n → (Instr.sliceAt t (.slice aa n c) none (some (.int k m)) (some (.int k' q))).run P w' = .ok (sliced aa 0 m.toNat q.toNat i.size) w') ∧
  (∀ (k : IntKind) (l : Int) (k' : IntKind) (m : Int) (k'' : IntKind) (q : Int), 0 ≤ l → l ≤ m → m ≤ q → q ≤ n → (Instr.sliceAt t (.slice aa n c) (some (.int k l)) (some (.int k' m)) (some (.int k'' q))).run P w' = .ok (sliced aa l.toNat m.toNat q.toNat i.size) w') := by
 have he : P.elem t = e := by simp [Program.elem, hu]
 have VS : P.underlying t = some (.slice (P.elem t)) := by rw [he]; exact hu
 have P9 : (n : Int) ≤ c := by omega
 refine ⟨?_, fun k l h0 h1 => ?_, fun k m h0 h1 => ?_, fun k l k' m h0 h1 h2 => ?_, fun k m k' q h0 h1 h2 => ?_, fun k l k' m k'' q h0 h1 h2 h3 => ?_⟩ <;> rw [run_sliceAt_slice w' _ _ _ _ _ VS]
 ·rw [run_slice_all w' t aa n c VS, he, l6 hi]; rfl
 ·rw [run_slice_l w' t aa n c VS k l h0 h1, he, l6 hi]; rfl
 ·rw [run_slice_h w' t aa n c VS k m h0 ahw, he, l6 hi]; rfl
 ·rw [run_slice_lh w' t aa n c VS k k' l m h0 h1 ahw, he, l6 hi]; rfl
 ·rw [run_slice_hm w' t aa n c VS k k' m q h0 h1 ahw, he, l6 hi]; rfl
 ·rw [run_slice_lhm w' t aa n c VS k k' k'' l m q h0 h1 h2 ahw, he, l6 hi]; rfl
theorem dV.choose {o : Oper} (hs : dV P o a μ h S w (He K)) : dV P o a μ h S w K := by
 obtain ⟨v, val, hK, hv, hr⟩ := hs
 cases v with
 | gz sz n f =>
  obtain ⟨n', f', rfl, hf, hK⟩ := hK
  refine ⟨_, val, hK, ?_, hr⟩
  rcases hv.u9 with ⟨a, c, rfl, rfl⟩ | ⟨b, off, c, vf, rfl, h1, h2, h3, h4, h5⟩
  ·exact aV.qj _ _ _ _
  ·exact aV.gz sz n' f' b off c vf h1 (fun i hi => by rw [hf i hi]; exact h2 i hi) h3 (fun i j pv hi hj => h4 i j pv hi aid) (fun i j pv hi hj => h5 i j pv hi aid)
 | str s =>
  obtain ⟨_, rfl, hK⟩ := hK
  exact ⟨_, val, hK, hv, hr⟩
 | own id g off n =>
  obtain ⟨_, _, rfl, rfl, hK⟩ := hK
  exact ⟨_, val, hK, hv, hr⟩
 | _ => exact ⟨_, val, hK, hv, hr⟩
theorem Hf (hT : dJ P T) (hH : cH μ h S w) (ht : ∀ t, bN μ h S w (env t) (a.tmps.getD t undef)) (t : Nat) (x : Operand) (lo hi mx : Option Operand) (hp : cz T (.slice t x lo hi mx) env h K) :
  dV P ⟨dst, .slice t x lo hi mx, ty, pos, after, guard⟩ a μ h S w K := by
 have hx := bY ht x
 have Qh := wv (fun x => bY ht x) (lo := lo)
 have Qi := wv (fun x => bY ht x) (lo := hi)
 have hmx := wv (fun x => bY ht x) (lo := mx)
 unfold cz at hp
 simp only at hp
 have key : ∀ (K : PV → Prop) (e : TypeId) (i : TypeInfo) (sz n : Nat) (aa : Option Addr) (c : Nat) (R : Nat → Nat → PV), P.underlying t = some (.slice e) → P.info? e = some i → i.size = sz → a.eval x = .slice aa n c → n ≤ c →
   (∀ l m mx, l ≤ m → m ≤ n → m ≤ mx → mx ≤ c → bN μ h S w (R l m) (.slice (if mx = l then aa else aa.map (·.add (l * sz))) (m - l) (mx - l))) → Q4 n (hi.map (ev env)) (mx.map (ev env)) →
   (match lo.map (ev env), hi.map (ev env) with
    | none, none => K (R 0 n)
    | some (.int _ l), none => (0 ≤ l ∧ l ≤ n) ∧ K (R l.toNat n)
    | none, some (.int _ m) => (0 ≤ m ∧ m ≤ n) ∧ K (R 0 m.toNat)
    | some (.int _ l), some (.int _ m) => (0 ≤ l ∧ l ≤ m ∧ m ≤ n) ∧ K (R l.toNat m.toNat)
    | _, _ => False) → dV P ⟨dst, .slice t x lo hi mx, ty, pos, after, guard⟩ a μ h S w K := by
  intro K e i sz n aa c R hu mG qk ex hc hR hm hp
  subst qk
  have lV := fun w' => Jb (P := P) hu mG aa n c hc w'
  have fin : ∀ (l m q : Nat), l ≤ m → m ≤ n → m ≤ q → q ≤ c → K (R l m) → (∀ w', (Instr.sliceAt t (.slice aa n c) (lo.map a.eval) (hi.map a.eval) (mx.map a.eval)).run P w' = .ok (sliced aa l m q i.size) w') →
    dV P ⟨dst, .slice t x lo hi mx, ty, pos, after, guard⟩ a μ h S w K := fun l m q h1 h2 h3 h4 hK hr => .mk hK (hR l m q h1 h2 h3 h4) fun w' _ => dr rfl (by rw [ex]; exact hr w')
  unfold Q4 at hm
  split at hm
  ·rename_i e3
   have e3 := hmx.1 e3
   split at hp
   ·rename_i e1 e2
    exact fin 0 n c ahw ahw hc ahw hp fun w' => by rw [Qh.1 e1, Qi.1 e2, e3]; exact (lV w').1
   ·rename_i k l e1 e2
    obtain ⟨⟨h0, h1⟩, hp⟩ := hp
    exact fin l.toNat n c ahw ahw hc ahw hp fun w' => by rw [Qh.2 _ _ e1, Qi.1 e2, e3]; exact (lV w').2.1 _ _ h0 h1
   ·rename_i k m e1 e2
    obtain ⟨⟨h0, h1⟩, hp⟩ := hp
    exact fin 0 m.toNat c ahw ahw ahw ahw hp fun w' => by rw [Qh.1 e1, Qi.2 _ _ e2, e3]; exact (lV w').2.2.1 _ _ h0 h1
   ·rename_i k l k' m e1 e2
    obtain ⟨⟨h0, h1, h2⟩, hp⟩ := hp
    exact fin l.toNat m.toNat c ahw ahw ahw ahw hp fun w' => by rw [Qh.2 _ _ e1, Qi.2 _ _ e2, e3]; exact (lV w').2.2.2.1 _ _ _ _ h0 h1 h2
   ·exact agR
  ·rename_i k'' q e3
   have e3 := hmx.2 _ _ e3
   split at hm
   ·rename_i k3 m Zq
    obtain ⟨hm1, Jc⟩ := hm
    rw [Zq] at hp
    split at hp
    ·rename_i e1 e2
     cases e2
    ·rename_i e1 e2
     cases e2
    ·rename_i k m' e1 e2
     injection e2 with e2
     injection e2 with ea eb
     subst ea
     subst eb
     obtain ⟨⟨h0, h1⟩, hp⟩ := hp
     exact fin 0 m.toNat q.toNat ahw ahw ahw ahw hp fun w' => by rw [Qh.1 e1, Qi.2 _ _ Zq, e3]; exact (lV w').2.2.2.2.1 _ _ _ _ h0 hm1 Jc
    ·rename_i k l k' m' e1 e2
     injection e2 with e2
     injection e2 with ea eb
     subst ea
     subst eb
     obtain ⟨⟨h0, h1, h2⟩, hp⟩ := hp
     exact fin l.toNat m.toNat q.toNat ahw ahw ahw ahw hp fun w' => by rw [Qh.2 _ _ e1, Qi.2 _ _ Zq, e3]; exact (lV w').2.2.2.2.2 _ _ _ _ _ _ h0 h1 hm1 Jc
    ·exact agR
   ·exact hm.elim
  ·exact hm.elim
 split at hp
 ·rename_i e sz bt z cf n f gY hex
  rw [hex] at hx
  replace hp := bF hp
  obtain ⟨Dd, hm, hp⟩ := hp
  obtain rfl := adW Dd
  obtain ⟨hu, _, inf, zv, mG, qk, _⟩ := hT.slice _ _ _ _ _ gY
  have e0 : (fun i => f (0 + i)) = f := by funext i; rw [adX]
  have DA := fun l m (h1 : l ≤ m) (h2 : m ≤ n) => Lx sz n f _ hx l m h1 h2
  obtain ⟨aa, c, ex, hc, _⟩ := DA 0 0 (adV _) (aeo _)
  have hc : n ≤ c := by rcases hc with hc | hc <;> omega
  refine dV.choose ?_
  refine key (He K) e inf sz n aa c (fun l m => .gz sz (m - l) (fun i => f (l + i))) hu mG qk ex hc (fun l m q h1 h2 h3 h4 => ?_) hm ?_
  ·obtain ⟨aa', c', Zr, _, hR⟩ := DA l m h1 h2
   rw [ex] at Zr
   injection Zr with e1 e2 e3
   subst e1
   subst e3
   exact hR q h3 (.inl h4)
  ·simp only [e0, Nat.sub_zero]
   exact hp
 ·rename_i e sz bt z id gen off len gY hex
  rw [hex] at hx
  obtain ⟨hu, _, inf, zv, mG, qk, _⟩ := hT.slice _ _ _ _ _ gY
  split at hp
  ·rename_i g cf n' e' f DN
   obtain ⟨rfl, hp⟩ := hp
   replace hp := bF hp
   obtain ⟨Dd, hm, hp⟩ := hp
   obtain rfl := adW Dd
   have hh := fH DN
   have DA := fun l m (h1 : l ≤ m) (h2 : m ≤ len) => Lw hT hH id g off len sz n' e' f hh _ hx l m h1 h2
   obtain ⟨aa, c, ex, hc, _⟩ := DA 0 0 (adV _) (aeo _)
   refine dV.choose ?_
   refine key (He K) e inf sz len aa c (fun l m => .own id g (off + l) (m - l)) hu mG qk ex hc (fun l m q h1 h2 h3 h4 => ?_) hm ?_
   ·obtain ⟨aa', c', Zr, _, hR⟩ := DA l m h1 h2
    rw [ex] at Zr
    injection Zr with e1 e2 e3
    subst e1
    subst e3
    exact hR q h3 h4
   ·exact hp
  ·exact agR
 ·rename_i s gY hex
  rw [hex] at hx
  replace hp := bF hp
  obtain ⟨hmn, hp⟩ := hp
  obtain rfl : mx = none := by simpa using hmn
  refine dV.choose ?_
  generalize He K = K at *
  have ex := hx.nd
  have hu := hT.str _ gY
  have jl : (ByteArray.mk ⟨s⟩).size = s.length := rfl
  have fin : ∀ (l m : Nat) (s' : List UInt8), s' = (s.take m).drop l → K (.str s') → (∀ w', (Instr.sliceAt t (.string ⟨⟨s⟩⟩) (lo.map a.eval) (hi.map a.eval) none).run P w' = .ok (.string ((ByteArray.mk ⟨s⟩).extract l m)) w') →
    dV P ⟨dst, .slice t x lo hi none, ty, pos, after, guard⟩ a μ h S w K := fun l m s' hs hK hr => .mk hK (aV.str _) fun w' _ => dr rfl (by rw [ex, hs, ← zT]; exact hr w')
  simp only [BT] at hp
  split at hp
  ·rename_i e1 e2
   exact fin 0 s.length s ahy hp fun w' => by rw [Qh.1 e1, Qi.1 e2, run_sliceAt_string w' _ _ _ _ _ hu, run_slice_string_all w' t ⟨⟨s⟩⟩ hu]; rfl
  ·rename_i k l e1 e2
   obtain ⟨⟨h0, h1⟩, hp⟩ := hp
   exact fin l.toNat s.length _ ahy hp fun w' => by rw [Qh.2 _ _ e1, Qi.1 e2, run_sliceAt_string w' _ _ _ _ _ hu, run_slice_string_l w' t ⟨⟨s⟩⟩ hu k l h0 h1]; rfl
  ·rename_i k m e1 e2
   obtain ⟨⟨h0, h1⟩, hp⟩ := hp
   exact fin 0 m.toNat _ ahy hp fun w' => by rw [Qh.1 e1, Qi.2 _ _ e2, run_sliceAt_string w' _ _ _ _ _ hu, run_slice_string_h w' t ⟨⟨s⟩⟩ hu k m h0 h1]
  ·rename_i k l k' m e1 e2
   obtain ⟨⟨h0, h1, h2⟩, hp⟩ := hp
   exact fin l.toNat m.toNat _ rfl hp fun w' => by rw [Qh.2 _ _ e1, Qi.2 _ _ e2, run_sliceAt_string w' _ _ _ _ _ hu, run_slice_string w' t ⟨⟨s⟩⟩ k k' l m hu h0 h1 h2]
  ·exact agR
 ·exact agR
theorem qA : ∀ (cs l : List PV) (off j : Nat), off + cs.length ≤ l.length → (gA l off cs)[j]? = if off ≤ j ∧ j < off + cs.length then cs[j - off]? else l[j]?
 | [], l, off, j, _ => by
  simp only [gA, adU, aeO]
  rw [if_neg ahw]
 | c :: r, l, off, j, hl => by
  simp only [gA, As] at hl ⊢
  rw [qA r (l.set off c) (off + 1) j ahC]
  by_cases h1 : j = off
  ·subst h1
   rw [if_neg ahw, if_pos ahw, aeR, afe ahw]
   rfl
  ·rw [aeF ahw]
   by_cases h2 : off + 1 ≤ j ∧ j < off + 1 + r.length
   ·rw [if_pos h2, if_pos ahw]
    have : j - off = (j - (off + 1)) + 1 := by omega
    rw [this, List.getElem?_cons_succ]
   ·rw [if_neg h2, if_neg ahw]
theorem nf : ∀ (cs l : List PV) (off : Nat), (gA l off cs).length = l.length
 | [], _, _ => rfl
 | c :: r, l, off => by simp only [gA]; rw [nf r]; simp
theorem aV.no {pv : PV} {v : Value} (h : aV S w pv v) : ef pv = false := by cases h <;> rfl
theorem Kv {c : PV} (h : my c = true) : ef c = false := by cases c <;> first | rfl | cases h
theorem Jd {v : PV} (h : storable v = true) {j : Nat} {pv : PV} (hj : (cellsOf v)[j]? = some pv) : ef pv = false := by
 have hm := aef hj
 cases v with
 | agg cs => exact Kv (aeb.1 h pv hm)
 | _ => exact Kv (by rw [aeW.1 hm]; exact h)
theorem ng {pv : PV} {v : Value} (hs : storable pv = true) (hv : bN μ h S w pv v) :
  v.cells.toList.length = (cellsOf pv).length ∧ ∀ (j : Nat) (p : PV), (cellsOf pv)[j]? = some p → ∃ u, v.cells.toList[j]? = some u ∧ bZ μ h S w p u := by
 have one : ∀ (hc : bZ μ h S w pv v), cellsOf pv = [pv] → v.cells.toList.length = (cellsOf pv).length ∧ ∀ (j : Nat) (p : PV), (cellsOf pv)[j]? = some p → ∃ u, v.cells.toList[j]? = some u ∧ bZ μ h S w p u := by
  intro hc he
  have h1 := hc.one
  have h2 : v.cells = #[v] := by cases v <;> first | rfl | cases h1
  rw [h2, he]
  refine ⟨rfl, fun j p hj => ?_⟩
  cases j with
  | zero =>
   simp at hj
   subst hj
   exact ⟨v, rfl, hc⟩
  | succ j => simp at hj
 cases pv with
 | agg cs =>
  obtain ⟨vs, rfl, h2, h3⟩ := hv
  refine ⟨by simpa [Value.cells, cellsOf] using h2, fun j p hj => ?_⟩
  obtain ⟨u, hu, hr⟩ := h3 j p hj
  exact ⟨u, by simpa [Value.cells] using hu, hr⟩
 | fu vs => cases hs
 | bf sz n e f F => cases hs
 | iZ => cases hs
 | lA id => exact one hv rfl
 | oP f bX => exact one hv rfl
 | int k n => exact one hv rfl
 | bool b => exact one hv rfl
 | str s => exact one hv rfl
 | aq => exact one hv rfl
 | gz sz n f => exact one hv rfl
 | gf cs => exact one hv rfl
 | own id gen off len => exact one hv rfl
 | aG id gen i off => exact one hv rfl
 | fn f => exact one hv rfl
theorem DO : ∀ (l : List Value) (s off : Nat) (cs : Array Value), off + s + l.length ≤ cs.size →
  ((l.zipIdx s).foldl (fun (cs : Array Value) (p : Value × Nat) => cs.setIfInBounds (off + p.2) p.1) cs).size = cs.size ∧
  ∀ q, ((l.zipIdx s).foldl (fun (cs : Array Value) (p : Value × Nat) => cs.setIfInBounds (off + p.2) p.1) cs)[q]? = if off + s ≤ q ∧ q < off + s + l.length then l[q - (off + s)]? else cs[q]?
 | [], s, off, cs, _ => by
  refine ⟨rfl, fun q => ?_⟩
  simp only [List.zipIdx_nil, List.foldl_nil, adU, aeO]
  rw [if_neg ahw]
 | v :: r, s, off, cs, hl => by
  simp only [As] at hl
  obtain ⟨h1, h2⟩ := DO r (s + 1) off (cs.setIfInBounds (off + s) v) ahC
  simp only [List.zipIdx_cons, List.foldl_cons, As]
  refine ⟨by rw [h1]; simp, fun q => ?_⟩
  rw [h2 q]
  by_cases hq : q = off + s
  ·subst hq
   rw [if_neg ahw, if_pos ahw, aeR]
   simp [Array.getElem?_setIfInBounds, show off + s < cs.size from by omega]
  ·by_cases hr : off + (s + 1) ≤ q ∧ q < off + (s + 1) + r.length
   ·rw [if_pos hr, if_pos ahw]
    have : q - (off + s) = (q - (off + (s + 1))) + 1 := by omega
    rw [this, List.getElem?_cons_succ]
   ·rw [if_neg hr, if_neg ahw, afG ahw]
theorem tq (v : Value) (off : Nat) (cs : Array Value) (hl : off + v.cells.size ≤ cs.size) :
  (v.cells.zipIdx.foldl (fun (cs : Array Value) (p : Value × Nat) => cs.setIfInBounds (off + p.2) p.1) cs).size = cs.size ∧
  ∀ q, (v.cells.zipIdx.foldl (fun (cs : Array Value) (p : Value × Nat) => cs.setIfInBounds (off + p.2) p.1) cs)[q]? = if off ≤ q ∧ q < off + v.cells.size then v.cells[q - off]? else cs[q]? := by
 have h := DO v.cells.toList 0 off cs (by simpa using hl)
 rw [← Array.foldl_toList]
 simp only [Array.toList_zipIdx, aeO, aeL, aes] at h ⊢
 exact h
theorem Je {l : List PV} (hb : isByte l = true) : ∃ v, l = [.int .u8 v] := by
 unfold isByte at hb
 split at hb
 ·exact ⟨_, rfl⟩
 ·cases hb
theorem BU {g : Nat → List PV} {s : List UInt8} {n : Nat} (hl : s.length = n) (hf : ∀ i, i < n → g i = [.int .u8 (s.getD i 0).toNat]) : (∀ i, i < n → isByte (g i) = true) ∧ (List.range n).map (fun i => byteOf (g i)) = s := by
 refine ⟨fun i hi => by rw [hf i hi]; rfl, ?_⟩
 apply afP (by simp [hl])
 intro i h1 h2
 simp only [afs, List.length_range] at h1
 rw [List.getElem_map, List.getElem_range, hf i h1]
 simp [byteOf, adY, Is h2]
theorem De (hT : dJ P T) (hH : cH μ h S w) (ht : ∀ t, bN μ h S w (env t) (a.tmps.getD t undef)) (s d : Nat) (x : Operand) (hp : cz T (.convert s d x) env h K) :
  dV P ⟨dst, .convert s d x, ty, pos, after, guard⟩ a μ h S w K := by
 have hx := bY ht x
 unfold cz at hp
 simp only at hp
 split at hp
 ·rename_i k0 k k1 n hs hd hex
  rw [hex] at hx
  exact .mk hp (aV.int _ _) fun w' _ => dr rfl (by
   rw [hx.lC]
   simp [convert, run_underlying (hT.int _ _ hs), run_underlying (hT.int _ _ hd), Conv.intToInt])
 ·rename_i e sz bt z hs hd
  split at hp
  ·rename_i hte
   have hu := (hT.slice _ _ _ _ _ hs).1
   have Xt := hT.int _ _ hte
   have Xu := hT.str _ hd
   have key : ∀ (b off c n : Nat) (g : Nat → List PV), a.eval x = .slice (some ⟨b, off, none⟩) n c → (∀ i, i < n → isByte (g i) = true) → K (.str ((List.range n).map fun i => byteOf (g i))) →
     (∀ i v, i < n → g i = [.int .u8 v] → w.cell? ⟨b, off + i, none⟩ = some (.int .u8 v)) → dV P ⟨dst, .convert s d x, ty, pos, after, guard⟩ a μ h S w K := by
    intro b off c n g ex hb hK bw
    have num : ∀ i, i < n → ∃ v, g i = [.int .u8 v] := fun i hi => Je (hb i hi)
    let val : Nat → Int := fun i => match g i with | [.int _ v] => v | _ => 0
    have yP : ∀ i, i < n → g i = [.int .u8 (val i)] := fun i hi => by
     obtain ⟨v, hv⟩ := num i hi
     simp only [val, hv]
    refine .mk hK (aV.str _) fun w' ha => dr rfl ?_
    rw [ex, run_convert_bytes_arg w' s e hu Xt b off n c ((List.range n).map val) ahy (fun i hi => ?_) d Xu]
    ·congr 2
     simp only [strOfNums]
     have : ((List.range n).map val).map (fun q => UInt8.ofNat q.toNat) = (List.range n).map fun i => byteOf (g i) := by
      rw [List.map_map]
      apply List.map_congr_left
      intro i hi
      rw [yP i (afy.1 hi)]
      rfl
     rw [this]
    ·rw [ha.cell (bw i _ hi (yP i hi))]
     simp [adY, hi]
   unfold wx at hp
   split at hp
   ·rename_i hex
    rw [hex] at hx
    refine .mk hp (aV.str _) fun w' _ => dr rfl ?_
    rw [hx.rJ, run_convert_bytes_nil w' s e hu Xt 0 0 d Xu]
    rfl
   ·rename_i cf n f hex
    rw [hex] at hx
    replace hp := bF hp
    obtain ⟨h1, s0, tN, Q5, hK⟩ := hp
    obtain ⟨hb, Q6⟩ := BU tN Q5
    replace hK : K (.str s0) := hK
    rw [← Q6] at hK
    clear tN Q5 Q6
    obtain rfl := adW h1
    rcases hx.u9 with ⟨aa, c, ex, rfl⟩ | ⟨b, off, c, vf, ex, hS, hl, hc, bw, nH⟩
    ·cases aa with
     | none =>
      refine .mk hK (aV.str _) fun w' _ => dr rfl ?_
      rw [ex, run_convert_bytes_nil w' s e hu Xt 0 c d Xu]
      rfl
     | some ad =>
      refine .mk hK (aV.str _) fun w' _ => dr rfl ?_
      rw [ex, run_convert_bytes_string w' s d e _ 0 c hu Xt Xu, run_bytesToString w' ad 0 c [] (by simp [loadCells, loadCellsFrom])]
      rfl
    ·refine key b off c n f ex hb hK fun i v hi hv => ?_
     have q1 := bw i 0 (.int .u8 v) hi (by rw [hv]; rfl)
     have q2 := nH i 0 (.int .u8 v) hi (by rw [hv]; rfl)
     rw [Nat.mul_one, aeO] at q1
     rw [q1]
     generalize vf i 0 = u at q2
     cases q2
     rfl
   ·rename_i id gen off n hex
    rw [hex] at hx
    split at hp
    ·rename_i g cf n' e' f DN
     obtain ⟨rfl, hp⟩ := hp
     replace hp := bF hp
     obtain ⟨h1, s0, tN, Q5, hK⟩ := hp
     obtain ⟨hb, Q6⟩ := BU (g := fun i => f (off + i)) tN Q5
     replace hK : K (.str s0) := hK
     rw [← Q6] at hK
     clear tN Q5 Q6
     obtain rfl := adW h1
     have hh := fH DN
     have hr := hx.sO
     unfold bL at hr
     rw [hh] at hr
     obtain ⟨⟨a0, l0, c0, e0⟩, _, hr⟩ := hr
     obtain ⟨SH, hr⟩ := hr rfl
     obtain ⟨hl, hc⟩ := hH id g 1 n' e' f hh
     cases hm : μ id with
     | none =>
      rw [hm] at hr hc
      have NA : n = 0 := by omega
      subst NA
      refine .mk hK (aV.str _) fun w' _ => dr rfl ?_
      rw [show a.eval x = .slice none 0 0 from hr, run_convert_bytes_nil w' s e hu Xt 0 0 d Xu]
      rfl
     | some p =>
      obtain ⟨b, base⟩ := p
      rw [hm] at hr hc
      obtain ⟨ad, cap, ex, iY, xz, Ja⟩ := hr
      obtain ⟨cur, oI, wz, bw⟩ := cH.cells Ja hc
      rcases aeJ n with h0 | h0
      ·subst h0
       refine .mk hK (aV.str _) fun w' _ => dr rfl ?_
       rw [ex, run_convert_bytes_string w' s d e _ 0 cap hu Xt Xu, run_bytesToString w' ad 0 cap [] (by simp [loadCells, loadCellsFrom])]
       rfl
      ·rw [xz ahw, Nat.mul_one] at ex
       refine key b (base + off) cap n (fun i => f (off + i)) ex hb hK fun i v hi hv => ?_
       obtain ⟨u, q1, q2⟩ := bw (off + i) 0 (.int .u8 v) ahw (by rw [hv]; rfl)
       have q2 : aV S w (.int .u8 v) u := q2
       cases q2
       rw [cell_of_row w b (base + off + i) cur e' (0, 0) oI, ← q1]
       congr 1
       omega
    ·exact agR
   ·exact agR
  ·exact agR
 ·exact agR
theorem BV (ht : ∀ t, bN μ h S w (env t) (a.tmps.getD t undef)) (x : Operand) (hp : cz T (.nilCheck x) env h K) :
  dV P ⟨dst, .nilCheck x, ty, pos, after, guard⟩ a μ h S w K := by
 have hx := bY ht x
 unfold cz at hp
 simp only at hp
 split at hp
 ·rename_i cs hex
  rw [hex] at hx
  obtain ⟨b, off, vf, ex, _⟩ := hx.xq
  exact .mk hp hx fun w' _ => by simp [execOp, ex]
 ·rename_i id gen i off hex
  rw [hex] at hx
  split at hp
  ·rename_i g sz n e f DN
   obtain ⟨rfl, hp⟩ := hp
   have hh := fH DN
   have hr := hx.um
   unfold cc at hr
   rw [hh] at hr
   obtain ⟨_, _, hr⟩ := hr
   obtain ⟨NL, b, base, iL, Ja, hv⟩ := hr rfl
   exact .mk hp hx fun w' _ => by simp [execOp, hv]
  ·exact agR
 ·exact agR
theorem zU (hT : dJ P T) {s sz k o size : Nat} {fl : List (Nat × Nat × Bool)} {z : List PV} {ag : Bool} (gY : T.get s = .struct sz fl z) (hk : fl[k]? = some (o, size, ag)) (b off : Nat) (w' : World) :
  (Instr.fieldAt s (.pointer (some ⟨b, off, none⟩)) k).run P w' = .ok (.pointer (some ⟨b, off + o, none⟩)) w' := by
 obtain ⟨fs, i, hu, hi, jl, zQ, _, hf⟩ := hT.struct _ _ _ _ gY
 obtain ⟨f, j, d, h1, h2, h3, h4, h5, h6, h7⟩ := hf k o size ag hk
 have h0 : ¬ j.size = 0 := by omega
 simp [Instr.fieldAt, run_underlying hu, h1, Instr.sureAddr, fieldPlace, l6 h3, h0, Addr.add_lit, h2]
theorem Ay (hT : dJ P T) (ht : ∀ t, bN μ h S w (env t) (a.tmps.getD t undef)) (s : Nat) (x : Operand) (k : Nat) (hp : cz T (.fieldAddr s x k) env h K) :
  dV P ⟨dst, .fieldAddr s x k, ty, pos, after, guard⟩ a μ h S w K := by
 have hx := bY ht x
 unfold cz at hp
 simp only at hp
 split at hp
 ·rename_i sz fl z gY
  split at hp
  ·rename_i o size ag hk
   split at hp
   ·rename_i cs hex
    rw [hex] at hx
    obtain ⟨b, off, vf, ex, hS, bw, nH⟩ := hx.xq
    refine .mk hp (aV.gf (cs.drop o) b (off + o) (fun j => vf (o + j)) hS (fun j pv hj => ?_) (fun j pv hj => ?_)) fun w' _ => dr rfl (by rw [ex]; exact zU hT gY hk b off w')
    ·rw [aeV] at hj
     rw [Nat.add_assoc]
     exact bw _ _ hj
    ·rw [aeV] at hj
     exact nH _ _ hj
   ·rename_i id gen i off hex
    rw [hex] at hx
    split at hp
    ·rename_i g cf n e f DN
     obtain ⟨rfl, hp⟩ := hp
     have hh := fH DN
     have hr := hx.um
     unfold cc at hr
     rw [hh] at hr
     obtain ⟨_, _, hr⟩ := hr
     obtain ⟨NL, b, base, iL, Ja, hv⟩ := hr rfl
     refine .mk hp ?_ fun w' _ => dr rfl (by rw [hv]; exact zU hT gY hk b _ w')
     show cc _ _ _ _ _ _ _ _
     unfold cc
     rw [hh]
     exact ⟨⟨_, rfl⟩, adV _, fun _ => ⟨NL, b, base, iL, Ja, by simp only [Nat.add_assoc]⟩⟩
    ·exact agR
   ·exact agR
  ·exact agR
 ·exact agR
theorem xA (ht : ∀ t, bN μ h S w (env t) (a.tmps.getD t undef)) (sz : Nat) (fl : List (Nat × Nat × Bool)) (place : Nat → Option (Nat × Nat)) (Gh : ∀ (k o size : Nat) (ag : Bool), fl[k]? = some (o, size, ag) → place k = some (o, size)) {K : List PV → Prop} :
  ∀ (l : List (Nat × Operand)) (acc : List PV) (cells : Array Value), pT env sz fl K l acc → cells.size = sz → acc.length = sz → (∀ (j : Nat) (pv : PV), acc[j]? = some pv → ∃ u, cells[j]? = some u ∧ bZ μ h S w pv u) →
  ∃ Ly jH, K Ly ∧ Instr.fill place cells (l.map fun p => (p.1, a.eval p.2)) = some jH ∧ jH.size = sz ∧ Ly.length = sz ∧ ∀ (j : Nat) (pv : PV), Ly[j]? = some pv → ∃ u, jH[j]? = some u ∧ bZ μ h S w pv u
 | [], acc, cells, hp, hs, hl, hr => ⟨acc, cells, hp, rfl, hs, hl, hr⟩
 | (k, x) :: r, acc, cells, hp, hs, hl, hr => by
  unfold pT at hp
  split at hp
  ·rename_i o size ag hk
   replace hp := bF (cp hp)
   obtain ⟨qB, hp⟩ := hp
   simp only [so] at qB
   obtain ⟨⟨wW, hlen⟩, wz⟩ := qB
   have hlen := adW hlen
   have wz := ael wz
   obtain ⟨h3, h4⟩ := ng wW (bY ht x)
   simp only [aeL, aes] at h3 h4
   have SI : (a.eval x).cells.size = size := h3.trans hlen
   obtain ⟨g1, g2⟩ := tq (a.eval x) o cells ahw
   obtain ⟨Ly, jH, q1, q2, q3⟩ := xA ht sz fl place Gh r (gA acc o (cellsOf (ev env x))) ((a.eval x).cells.zipIdx.foldl (fun (cs : Array Value) (p : Value × Nat) => cs.setIfInBounds (o + p.2) p.1) cells) hp (g1.trans hs) (by rw [nf]; exact hl)
    (fun j pv hj => by
     rw [qA _ _ _ _ ahw] at hj
     rw [g2 j]
     by_cases hc : o ≤ j ∧ j < o + size
     ·rw [if_pos ahw] at hj
      rw [if_pos ahw]
      exact h4 _ _ hj
     ·rw [if_neg ahw] at hj
      rw [if_neg ahw]
      exact hr j pv hj)
   refine ⟨Ly, jH, q1, ?_, q3⟩
   simp only [aec, Instr.fill, Gh k o size ag hk]
   rw [if_neg (by simp only [SI, ne_eq, not_true_eq_false, false_or]; simp only [aeD, decide_eq_true_eq, not_or]; simp; omega)]
   exact q2
  ·exact agR
theorem DP : ∀ (fs : List Field) (n : Nat) (fl : List (Nat × Nat × Bool)), fl.length = fs.length →
  (∀ (k o size : Nat) (ag : Bool), fl[k]? = some (o, size, ag) → ∃ f j, fs[k]? = some f ∧ f.offset = o ∧ P.info? f.type = some j ∧ j.size = size) →
  fs.mapM (fun f => (P.info? f.type).map fun i => (f.offset, i.size)) = some (fl.map fun q => (q.1, q.2.1))
 | [], n, [], _, _ => rfl
 | f :: fs, n, (o, size, ag) :: fl, hl, hf => by
  obtain ⟨f', j, h1, h2, h3, h4⟩ := hf 0 o size ag rfl
  simp at h1
  subst h1
  have ih := DP fs n fl (by simpa using hl) (fun k o size ag hk => by
   obtain ⟨f, j, q⟩ := hf (k + 1) o size ag (by simpa using hk)
   exact ⟨f, j, by simpa using q⟩)
  simp only [List.mapM_cons, aec, h3, Option.map_some, Option.bind_eq_bind, afQ, ih, h2, h4]
  rfl
theorem Hg (hT : dJ P T) (ht : ∀ t, bN μ h S w (env t) (a.tmps.getD t undef)) (t : Nat) (parts : Array (Nat × Operand)) (hp : cz T (.build t parts) env h K) :
  dV P ⟨dst, .build t parts, ty, pos, after, guard⟩ a μ h S w K := by
 unfold cz at hp
 simp only at hp
 split at hp
 ·rename_i sz fl z gY
  obtain ⟨fs, i, hu, hi, jl, zQ, ⟨zv, hz, Qj, Qk, Oo⟩, hf⟩ := hT.struct _ _ _ _ gY
  have Gh := DP (P := P) fs.toList 0 fl (by simpa using zQ) (fun k o size ag hk => by
   obtain ⟨f, j, d, h1, h2, h3, h4, _⟩ := hf k o size ag hk
   exact ⟨f, j, by simpa using h1, h2, h3, h4⟩)
  obtain ⟨Ly, jH, q1, q2, q3, q4, q5⟩ := xA (a := a) (μ := μ) (h := h) (S := S) (w := w) ht sz fl ((fl.map fun q => (q.1, q.2.1)).toArray[·]?) (fun k o size ag hk => by simp [hk]) parts.toList z zv.cells hp Qj Qk (fun j pv hj => by
   have Mr : j < zv.cells.size := by
    have := (An.1 hj).1
    omega
   obtain ⟨fR, h5, _, h6⟩ := Oo j zv.cells[j] (aeq Mr)
   rw [hj] at h5
   injection h5 with h5
   subst h5
   exact ⟨_, aeq Mr, bZ.kG (h6 S w)⟩)
  refine .mk q1 ⟨jH, rfl, by omega, q5⟩ fun w' _ => dr rfl (run_build w' t _ jH ?_)
  unfold Program.built
  simp only [hi, hu, hz, Gh]
  have : (parts.map fun p => (p.1, a.eval p.2)).toList = parts.toList.map fun p => (p.1, a.eval p.2) := by simp
  rw [this]
  exact q2
 ·exact agR
theorem Hh {P : Program} {t : TypeId} {d : TypeDesc} {j : TypeInfo} (hu : P.underlying t = some d) (hi : P.info? t = some j) (cs : Array Value) (off : Nat) (w : World) :
  (part t cs off).run P w = if BK d then .ok (.agg (cs.extract off (off + j.size))) w else match cs[off]? with | some v => .ok v w | none => (part t cs off).run P w := by
 cases hd : BK d with
 | true => simp [part, xr hu, hd, l6 hi]
 | false =>
  simp only [aeU, if_false]
  cases hc : cs[off]? with
  | none => rfl
  | some v => simp [part, xr hu, hd, hc]
theorem Hi (hT : dJ P T) (ht : ∀ t, bN μ h S w (env t) (a.tmps.getD t undef)) (s : Nat) (x : Operand) (k : Nat) (hp : cz T (.field s x k) env h K) :
  dV P ⟨dst, .field s x k, ty, pos, after, guard⟩ a μ h S w K := by
 have hx := bY ht x
 unfold cz at hp
 simp only at hp
 split at hp
 ·rename_i sz fl z gY
  split at hp
  ·rename_i o size ag hk
   split at hp
   ·rename_i cs hex
    rw [hex] at hx
    obtain ⟨vs, ex, jl, hv⟩ := hx
    obtain ⟨fs, i, hu, hi, qk, zQ, _, hf⟩ := hT.struct _ _ _ _ gY
    obtain ⟨f, j, d, h1, h2, h3, h4, h5, h6, h7⟩ := hf k o size ag hk
    have lV : ∀ w' v, (part f.type vs f.offset).run P w' = .ok v w' → (execOp a.eval ⟨dst, .field s x k, ty, pos, after, guard⟩).run P w' = .ok (.value v) w' := fun w' v hr => dr rfl (by
     rw [ex]
     simp [Instr.field, run_underlying hu, h1, hr, asAgg])
    split at hp
    ·obtain ⟨hle, hK⟩ := pS _ _ _ hp
     simp only [afO, aeQ, aez] at hK hle
     refine .mk hK (val := .agg (vs.extract o (o + size))) ⟨_, rfl, by simp; omega, fun q pv hq => ?_⟩ fun w' _ => lV w' _ (by rw [Hh h6 h3, ← h7, if_pos rfl, h2, h4])
     rw [afk] at hq
     split at hq
     ·rename_i bO
      rw [aeV] at hq
      obtain ⟨u, Mq, Kt⟩ := hv _ _ hq
      refine ⟨u, ?_, Kt⟩
      rw [Array.getElem?_extract]
      have : o + q < vs.size := (adZ.1 Mq).1
      rw [if_pos ahw]
      exact Mq
     ·cases hq
    ·split at hp
     ·rename_i c r hd
      have h0 : cs[o]? = some c := by
       have := congrArg (·[0]?) hd
       simpa using this
      obtain ⟨u, Mq, Kt⟩ := hv _ _ h0
      exact .mk (cp hp) Kt.v fun w' _ => lV w' _ (by rw [Hh h6 h3, ← h7, h2]; simp [Mq])
     ·exact agR
   ·exact agR
  ·exact agR
 ·exact agR
theorem ri.Lz {pv : PV} {v : Value} (hs : kE pv = true) (hr : ri pv v) : bN μ h S w pv v := by
 have one : ∀ (pv : PV) (v : Value), uq pv = true → tn pv v → bZ μ h S w pv v := fun pv v hs hr => by
  cases pv <;> first | (cases hs; done) | (have hr : v = _ := hr; subst hr; first | exact aV.int _ _ | exact aV.bool _ | exact aV.str _) | exact hr
 cases pv with
 | agg cs =>
  obtain ⟨vs, h1, h2, h3⟩ := hr
  exact ⟨vs, h1, h2, fun j pv hj => let ⟨u, hu, hc⟩ := h3 j pv hj; ⟨u, hu, one pv u (aeb.1 hs _ (aef hj)) hc⟩⟩
 | iZ => trivial
 | int k n => exact one (.int k n) v rfl hr
 | bool b => exact one (.bool b) v rfl hr
 | str s => exact one (.str s) v rfl hr
 | _ => cases hs
theorem ri.Zs {pv : PV} {v : Value} (hs : kE pv = true) (hr : ri pv v) : jX μ h S w pv v := by
 have := ri.Lz (μ := μ) (h := h) (S := S) (w := w) hs hr
 cases pv with
 | fu _ => cases hs
 | _ => exact this
theorem Fq (hT : dJ P T) (hH : cH μ h S w) (ht : ∀ t, bN μ h S w (env t) (a.tmps.getD t undef)) (t : Nat) (x i : Operand) (ok : Bool) (hp : cz T (.lookup t x i ok) env h K) :
  dV P ⟨dst, .lookup t x i ok, ty, pos, after, guard⟩ a μ h S w K := by
 have hx := bY ht x
 have hi := bY ht i
 simp only [cz] at hp
 split at hp
 ·rename_i kt et zv id gY hex
  rw [hex] at hx
  split at hp
  ·rename_i g sz n e f DN
   replace hp := bF (cp hp)
   obtain ⟨hk, r, b, hm, hK⟩ := hp
   obtain ⟨hu, inf, z, mG, hz, jl, SJ, wW⟩ := hT.map _ _ _ _ gY
   obtain ⟨bl, base, es, c, iL, ex, hb, hn, Jf⟩ := BN hH (fH DN) hx.Fp
   obtain ⟨q0, h0⟩ := Option.isSome_iff_exists.1 hk
   obtain ⟨d, s, hd, Lu, Oq⟩ := Ku hT hi h0
   have xB : ∀ m, m ≤ n → DQ (T.get kt) f m (ev env i) → ∀ j, j < m → ∀ y : MapEntry, es.toList[j]? = some y → uo P kt d s (a.eval i) y.key false := fun m hmn hM j hj y hy => by
    obtain ⟨kp, vp, h1, h2⟩ := hM j hj
    obtain ⟨Xv, Xw, en, h3, _, _, h4, h5, _⟩ := Jf j ahw
    rw [h1] at h3
    injection h3 with e1 e2
    subst e1
    have : y = en := by rw [aes] at hy; exact aeC (hy.symm.trans h4)
    subst this
    exact Oq kp y.key false h5 h2
   have run : ∃ val, ri r val ∧ kE r = true ∧ ∀ w', cP w w' → (Instr.lookup t (.map (some bl)) (a.eval i) ok).run P w' = .ok (if ok then .tuple #[val, .bool b] else val) w' := by
    rcases hm with ⟨rfl, i0, SK, hM, kp, hf, hq⟩ | ⟨rfl, rfl, hM⟩
    ·obtain ⟨Xv, Xw, en, h3, _, h6, h4, h5, h7⟩ := Jf i0 SK
     rw [hf] at h3
     injection h3 with e1 e2
     injection e2 with e2 _
     subst e1 e2
     refine ⟨en.val, h7, h6, fun w' ha => ?_⟩
     have oI : w'.heap[bl]? = some (.map es c) := (ha.blocks bl (adZ.1 hb).1).trans hb
     have BW := BQ (P := P) (w' := w') hd es.toList i0 en (xB i0 ahw hM) (by rw [aes]; exact h4) (Oq kp en.key true h5 hq)
     simp [Instr.lookup, run_underlying hu, run_getObj_map w' bl es c oI, Lu, BW]
    ·refine ⟨z, jl, SJ, fun w' ha => ?_⟩
     have oI : w'.heap[bl]? = some (.map es c) := (ha.blocks bl (adZ.1 hb).1).trans hb
     have BW := xx (P := P) (w' := w') hd es.toList (fun j y hy => xB n (adV _) hM j (by
      have := (An.1 hy).1
      rw [← hn]; simpa using this) y hy)
     simp [Instr.lookup, run_underlying hu, run_getObj_map w' bl es c oI, Lu, BW, zeroValue, typeInfo, mG, hz]
   obtain ⟨val, hrv, hrs, lV⟩ := run
   cases ok with
   | true =>
    refine .mk hK ?_ fun w' ha => dr rfl (by rw [ex]; exact lV w' ha)
    exact ⟨_, rfl, rfl, fun j pv hj => by
     rcases j with _ | _ | j
     ·cases hj; exact ⟨_, rfl, hrv.Zs hrs⟩
     ·cases hj; exact ⟨_, rfl, aV.bool _⟩
     ·simp at hj⟩
   | false => exact .mk (cp hK) (hrv.Lz hrs) fun w' ha => dr rfl (by rw [ex]; exact lV w' ha)
  ·exact agR
 ·exact agR
theorem BX {env : Env} {K : List (Nat × Nat) → Prop} : ∀ (l : List Operand) (acc : List (Nat × Nat)), ur env K l acc → ∃ bX, K (acc.reverse ++ bX) ∧ bX.length = l.length ∧ ∀ (j : Nat) (x : Operand) (p : Nat × Nat), l[j]? = some x → bX[j]? = some p → ev env x = .aG p.1 p.2 0 0
 | [], acc, h => ⟨[], by rw [aeI]; exact h, rfl, fun j x p hx => by simp at hx⟩
 | x :: r, acc, h => by
  unfold ur at h
  split at h
  ·rename_i id gen he
   obtain ⟨bX, h1, h2, h3⟩ := BX r _ h
   refine ⟨(id, gen) :: bX, by simpa using h1, by simp [h2], fun j y p hy hp => ?_⟩
   cases j with
   | zero => simp at hy hp; subst hy; subst hp; exact he
   | succ j => exact h3 j y p aif ahV
  ·exact h.elim
theorem BY (ht : ∀ t, bN μ h S w (env t) (a.tmps.getD t undef)) (fn : Fn) (first captured : Array Operand) (hp : cz T (.makeFunc fn first captured) env h K) :
  dV P ⟨dst, .makeFunc fn first captured, ty, pos, after, guard⟩ a μ h S w K := by
 simp only [cz] at hp
 split at hp
 ·rename_i f
  obtain ⟨hf, hp⟩ := bF hp
  obtain ⟨bX, hK, hl, hc⟩ := BX _ _ hp
  have Q5 : first = #[] := by simpa [Array.isEmpty] using hf
  subst Q5
  refine .mk (val := .func (.func f) #[] (captured.map a.eval)) (by simpa using hK) ?_ fun w' ha => by first | rfl | simp [execOp, Instr.makeFunc]
  show oJ μ h w f bX _
  refine ⟨_, rfl, by simpa using hl.symm, fun j p hj => ?_⟩
  have bO : j < captured.toList.length := by rw [← hl]; exact (An.1 hj).1
  have hx := Is bO
  refine ⟨a.eval captured.toList[j], by rw [aft, ← aes, hx]; rfl, ?_⟩
  have he := hc j _ p hx hj
  have hv := bY ht captured.toList[j]
  rw [he] at hv
  exact hv
 ·exact agR
theorem nI (hT : dJ P T) (hH : cH μ h S w) (ht : ∀ t, bN μ h S w (env t) (a.tmps.getD t undef)) {op : Op} (hp : cz T op env h K) :
  dV P ⟨dst, op, ty, pos, after, guard⟩ a μ h S w K := by
 cases op with
 | lookup t x i ok => exact Fq hT hH ht t x i ok hp
 | makeFunc fn first captured => exact BY ht fn first captured hp
 | move x => exact .mk (cp hp) (bY ht x) fun _ _ => rfl
 | assign x => exact .mk (cp hp) (bY ht x) fun _ _ => rfl
 | pick c x y =>
  have hc := bY ht c
  simp only [cz] at hp
  split at hp
  ·rename_i b hex
   rw [hex] at hc
   have ec := hc.mZ
   obtain ⟨h1, h2⟩ := lh hp
   cases b with
   | true => exact .mk (cp (h1 rfl)) (bY ht x) fun w' _ => by simp [execOp, ec, asBool]
   | false => exact .mk (cp (h2 rfl)) (bY ht y) fun w' _ => by simp [execOp, ec, asBool]
  ·exact agR
 | binOp bo t x y t' => exact Ls hT bo t t' x y _ _ (bY ht x) (bY ht y) hp
 | unOp u t x =>
  have hx := bY ht x
  simp only [cz] at hp
  split at hp
  ·rename_i b hex
   rw [hex] at hx
   exact .mk hp (aV.bool _) fun w' _ => dr rfl (by rw [hx.mZ, unary_not]; rfl)
  ·rename_i k n hex
   rw [hex] at hx
   exact .mk hp (aV.int _ _) fun w' _ => dr rfl (by rw [hx.lC, unary_neg]; rfl)
  ·exact agR
 | load t x => exact BR hT hH t x _ (bY ht x) hp
 | convert s d x => exact De hT hH ht s d x hp
 | nilCheck x => exact BV ht x hp
 | fieldAddr s x k => exact Ay hT ht s x k hp
 | build t parts => exact Hg hT ht t parts hp
 | field s x k => exact Hi hT ht s x k hp
 | indexAddr t x i => exact Hd hT hH ht t x i hp
 | index t x i => exact BS hT ht t x i hp
 | extract x i =>
  have hx := bY ht x
  simp only [cz] at hp
  split at hp
  ·rename_i vs hex
   rw [hex] at hx
   split at hp
   ·rename_i v hv
    obtain ⟨us, e1, e2, e3⟩ := hx
    obtain ⟨u, hu, hr⟩ := e3 i v hv
    have hr' : bN μ h S w v u := by
     cases v with
     | fu ps => exact (show False from hr).elim
     | _ => exact hr
    exact .mk (cp hp) hr' fun w' _ => dr rfl (by rw [e1]; simp [Instr.extract, hu])
   ·exact agR
  ·exact agR
 | slice t x lo hi mx => exact Hf hT hH ht t x lo hi mx hp
 | call c =>
  obtain ⟨Zt, args, ts⟩ := c
  cases Zt with
  | builtin b => cases b with
   | len => exact Lv hT hH ht args ts hp
   | _ => exact (show False from hp).elim
  | _ => exact (show False from hp).elim
 | _ => exact (show False from hp).elim
end
section
variable {P : Program} {T : pr} {μ : Mu} {h : List ak} {S : Nat → Prop} {w w1 : World}
def qC (μ : Mu) (id : Nat) (p : Option (Nat × Nat)) : Mu := fun j => if j = id then p else μ j
theorem cr (μ : Mu) (id : Nat) (p : Option (Nat × Nat)) : qC μ id p id = p := by simp [qC]
theorem fx (μ : Mu) {id j : Nat} (p : Option (Nat × Nat)) (hj : j ≠ id) : qC μ id p j = μ j := by simp [qC, hj]
structure Core (μ : Mu) (h : List ak) (S : Nat → Prop) (w : World) : Prop where
 heap : cH μ h S w
 ok : tG μ h S w
theorem xC (hc : Core μ h S w) (id g g1 sz n n1 : Nat) (e : TypeId) (f f1 : Nat → List PV) (hh : h[id]? = some (ak.row g sz n e f)) (b1 DS : Nat) (ql : Array Value)
  (hg : g ≤ g1) (hg1 : g1 = g → μ id = some (b1, DS) ∧ n1 = n)
  (hb : w.heap.size ≤ b1 ∨ ∃ base cur, μ id = some (b1, base) ∧ w.heap[b1]? = some (.cells cur e (0, 0)) ∧ cur.size = ql.size)
  (hw : w1.heap[b1]? = some (.cells ql e (0, 0))) (wz : DS + n1 * sz ≤ ql.size)
  (kH : ∀ b, b < w.heap.size → b ≠ b1 → w1.heap[b]? = w.heap[b]?) (BZ : w.heap.size ≤ w1.heap.size) (hos : w1.os = w.os) (Ot : w1.tape = w.tape) (Ou : w1.output = w.output)
  (hl : ∀ i, i < n1 → (f1 i).length = sz) (Q1 : ∀ b base, μ id = some (b, base) → ¬ sP w b)
  (bw : ∀ (i j : Nat) (pv : PV), i < n1 → (f1 i)[j]? = some pv → ∃ v : Value, ql[DS + i * sz + j]? = some v ∧ pf μ h S w pv v) (Q7 : Nat)
  (xD : ∀ (i j cf n' : Nat) (e' : TypeId) (f' : Nat → List PV) (F' : Nat → Prop), i < n1 → (f1 i)[j]? = some (.bf cf n' e' f' F') → Q7 + i < n ∧ (f (Q7 + i))[j]? = some (.bf cf n' e' f' F')) :
  Fr μ h S w (qC μ id (some (b1, DS))) (h.set id (.row g1 sz n1 e f1)) S w1 ∧ Core (qC μ id (some (b1, DS))) (h.set id (.row g1 sz n1 e f1)) S w1 := by
 have hid : id < h.length := (An.1 hh).1
 have kh : (h.set id (ak.row g1 sz n1 e f1))[id]? = some (ak.row g1 sz n1 e f1) := by simp [hid]
 have di : ∀ j, j ≠ id → (h.set id (ak.row g1 sz n1 e f1))[j]? = h[j]? := fun j hj => by rw [aeF (aff hj)]
 have Zu : b1 < w1.heap.size := (adZ.1 hw).1
 have Hj : b1 < w.heap.size → cQ μ h b1 := fun bO => by
  rcases hb with hb | ⟨base, cur, hm, _, _⟩
  ·omega
  ·exact .inl ⟨id, g, sz, n, e, f, base, hh, hm⟩
 have gL : ∀ j x y b, eg (h.set id (ak.row g1 sz n1 e f1)) j x y b → eg h j (if j = id then Q7 + x else x) y b := fun j x y b ⟨gj, pU, nj, ej, fj, cf, n', e', f', F', q1, q2, q3, q4⟩ => by
  by_cases jm : j = id
  ·subst jm
   rw [kh] at q1
   injection q1 with q1
   injection q1 with e1 e2 e3 e4 e5
   subst e1 e2 e3 e4 e5
   obtain ⟨r1, r2⟩ := xD x y _ _ _ _ _ q2 q3
   rw [if_pos rfl]
   exact ⟨_, _, _, _, _, _, _, _, _, _, hh, r1, r2, q4⟩
  ·rw [di j jm] at q1
   rw [if_neg jm]
   exact ahq
 have B1 : ∀ j x y b, eg h j x y b → b < w.heap.size ∧ b ≠ b1 := fun j x y b hx => by
  have bO := hc.ok.lt b (.inr ⟨j, x, y, hx⟩)
  refine ⟨bO, ?_⟩
  rintro rfl
  rcases hb with hb | ⟨base, cur, hm, _, _⟩
  ·omega
  ·exact hc.ok.hv b ⟨id, g, sz, n, e, f, base, hh, hm⟩ j x y hx
 have lW : Fr μ h S w (qC μ id (some (b1, DS))) (h.set id (.row g1 sz n1 e f1)) S w1 := by
  refine ⟨by simp, fun b bO xp => ?_, fun _ hb => hb, fun _ hb => .inl hb, fun b oI => ?_, BZ, hos, Ot, Ou, fun j gj pU nj ej fj hj => ?_, fun j hj => ?_, fun b k B2 iY => ?_, fun j gj pU nj ej fj b base hj hm oC => ?_, fun b j x y hx oC => ?_⟩
  rotate_right
  ·obtain ⟨q1, q2⟩ := B1 j x y b hx
   obtain ⟨es, c, q⟩ := oC
   exact ⟨es, c, (kH b q1 q2).trans q⟩
  ·by_cases Kw : b = b1
   ·subst Kw; exact (xp (Hj bO)).elim
   ·exact kH b bO Kw
  ·rcases oI with ⟨j, gj, pU, nj, ej, fj, tr, hj, hm⟩ | ⟨j, x, y, hx⟩
   rotate_left
   ·exact .inl (.inr ⟨_, _, _, gL j x y b hx⟩)
   by_cases jm : j = id
   ·subst jm
    rw [cr] at hm
    injection hm with hm
    injection hm with h1 h2
    subst h1
    rcases aeE b1 w.heap.size with bO | Ql
    ·exact .inl (Hj bO)
    ·exact .inr Ql
   ·rw [di j jm] at hj
    rw [fx μ _ jm] at hm
    exact .inl (.inl ⟨j, gj, pU, nj, ej, fj, tr, hj, hm⟩)
  ·by_cases jm : j = id
   ·subst jm
    rw [hh] at hj
    injection hj with hj
    injection hj with e1 e2 e3 e4 e5
    subst e1 e2 e3 e4 e5
    rw [kh]
    refine ⟨hg, fun he => ?_⟩
    obtain ⟨h1, h2⟩ := hg1 he
    exact ⟨by rw [cr, h1], rfl, h2, rfl⟩
   ·rw [di j jm, hj]
    exact ⟨adV _, fun _ => ⟨fx μ _ jm, rfl, rfl, rfl⟩⟩
  ·have jm : j ≠ id := by rintro rfl; rw [hh] at hj; cases hj
   rw [di j jm]; exact hj
  ·by_cases Kw : b = b1
   ·subst Kw
    obtain ⟨cur, e', q1, q2⟩ := iY
    rcases hb with hb | ⟨base, Jg, hm, pV, jl⟩
    ·have := (adZ.1 q1).1; omega
    ·rw [pV] at q1
     injection q1 with q1
     injection q1 with q1 _ _
     subst q1
     exact ⟨ql, e, hw, by omega⟩
   ·exact lj.of_same (kH b iY.lt Kw) iY
  ·have jm : j ≠ id := by rintro rfl; exact Q1 b base hm oC
   have Kw : b ≠ b1 := by
    rintro rfl
    obtain ⟨es, c, q⟩ := oC
    rcases hb with hb | ⟨rK, Jg, Hk, pV, _⟩
    ·have := (adZ.1 q).1; omega
    ·rw [pV] at q; cases q
   obtain ⟨es, c, q⟩ := oC
   exact ⟨⟨es, c, (kH b (adZ.1 q).1 Kw).trans q⟩, .inr ⟨⟨_, _, _, _, _, (di j jm).trans hj⟩, by rw [fx μ _ jm]; exact hm⟩⟩
 refine ⟨lW, ⟨fun j gj pU nj ej fj hj => ?_, ?_⟩⟩
 ·by_cases jm : j = id
  ·subst jm
   rw [kh] at hj
   injection hj with hj
   injection hj with e1 e2 e3 e4 e5
   subst e1 e2 e3 e4 e5
   rw [cr]
   refine ⟨hl, cH.Hl ⟨ql, hw, wz, fun i k pv hi hk => ?_⟩⟩
   obtain ⟨v, h1, h2⟩ := bw i k pv hi hk
   refine ⟨v, h1, h2.fr lW hc.ok (fun cf n' e' f' F' he b oI => ?_)⟩
   rw [he] at hk
   obtain ⟨r1, r2⟩ := xD i k _ _ _ _ _ hi hk
   obtain ⟨q1, q2⟩ := B1 j (Q7 + i) k b ⟨_, _, _, _, _, _, _, _, _, _, hh, r1, r2, oI⟩
   exact kH b q1 q2
  ·rw [di j jm] at hj
   obtain ⟨h1, h2⟩ := hc.heap j gj pU nj ej fj hj
   refine ⟨h1, ?_⟩
   rw [fx μ _ jm]
   cases hm : μ j with
   | none => rw [hm] at h2; exact h2
   | some p =>
    obtain ⟨b, base⟩ := p
    rw [hm] at h2
    obtain ⟨o, q1, q2⟩ := h2
    have bO : b < w.heap.size := (adZ.1 q1).1
    have Kw : b ≠ b1 := by
     rintro rfl
     rcases hb with hb | ⟨rK, Jg, Hk, _⟩
     ·omega
     ·exact jm (hc.ok.inj j id _ _ _ _ _ _ _ _ _ _ _ _ _ hj hh hm Hk)
    exact ⟨o, (kH b bO Kw).trans q1, q2.mono (fun i y pv v hi hy hr => hr.fr lW hc.ok (fun cf n' e' f' F' he b' oI => by
     obtain ⟨q1, q2⟩ := B1 j i y b' ⟨_, _, _, _, _, _, _, _, _, _, hj, hi, by rw [hy, he], oI⟩
     exact kH b' q1 q2))⟩
 ·refine ⟨fun b B2 Q8 => ?_, fun b B2 => ?_, fun b Q8 => aet (hc.ok.slt b Q8) BZ, ?_, hc.ok.B3 lW, fun b Xx j x y hx => ?_, fun b j x y j' x' y' hx wA => ?_⟩
  rotate_right 2
  ·obtain ⟨q1, q2⟩ := B1 _ _ _ b (gL j x y b hx)
   obtain ⟨k, gk, Xy, nk, ek, fk, Ov, hk, hm⟩ := Xx
   by_cases yQ : k = id
   ·subst yQ
    rw [cr] at hm
    injection hm with hm
    injection hm with h1 h2
    exact q2 h1.symm
   ·rw [di k yQ] at hk
    rw [fx μ _ yQ] at hm
    exact hc.ok.hv b ⟨k, gk, Xy, nk, ek, fk, Ov, hk, hm⟩ _ _ _ (gL j x y b hx)
  ·obtain ⟨r1, r2, r3⟩ := hc.ok.hh b _ _ _ _ _ _ (gL j x y b hx) (gL j' x' y' b wA)
   subst r1
   refine ⟨rfl, ?_, r3⟩
   split at r2 <;> omega
  ·rcases lW.own b B2 with h1 | h1
   ·exact hc.ok.apart b h1 Q8
   ·have := hc.ok.slt b Q8; omega
  ·rcases B2 with ⟨j, gj, pU, nj, ej, fj, tr, hj, hm⟩ | ⟨j, x, y, hx⟩
   rotate_left
   ·exact aet (hc.ok.lt b (.inr ⟨_, _, _, gL j x y b hx⟩)) BZ
   by_cases jm : j = id
   ·subst jm
    rw [cr] at hm
    injection hm with hm
    injection hm with h1 h2
    subst h1
    exact Zu
   ·rw [di j jm] at hj
    rw [fx μ _ jm] at hm
    exact aet (hc.ok.lt b (.inl ⟨j, gj, pU, nj, ej, fj, tr, hj, hm⟩)) BZ
  ·intro i j gi Qm ni ei fi gj pU nj ej fj b o o' hi hj qm pg
   by_cases Ms : i = id
   ·by_cases jm : j = id
    ·rw [Ms, jm]
    ·subst Ms
     rw [cr] at qm
     injection qm with qm
     injection qm with h1 h2
     subst h1
     rw [di j jm] at hj
     rw [fx μ _ jm] at pg
     rcases hb with hb | ⟨rK, Jg, Hk, _⟩
     ·have := hc.ok.lt _ (.inl ⟨j, gj, pU, nj, ej, fj, o', hj, pg⟩); omega
     ·exact hc.ok.inj i j _ _ _ _ _ _ _ _ _ _ _ _ _ hh hj Hk pg
   ·rw [di i Ms] at hi
    rw [fx μ _ Ms] at qm
    by_cases jm : j = id
    ·subst jm
     rw [cr] at pg
     injection pg with pg
     injection pg with h1 h2
     subst h1
     rcases hb with hb | ⟨rK, Jg, Hk, _⟩
     ·have := hc.ok.lt _ (.inl ⟨i, gi, Qm, ni, ei, fi, o, hi, qm⟩); omega
     ·exact hc.ok.inj i j _ _ _ _ _ _ _ _ _ _ _ _ _ hi hh qm Hk
    ·rw [di j jm] at hj
     rw [fx μ _ jm] at pg
     exact hc.ok.inj i j _ _ _ _ _ _ _ _ _ _ _ _ _ hi hj qm pg
theorem DT (hc : Core μ h S w) (sz n : Nat) (e : TypeId) (f : Nat → List PV) (p : Option (Nat × Nat))
  (hp : match p with
   | none => n = 0
   | some (b, base) => w.heap.size ≤ b ∧ ∃ o : Obj, w1.heap[b]? = some o ∧ wB (bZ μ h S w) base sz n e f o)
  (ha : cP w w1) (hl : ∀ i, i < n → (f i).length = sz) (xD : ∀ (i j : Nat) (pv : PV), i < n → (f i)[j]? = some pv → ef pv = false) :
  Fr μ h S w (qC μ h.length p) (h ++ [.row 0 sz n e f]) S w1 ∧ Core (qC μ h.length p) (h ++ [.row 0 sz n e f]) S w1 := by
 have qD : ∀ j o, h[j]? = some o → (h ++ [ak.row 0 sz n e f])[j]? = some o := fun j o hj => by
  rw [aew (An.1 hj).1]; exact hj
 have AV : (h ++ [ak.row 0 sz n e f])[h.length]? = some (ak.row 0 sz n e f) := by simp
 have qE : ∀ j o, (h ++ [ak.row 0 sz n e f])[j]? = some o → (h[j]? = some o ∧ j ≠ h.length) ∨ (j = h.length ∧ o = ak.row 0 sz n e f) := fun j o hj => by
  rcases Nat.lt_trichotomy j h.length with bO | heq | DN
  ·rw [aew bO] at hj; exact .inl ⟨hj, by omega⟩
  ·subst heq; rw [AV] at hj; injection hj with hj; exact .inr ⟨rfl, hj.symm⟩
  ·rw [aev ahC] at hj; cases hj
 have oK : ∀ j o, h[j]? = some o → qC μ h.length p j = μ j := fun j o hj => fx μ _ (by have := (An.1 hj).1; omega)
 have gL : ∀ j x y b, eg (h ++ [ak.row 0 sz n e f]) j x y b → eg h j x y b := fun j x y b ⟨gj, pU, nj, ej, fj, cf, n', e', f', F', q1, q2, q3, q4⟩ => by
  rcases qE j _ q1 with ⟨h1, h2⟩ | ⟨h1, h2⟩
  ·exact ⟨_, _, _, _, _, _, _, _, _, _, h1, q2, q3, q4⟩
  ·injection h2 with e1 e2 e3 e4 e5
   subst e1 e2 e3 e4 e5
   have := xD x y _ q2 q3
   cases this
 have lW : Fr μ h S w (qC μ h.length p) (h ++ [.row 0 sz n e f]) S w1 := by
  refine ⟨by simp, fun b bO _ => ha.blocks b bO, fun _ hb => hb, fun _ hb => .inl hb, fun b oI => ?_, ha.size, ha.os, ha.tape, ha.output, fun j gj pU nj ej fj hj => ?_, fun j hj => qD j _ hj, fun b k B2 iY => lj.of_same (ha.blocks b iY.lt) iY, fun j gj pU nj ej fj b base hj hm oC => ⟨let ⟨es, c, q⟩ := oC; ⟨es, c, (ha.blocks b (adZ.1 q).1).trans q⟩, .inr ⟨⟨_, _, _, _, _, qD j _ hj⟩, by rw [oK j _ hj]; exact hm⟩⟩, fun b j x y hx oC => let ⟨es, c, q⟩ := oC; ⟨es, c, (ha.blocks b (adZ.1 q).1).trans q⟩⟩
  ·rcases oI with ⟨j, gj, pU, nj, ej, fj, tr, hj, hm⟩ | ⟨j, x, y, hx⟩
   rotate_left
   ·exact .inl (.inr ⟨_, _, _, gL j x y b hx⟩)
   rcases qE j _ hj with ⟨h1, h2⟩ | ⟨h1, h2⟩
   ·rw [fx μ _ h2] at hm
    exact .inl (.inl ⟨j, gj, pU, nj, ej, fj, tr, h1, hm⟩)
   ·subst h1
    rw [cr] at hm
    subst hm
    exact .inr hp.1
  ·rw [qD j _ hj]
   exact ⟨adV _, fun _ => ⟨oK j _ hj, rfl, rfl, rfl⟩⟩
 refine ⟨lW, ⟨fun j gj pU nj ej fj hj => ?_, ?_⟩⟩
 ·rcases qE j _ hj with ⟨h1, h2⟩ | ⟨h1, h2⟩
  ·obtain ⟨q1, q2⟩ := hc.heap j gj pU nj ej fj h1
   refine ⟨q1, ?_⟩
   rw [fx μ _ h2]
   cases hm : μ j with
   | none => rw [hm] at q2; exact q2
   | some p' =>
    obtain ⟨b, base⟩ := p'
    rw [hm] at q2
    obtain ⟨o, r1, r2⟩ := q2
    have bO : b < w.heap.size := (adZ.1 r1).1
    exact ⟨o, (ha.blocks b bO).trans r1, r2.mono (fun i y pv v hi hy hr => hr.fr lW hc.ok (fun cf n' e' f' F' he b' oI => ha.blocks b' (hc.ok.lt b' (.inr ⟨j, i, y, _, _, _, _, _, _, _, _, _, _, h1, hi, he ▸ hy, oI⟩))))⟩
  ·subst h1
   injection h2 with e1 e2 e3 e4 e5
   subst e1 e2 e3 e4 e5
   rw [cr]
   refine ⟨hl, ?_⟩
   cases p with
   | none => exact hp
   | some p' =>
    obtain ⟨b, base⟩ := p'
    obtain ⟨_, o, r1, r2⟩ := hp
    exact ⟨o, r1, r2.mono (fun i y pv v hi hy hr => (hr.fr lW hc.ok).k (xD i y pv hi hy))⟩
 ·refine ⟨fun b B2 Q8 => ?_, fun b B2 => ?_, fun b Q8 => aet (hc.ok.slt b Q8) ha.size, ?_, hc.ok.B3 lW, fun b Xx j x y hx => ?_, fun b j x y j' x' y' hx wA => hc.ok.hh b _ _ _ _ _ _ (gL j x y b hx) (gL j' x' y' b wA)⟩
  rotate_right
  ·have hx := gL j x y b hx
   obtain ⟨k, gk, Xy, nk, ek, fk, Ov, hk, hm⟩ := Xx
   rcases qE k _ hk with ⟨h1, h2⟩ | ⟨h1, h2⟩
   ·rw [fx μ _ h2] at hm
    exact hc.ok.hv b ⟨k, gk, Xy, nk, ek, fk, Ov, h1, hm⟩ _ _ _ hx
   ·subst h1
    rw [cr] at hm
    subst hm
    have := hc.ok.lt b (.inr ⟨_, _, _, hx⟩)
    have := hp.1
    omega
  ·rcases lW.own b B2 with h1 | h1
   ·exact hc.ok.apart b h1 Q8
   ·have := hc.ok.slt b Q8; omega
  ·rcases B2 with ⟨j, gj, pU, nj, ej, fj, tr, hj, hm⟩ | ⟨j, x, y, hx⟩
   rotate_left
   ·exact aet (hc.ok.lt b (.inr ⟨_, _, _, gL j x y b hx⟩)) ha.size
   rcases qE j _ hj with ⟨h1, h2⟩ | ⟨h1, h2⟩
   ·rw [fx μ _ h2] at hm
    exact aet (hc.ok.lt b (.inl ⟨j, gj, pU, nj, ej, fj, tr, h1, hm⟩)) ha.size
   ·subst h1
    rw [cr] at hm
    subst hm
    obtain ⟨_, o, r1, _⟩ := hp
    exact (adZ.1 r1).1
  ·intro i j gi Qm ni ei fi gj pU nj ej fj b o o' hi hj qm pg
   rcases qE i _ hi with ⟨h1, h2⟩ | ⟨h1, h2⟩
   ·rw [fx μ _ h2] at qm
    rcases qE j _ hj with ⟨h3, h4⟩ | ⟨h3, h4⟩
    ·rw [fx μ _ h4] at pg
     exact hc.ok.inj i j _ _ _ _ _ _ _ _ _ _ _ _ _ h1 h3 qm pg
    ·subst h3
     rw [cr] at pg
     subst pg
     have := hc.ok.lt _ (.inl ⟨i, gi, Qm, ni, ei, fi, o, h1, qm⟩)
     have := hp.1
     omega
   ·subst h1
    rw [cr] at qm
    rcases qE j _ hj with ⟨h3, h4⟩ | ⟨h3, h4⟩
    ·rw [fx μ _ h4] at pg
     subst qm
     have := hc.ok.lt _ (.inl ⟨j, gj, pU, nj, ej, fj, o', h3, pg⟩)
     have := hp.1
     omega
    ·exact h3.symm
theorem rL (hc : Core μ h S w) (sz n : Nat) (e : TypeId) (f : Nat → List PV) (p : Option (Nat × Nat))
  (hp : match p with
   | none => n = 0
   | some (b, base) => w.heap.size ≤ b ∧ ∃ cur : Array Value, w1.heap[b]? = some (.cells cur e (0, 0)) ∧ base + n * sz ≤ cur.size ∧
    ∀ (i j : Nat) (pv : PV), i < n → (f i)[j]? = some pv → ∃ v : Value, cur[base + i * sz + j]? = some v ∧ bZ μ h S w pv v)
  (ha : cP w w1) (hl : ∀ i, i < n → (f i).length = sz) (xD : ∀ (i j : Nat) (pv : PV), i < n → (f i)[j]? = some pv → ef pv = false) :
  Fr μ h S w (qC μ h.length p) (h ++ [.row 0 sz n e f]) S w1 ∧ Core (qC μ h.length p) (h ++ [.row 0 sz n e f]) S w1 := by
 refine DT hc sz n e f p ?_ ha hl xD
 cases p with
 | none => exact hp
 | some q => exact ⟨hp.1, cH.Hl hp.2⟩
theorem lj.Fs {b k : Nat} (h : lj w b k) : ¬ sP w b := by
 rintro ⟨es, c, q⟩
 obtain ⟨cur, e, h1, _⟩ := h
 rw [h1] at q; cases q
end
theorem nJ.refl : ∀ (l : List PV), nJ l l
 | [] => trivial
 | a :: l => ⟨.same a, nJ.refl l⟩
theorem nJ.len : ∀ {l r : List PV}, nJ l r → r.length = l.length
 | [], [], _ => rfl
 | a :: l, b :: r, h => by simp [nJ.len h.2]
 | [], _ :: _, h => h.elim
 | _ :: _, [], h => h.elim
theorem nJ.get : ∀ {l r : List PV}, nJ l r → ∀ {j : Nat} {b : PV}, r[j]? = some b → ∃ a, l[j]? = some a ∧ Mt a b
 | [], [], _, j, b, hj => by simp at hj
 | a :: l, c :: r, h, 0, b, hj => by simp at hj; subst hj; exact ⟨a, rfl, h.1⟩
 | a :: l, c :: r, h, j + 1, b, hj => by
  obtain ⟨x, q1, q2⟩ := nJ.get h.2 (j := j) ahI
  exact ⟨x, by simpa using q1, q2⟩
 | [], _ :: _, h, _, _, _ => h.elim
 | _ :: _, [], h, _, _, _ => h.elim
theorem nJ.Zv : ∀ {l r : List PV}, nJ l r → ∀ {j : Nat} {a : PV}, l[j]? = some a → ∃ b, r[j]? = some b ∧ Mt a b
 | [], [], _, j, b, hj => by simp at hj
 | a :: l, c :: r, h, 0, b, hj => by simp at hj; subst hj; exact ⟨c, rfl, h.1⟩
 | a :: l, c :: r, h, j + 1, b, hj => by
  obtain ⟨x, q1, q2⟩ := nJ.Zv h.2 (j := j) ahI
  exact ⟨x, by simpa using q1, q2⟩
 | [], _ :: _, h, _, _, _ => h.elim
 | _ :: _, [], h, _, _, _ => h.elim
theorem Mt.VT {a b : PV} (h : Mt a b) {μ : Mu} {l : List ak} {S : Nat → Prop} {w : World} {v : Value} (hr : bZ μ l S w a v) : bZ μ l S w b v := by
 cases h with
 | same => exact hr
 | nil sz f =>
  have hr : aV S w .aq v := hr
  cases hr
  exact aV.qj _ _ _ _
 | LA sz e f => exact bZ.one hr
def OEq : ak → ak → Prop
 | .row g sz n e f, .row g' cf n' e' f' => g = g' ∧ sz = cf ∧ n = n' ∧ e = e' ∧ ∀ i, i < n → nJ (f i) (f' i)
 | .dead, .dead => True
 | _, _ => False
def eJ : List ak → List ak → Prop
 | [], [] => True
 | o :: l, o' :: l' => OEq o o' ∧ eJ l l'
 | _, _ => False
theorem eJ.len : ∀ {l l' : List ak}, eJ l l' → l.length = l'.length
 | [], [], _ => rfl
 | o :: l, o' :: l', h => by simp [eJ.len h.2]
 | [], _ :: _, h => h.elim
 | _ :: _, [], h => h.elim
theorem eJ.get : ∀ {l l' : List ak}, eJ l l' → ∀ {j : Nat} {g sz n : Nat} {e : TypeId} {f : Nat → List PV}, l[j]? = some (ak.row g sz n e f) → ∃ f', l'[j]? = some (ak.row g sz n e f') ∧ ∀ i, i < n → nJ (f i) (f' i)
 | o :: l, o' :: l', h, 0, g, sz, n, e, f, hj => by
  simp at hj
  subst hj
  cases o' with
  | dead => exact h.1.elim
  | row g' cf n' e' f' =>
   obtain ⟨rfl, rfl, rfl, rfl, hf⟩ := h.1
   exact ⟨f', rfl, hf⟩
 | o :: l, o' :: l', h, j + 1, g, sz, n, e, f, hj => by
  simp at hj
  obtain ⟨f', h1, h2⟩ := eJ.get h.2 hj
  exact ⟨f', by simpa using h1, h2⟩
 | [], [], _, _, _, _, _, _, _, hj => by simp at hj
 | [], _ :: _, h, _, _, _, _, _, _, _ => h.elim
 | _ :: _, [], h, _, _, _, _, _, _, _ => h.elim
theorem eJ.LB : ∀ {l l' : List ak}, eJ l l' → ∀ {j : Nat} {g sz n : Nat} {e : TypeId} {f' : Nat → List PV}, l'[j]? = some (ak.row g sz n e f') → ∃ f, l[j]? = some (ak.row g sz n e f) ∧ ∀ i, i < n → nJ (f i) (f' i)
 | o :: l, o' :: l', h, 0, g, sz, n, e, f', hj => by
  simp at hj
  subst hj
  cases o with
  | dead => exact h.1.elim
  | row g' cf n' e' f =>
   obtain ⟨rfl, rfl, rfl, rfl, hf⟩ := h.1
   exact ⟨f, rfl, hf⟩
 | o :: l, o' :: l', h, j + 1, g, sz, n, e, f', hj => by
  simp at hj
  obtain ⟨f, h1, h2⟩ := eJ.LB h.2 hj
  exact ⟨f, by simpa using h1, h2⟩
 | [], [], _, _, _, _, _, _, _, hj => by simp at hj
 | [], _ :: _, h, _, _, _, _, _, _, _ => h.elim
 | _ :: _, [], h, _, _, _, _, _, _, _ => h.elim
theorem eJ.getD : ∀ {l l' : List ak}, eJ l l' → ∀ {j : Nat}, l[j]? = some ak.dead → l'[j]? = some ak.dead
 | o :: l, o' :: l', h, 0, hj => by
  simp at hj
  subst hj
  cases o' with
  | dead => rfl
  | row g' cf n' e' f' => exact h.1.elim
 | o :: l, o' :: l', h, j + 1, hj => by
  simp at hj
  simpa using eJ.getD h.2 hj
 | [], [], _, _, hj => by simp at hj
 | [], _ :: _, h, _, _ => h.elim
 | _ :: _, [], h, _, _ => h.elim
theorem eJ.Q9 {l l' : List ak} (h : eJ l l') {id i j b : Nat} (ho : eg l' id i j b) : eg l id i j b := by
 obtain ⟨g, sz, n, e, f', cf, n', e', f2, F', q1, q2, q3, q4⟩ := ho
 obtain ⟨f, r1, r2⟩ := h.LB q1
 obtain ⟨a, ha, hle⟩ := (r2 i q2).get q3
 cases hle with
 | same => exact ⟨_, _, _, _, _, _, _, _, _, _, r1, q2, ha, q4⟩
 | LA => exact q4.elim
theorem eJ.Zw {l l' : List ak} (h : eJ l l') {μ : Mu} {b : Nat} (ho : CP μ l' b) : CP μ l b := by
 obtain ⟨id, g, sz, n, e, f, base, h1, h2⟩ := ho
 obtain ⟨f', h3, _⟩ := h.LB h1
 exact ⟨id, g, sz, n, e, f', base, h3, h2⟩
theorem eJ.yR {l l' : List ak} (h : eJ l l') {μ : Mu} {b : Nat} (ho : cQ μ l' b) : cQ μ l b := by
 rcases ho with ho | ⟨id, i, j, ho⟩
 ·exact .inl (h.Zw ho)
 ·exact .inr ⟨id, i, j, h.Q9 ho⟩
theorem eJ.hid {l l' : List ak} (h : eJ l l') {id i j b : Nat} (ho : eg l id i j b) : eg l' id i j b := by
 obtain ⟨g, sz, n, e, f, cf, n', e', f2, F', q1, q2, q3, q4⟩ := ho
 obtain ⟨f', r1, r2⟩ := h.get q1
 obtain ⟨c, hc, hle⟩ := (r2 i q2).Zv q3
 cases hle
 exact ⟨_, _, _, _, _, _, _, _, _, _, r1, q2, hc, q4⟩
theorem eJ.owned {l l' : List ak} (h : eJ l l') {μ : Mu} {b : Nat} (ho : cQ μ l b) : cQ μ l' b := by
 rcases ho with ⟨id, g, sz, n, e, f, base, h1, h2⟩ | ⟨x, y, z, ho⟩
 ·obtain ⟨f', h3, _⟩ := h.get h1
  exact .inl ⟨id, g, sz, n, e, f', base, h3, h2⟩
 ·exact .inr ⟨_, _, _, h.hid ho⟩
theorem eJ.own {l l' : List ak} (h : eJ l l') {μ : Mu} {w : World} {id gen off len : Nat} {v : Value} (hr : bL μ l w id gen off len v) : bL μ l' w id gen off len v := by
 unfold bL at *
 refine ⟨hr.1, ?_⟩
 have hr := hr.2
 cases ho : l[id]? with
 | none => rw [ho] at hr; exact hr.elim
 | some o =>
  cases o with
  | dead => rw [h.getD ho]; trivial
  | row g sz n e f =>
   obtain ⟨f', h1, _⟩ := h.get ho
   rw [ho] at hr
   rw [h1]
   exact hr
theorem eJ.aG {l l' : List ak} (h : eJ l l') {μ : Mu} {id gen i off : Nat} {v : Value} {w : World} (hr : cc μ l w id gen i off v) : cc μ l' w id gen i off v := by
 unfold cc at *
 refine ⟨hr.1, ?_⟩
 have hr := hr.2
 cases ho : l[id]? with
 | none => rw [ho] at hr; exact hr.elim
 | some o =>
  cases o with
  | dead => rw [h.getD ho]; trivial
  | row g sz n e f =>
   obtain ⟨f', h1, _⟩ := h.get ho
   rw [ho] at hr
   rw [h1]
   exact hr
theorem Mt.IK {a b : PV} (h : Mt a b) (ha : kE a = true) : b = a := by
 cases h with
 | same => rfl
 | _ => cases ha
theorem nJ.IK {kp vp : PV} {l : List PV} (h : nJ [kp, vp] l) (h1 : kE kp = true) (h2 : kE vp = true) : l = [kp, vp] := by
 rcases l with _ | ⟨a, _ | ⟨b, _ | ⟨c, l⟩⟩⟩
 ·exact h.elim
 ·exact h.2.elim
 ·rw [h.1.IK h1, h.2.1.IK h2]
 ·exact h.2.2.elim
theorem eJ.lA {l l' : List ak} (h : eJ l l') {μ : Mu} {w : World} {id : Nat} {v : Value} (hr : gJ μ l w id v) : gJ μ l' w id v := by
 unfold gJ at *
 refine ⟨hr.1, ?_⟩
 have hr := hr.2
 cases ho : l[id]? with
 | none => rw [ho] at hr; exact hr.elim
 | some o =>
  cases o with
  | dead => rw [h.getD ho]; trivial
  | row g sz n e f =>
   obtain ⟨f', h1, _⟩ := h.get ho
   rw [ho] at hr
   rw [h1]
   exact hr
theorem eJ.oP {l l' : List ak} (h : eJ l l') {μ : Mu} {w : World} {f : Nat} {bX : List (Nat × Nat)} {v : Value} (hr : oJ μ l w f bX v) : oJ μ l' w f bX v := tH.mono hr (fun id g u hu => h.aG hu)
theorem eJ.VT {l l' : List ak} (h : eJ l l') {μ : Mu} {S : Nat → Prop} {w : World} {pv : PV} {v : Value} (hr : bZ μ l S w pv v) : bZ μ l' S w pv v := by
 cases pv with
 | own id gen off len => exact h.own hr
 | aG id gen i off => exact h.aG hr
 | lA id => exact h.lA hr
 | oP f bX => exact h.oP hr
 | _ => exact hr
theorem eJ.VU {l l' : List ak} (h : eJ l l') {μ : Mu} {S : Nat → Prop} {w : World} {pv : PV} {v : Value} (hr : pf μ l S w pv v) : pf μ l' S w pv v := by
 cases pv with
 | bf sz n e f F => exact hr
 | _ => exact bZ.k (h.VT (pf.c hr)) rfl
theorem Mt.VU {a b : PV} (h : Mt a b) {μ : Mu} {l : List ak} {S : Nat → Prop} {w : World} {v : Value} (hr : pf μ l S w a v) : pf μ l S w b v := by
 cases h with
 | same => exact hr
 | nil sz f =>
  have hr : aV S w .aq v := hr
  cases hr
  exact aV.qj _ _ _ _
 | LA sz e f =>
  have hr : aV S w .aq v := hr
  cases hr
  exact ml.nil _ _ _ _ (fun _ h => h)
theorem eJ.Lz {l l' : List ak} (h : eJ l l') {μ : Mu} {S : Nat → Prop} {w : World} {pv : PV} {v : Value} (hr : jX μ l S w pv v) : jX μ l' S w pv v := by
 cases pv with
 | own id gen off len => exact h.own hr
 | aG id gen i off => exact h.aG hr
 | lA id => exact h.lA hr
 | oP f bX => exact h.oP hr
 | agg cs =>
  obtain ⟨vs, h1, h2, h3⟩ := hr
  exact ⟨vs, h1, h2, fun j pv hj => by obtain ⟨u, hu, hc⟩ := h3 j pv hj; exact ⟨u, hu, h.VT hc⟩⟩
 | _ => exact hr
theorem eJ.refl : ∀ (l : List ak), eJ l l
 | [] => trivial
 | .row g sz n e f :: l => ⟨⟨rfl, rfl, rfl, rfl, fun _ _ => nJ.refl _⟩, eJ.refl l⟩
 | .dead :: l => ⟨trivial, eJ.refl l⟩
theorem eJ.set : ∀ (l : List ak) (id g sz n : Nat) (e : TypeId) (f f' : Nat → List PV), (∀ i, i < n → nJ (f i) (f' i)) → eJ (l.set id (.row g sz n e f)) (l.set id (.row g sz n e f'))
 | [], _, _, _, _, _, _, _, _ => trivial
 | o :: l, 0, g, sz, n, e, f, f', hf => ⟨⟨rfl, rfl, rfl, rfl, hf⟩, eJ.refl l⟩
 | o :: l, id + 1, g, sz, n, e, f, f', hf => ⟨by cases o; exact ⟨rfl, rfl, rfl, rfl, fun _ _ => nJ.refl _⟩; exact trivial, eJ.set l id g sz n e f f' hf⟩
theorem eJ.snoc : ∀ (l : List ak) (g sz n : Nat) (e : TypeId) (f f' : Nat → List PV), (∀ i, i < n → nJ (f i) (f' i)) → eJ (l ++ [.row g sz n e f]) (l ++ [.row g sz n e f'])
 | [], g, sz, n, e, f, f', hf => ⟨⟨rfl, rfl, rfl, rfl, hf⟩, trivial⟩
 | o :: l, g, sz, n, e, f, f', hf => ⟨by cases o; exact ⟨rfl, rfl, rfl, rfl, fun _ _ => nJ.refl _⟩; exact trivial, eJ.snoc l g sz n e f f' hf⟩
theorem eJ.acK {l l' : List ak} (h : eJ l l') {μ : Mu} {S : Nat → Prop} {w : World} {pv : PV} {v : Value} (hr : bN μ l S w pv v) : bN μ l' S w pv v := by
 cases pv with
 | fu ps =>
  obtain ⟨vs, h1, h2, h3⟩ := hr
  exact ⟨vs, h1, h2, fun j pv hj => by obtain ⟨u, hu, hc⟩ := h3 j pv hj; exact ⟨u, hu, h.Lz hc⟩⟩
 | own id gen off len => exact h.own hr
 | aG id gen i off => exact h.aG hr
 | lA id => exact h.lA hr
 | oP f bX => exact h.oP hr
 | agg cs => exact h.Lz (pv := .agg cs) hr
 | _ => exact hr
theorem eJ.core {l l' : List ak} (he : eJ l l') {μ : Mu} {S : Nat → Prop} {w : World} (hc : Core μ l S w) : Core μ l' S w := by
 refine ⟨fun id g sz n e f hid => ?_, ⟨fun b hb => hc.ok.apart b (he.yR hb), fun b hb => hc.ok.lt b (he.yR hb), hc.ok.slt, fun i j g sz n e f g' cf n' e' f' b o o' hi hj h1 h3 => ?_, hc.ok.known, fun b hb id i j hx => hc.ok.hv b (he.Zw hb) id i j (he.Q9 hx), fun b _ _ _ _ _ _ hx hy => hc.ok.hh b _ _ _ _ _ _ (he.Q9 hx) (he.Q9 hy)⟩⟩
 ·obtain ⟨f', h1, h3⟩ := he.LB hid
  obtain ⟨q1, q2⟩ := hc.heap id g sz n e f' h1
  refine ⟨fun i hi => by rw [(h3 i hi).len]; exact q1 i hi, ?_⟩
  cases hm : μ id with
  | none => rw [hm] at q2; exact q2
  | some p =>
   obtain ⟨b, base⟩ := p
   rw [hm] at q2
   obtain ⟨o, r1, r2⟩ := q2
   refine ⟨o, r1, ?_⟩
   cases o with
   | cells cur e' z =>
    obtain ⟨r2, r3, r4, r5⟩ := r2
    refine ⟨r2, r3, r4, fun i j pv hi hj => ?_⟩
    obtain ⟨a, ha, hle⟩ := (h3 i hi).get hj
    obtain ⟨v, hv, P9⟩ := r5 i j a hi ha
    exact ⟨v, hv, he.VU (hle.VU P9)⟩
   | map es c =>
    obtain ⟨r2, r3⟩ := r2
    refine ⟨r2, fun i hi => ?_⟩
    obtain ⟨kp, vp, en, s1, s2, s3, s4⟩ := r3 i hi
    have hle := h3 i hi
    rw [s1] at hle
    exact ⟨kp, vp, en, hle.IK s2 s3, s2, s3, s4⟩
   | _ => exact r2.elim
 ·obtain ⟨fi, q1, _⟩ := he.LB hi
  obtain ⟨fj, q2, _⟩ := he.LB hj
  exact hc.ok.inj i j g sz n e fi g' cf n' e' fj b o o' q1 q2 h1 h3
theorem eJ.fr {l l' : List ak} (he : eJ l l') {μ0 μ : Mu} {h0 : List ak} {S0 S : Nat → Prop} {w0 w : World} (hF : Fr μ0 h0 S0 w0 μ l S w) : Fr μ0 h0 S0 w0 μ l' S w := by
 refine ⟨by rw [← he.len]; exact hF.len, hF.blocks, hF.sub, hF.new, fun b hb => hF.own b (he.yR hb), hF.size, hF.os, hF.tape, hF.output, fun id g sz n e f hid => ?_, fun id hid => he.getD (hF.dead id hid), hF.bX, fun id g sz n e f b base hj hm oC => ?_, hF.vO⟩
 rotate_left
 ·obtain ⟨r1, r2⟩ := hF.maps id g sz n e f b base hj hm oC
  refine ⟨r1, ?_⟩
  rcases r2 with r2 | ⟨⟨g', cf, n', e', f', r2⟩, r3⟩
  ·exact .inl (he.getD r2)
  ·obtain ⟨f2, h1, _⟩ := he.get r2
   exact .inr ⟨⟨_, _, _, _, _, h1⟩, r3⟩
 have hg := hF.B4 id g sz n e f hid
 cases ho : l[id]? with
 | none => rw [ho] at hg; exact hg.elim
 | some o =>
  cases o with
  | dead => rw [he.getD ho]; trivial
  | row g' cf n' e' f' =>
   obtain ⟨f2, h1, _⟩ := he.get ho
   rw [ho] at hg
   rw [h1]
   exact hg
section
variable {P : Program} {T : pr} {μ : Mu} {h : List ak} {S : Nat → Prop} {w : World}
def gQ (P : Program) (o : Oper) (a : Act) (μ : Mu) (h : List ak) (S : Nat → Prop) (w : World) (K : PV → List ak → Prop) : Prop :=
 ∀ (next : Act → World → Prop) (Q : Exit → Act → World → Prop),
  (∀ v val h' μ' S' w', K v h' → bN μ' h' S' w' v val → Core μ' h' S' w' → Fr μ h S w μ' h' S' w' → next (a.put o.dst val) w') → o.wp P a w next Q
theorem gQ.rows {o : Oper} {a : Act} {K : PV → List ak → Prop} (hA : gQ P o a μ h S w (fun v h1 => ∃ h2, eJ h1 h2 ∧ K v h2)) : gQ P o a μ h S w K := by
 intro next Q hn
 refine hA next Q fun v val h' μ' S' w' ⟨h2, he, hK⟩ hv hc hf => ?_
 exact hn v val h2 μ' S' w' hK (he.acK hv) (he.core hc) (he.fr hf)
theorem gQ.rM {o : Oper} {a : Act} {K : PV → List ak → Prop} (hc : Core μ h S w) (hs : dV P o a μ h S w (fun v => K v h)) : gQ P o a μ h S w K := by
 obtain ⟨v, val, hK, hv, hr⟩ := hs
 intro next Q hn
 unfold Oper.wp
 rw [hr w (cP.refl w)]
 exact hn v val h μ S w hK hv hc Fr.refl
theorem gQ.jI {o : Oper} {a : Act} {K : PV → List ak → Prop} {v : PV} {val : Value} {h' : List ak} {μ' : Mu} {S' : Nat → Prop} {w' : World} (hr : (execOp a.eval o).run P w = .ok (.value val) w') (hK : K v h') (hv : bN μ' h' S' w' v val)
  (hc : Core μ' h' S' w') (hf : Fr μ h S w μ' h' S' w') : gQ P o a μ h S w K := by
 intro next Q hn
 unfold Oper.wp
 rw [hr]
 exact hn v val h' μ' S' w' hK hv hc hf
theorem gQ.Kx {o : Oper} {a : Act} {K : PV → List ak → Prop} {h' : List ak} {μ' : Mu} {S' : Nat → Prop} {w' : World} (hr : (execOp a.eval o).run P w = .ok .skip w') (hK : K .iZ h')
  (hc : Core μ' h' S' w') (hf : Fr μ h S w μ' h' S' w') : gQ P o a μ h S w K := by
 intro next Q hn
 unfold Oper.wp
 rw [hr]
 exact hn .iZ undef h' μ' S' w' hK trivial hc hf
theorem Ra (hT : dJ P T) {t : Nat} {n : Nat} (hn : lJ (T.get t) = n) (LC : 0 < n) : ∃ i, P.info? t = some i ∧ i.size = n := by
 cases gY : T.get t with
 | struct sz fl z =>
  obtain ⟨fs, i, _, hi, jl, _⟩ := hT.struct _ _ _ _ gY
  rw [gY] at hn
  exact ⟨i, hi, jl.trans hn⟩
 | other => rw [gY] at hn; simp [lJ] at hn; omega
 | _ =>
  rw [gY] at hn
  have h1 : n = 1 := hn.symm
  subst h1
  refine hT.one t ?_ ?_
  ·rw [gY]; rfl
  ·intro sz fl z hh; rw [gY] at hh; cases hh
variable {a : Act} {env : Env} {K : PV → List ak → Prop} {dst : Option Tmp} {ty : TypeId} {pos : String} {after : Array Edge} {guard : Option (Nat × Bool)}
theorem wC (cur vs : List Value) (o q : Nat) (hl : o + vs.length ≤ cur.length) :
  (cur.take o ++ vs ++ cur.drop (o + vs.length))[q]? = if o ≤ q ∧ q < o + vs.length then vs[q - o]? else cur[q]? := by
 have h1 : (cur.take o).length = o := by simp; omega
 by_cases ha : q < o
 ·rw [if_neg ahw, aeG, aew ahw, afk, if_pos ha]
 ·by_cases hb : q < o + vs.length
  ·rw [if_pos ⟨by omega, hb⟩, aew ahC, aen ahw, h1]
  ·rw [if_neg ahw, aen ahC, aeV]
   congr 1
   simp
   omega
theorem Hm (hT : dJ P T) (hc : Core μ h S w) (ht : ∀ t, bN μ h S w (env t) (a.tmps.getD t undef)) (t : Nat) (ad x : Operand) (hp : pop P T (.store t ad x) env h K) :
  gQ P ⟨dst, .store t ad x, ty, pos, after, guard⟩ a μ h S w K := by
 have hx := bY ht x
 have xz := bY ht ad
 simp only [pop] at hp
 split at hp
 ·rename_i id gen i off hea
  rw [hea] at xz
  split at hp
  ·rename_i g sz n e f hg
   obtain ⟨rfl, hp⟩ := hp
   replace hp := bF (cp hp)
   obtain ⟨qB, hK⟩ := hp
   simp only [so] at qB
   obtain ⟨⟨⟨wW, LC⟩, hty⟩, hle⟩ := qB
   have LC := ael LC
   have hty := adW hty
   have hle := ael hle
   have hh := fH hg
   have hr := xz.um
   unfold cc at hr
   rw [hh] at hr
   obtain ⟨_, _, hr⟩ := hr
   obtain ⟨NL, b, base, iL, Ja, hav⟩ := hr rfl
   obtain ⟨hl, lk⟩ := hc.heap id g sz n e f hh
   rw [iL] at lk
   obtain ⟨cur, pV, wz, bw⟩ := cH.cells Ja lk
   obtain ⟨hvl, hvc⟩ := ng wW hx
   have hso : ∀ (j : Nat) (pv : PV), (cellsOf (ev env x))[j]? = some pv → ef pv = false := fun j pv hj => Jd wW hj
   generalize H6 : cellsOf (ev env x) = cs at *
   generalize SI : (a.eval x).cells.toList = vs at *
   have LC : 0 < cs.length := by omega
   obtain ⟨inf, mG, qk⟩ := Ra hT hty LC
   have hmul : (i + 1) * sz ≤ n * sz := aek _ NL
   rw [aeu] at hmul
   have lV : (storeCells ⟨b, base + i * sz + off, none⟩ vs 0).run P w = .ok () (w.setRow b (cur.toList.take (base + i * sz + off + 0) ++ vs ++ cur.toList.drop (base + i * sz + off + 0 + vs.length)).toArray) :=
    run_storeCells_at P b (base + i * sz + off) e vs 0 cur w pV ahw (fun v hv => by
     obtain ⟨j, hj, rfl⟩ := aeM.1 hv
     have LD : j < cs.length := by omega
     obtain ⟨u, hu, hr⟩ := hvc j cs[j] (Is LD)
     rw [Is hj] at hu
     injection hu with hu
     rw [hu]
     exact hr.one)
   rw [aeO] at lV
   have Ky : ∀ k, (bx f i (gA (f i) off cs) k) = if k = i then gA (f i) off cs else f k := fun k => by
    unfold bx
    by_cases hk : k = i
    ·subst hk; simp
    ·have : Nat.beq k i = false := by
      cases hb : Nat.beq k i with
      | true => exact (hk (adW hb)).elim
      | false => rfl
     simp [this, hk]
   have pW := xC (w1 := w.setRow b (cur.toList.take (base + i * sz + off) ++ vs ++ cur.toList.drop (base + i * sz + off + vs.length)).toArray) hc id g g sz n n e f (bx f i (gA (f i) off cs)) hh b base
    (cur.toList.take (base + i * sz + off) ++ vs ++ cur.toList.drop (base + i * sz + off + vs.length)).toArray (adV _) (fun _ => ⟨iL, rfl⟩)
    (.inr ⟨base, cur, iL, pV, by simp; omega⟩) (setRow_heap w b cur _ e _ pV) ahC
    (fun b' _ rZ => setRow_other w b b' _ rZ) ahy rfl rfl rfl
    (fun k hk => by
     rw [Ky]
     split
     ·rename_i yQ; subst yQ; rw [nf]; exact hl _ hk
     ·exact hl k hk)
    (fun b' rK Hk => by rw [iL] at Hk; injection Hk with Hk; injection Hk with h1 _; subst h1; exact Ja.Fs)
    (fun k j pv hk hj => by
     have I8 : j < sz := by
      have h1 := (An.1 hj).1
      rw [Ky] at h1
      split at h1
      ·rw [nf, hl i NL] at h1; exact h1
      ·rw [hl k hk] at h1; exact h1
     have Rb : (cur.toList.take (base + i * sz + off) ++ vs ++ cur.toList.drop (base + i * sz + off + vs.length)).toArray[base + k * sz + j]? = if base + i * sz + off ≤ base + k * sz + j ∧ base + k * sz + j < base + i * sz + off + vs.length then vs[base + k * sz + j - (base + i * sz + off)]? else cur[base + k * sz + j]? := by
      have UK := wC cur.toList vs (base + i * sz + off) (base + k * sz + j) ahC
      rw [afF, UK]
      simp only [aes]
     rw [Rb]
     rw [Ky] at hj
     by_cases yQ : k = i
     ·subst yQ
      rw [if_pos rfl, qA cs (f k) off j (by rw [hl k hk]; exact hle)] at hj
      by_cases hr : off ≤ j ∧ j < off + cs.length
      ·rw [if_pos hr] at hj
       rw [if_pos ahw]
       obtain ⟨u, hu, nH⟩ := hvc _ _ hj
       exact ⟨u, by rw [← hu]; congr 1; omega, nH.k (hso _ _ hj)⟩
      ·rw [if_neg hr] at hj
       rw [if_neg ahw]
       exact bw k j pv hk hj
     ·rw [if_neg yQ] at hj
      have Ou : ¬ (base + i * sz + off ≤ base + k * sz + j ∧ base + k * sz + j < base + i * sz + off + vs.length) := by
       rcases Nat.lt_or_gt_of_ne yQ with bO | DN
       ·have : (k + 1) * sz ≤ i * sz := aek _ bO
        rw [aeu] at this
        omega
       ·have : (i + 1) * sz ≤ k * sz := aek _ DN
        rw [aeu] at this
        omega
      rw [if_neg Ou]
      exact bw k j pv hk hj) 0 (fun k j cf n' e' f' F' hk hj => by
    rw [adX]
    refine ⟨hk, ?_⟩
    rw [Ky] at hj
    by_cases yQ : k = i
    ·subst yQ
     rw [if_pos rfl, qA cs (f k) off j (by rw [hl k hk]; exact hle)] at hj
     by_cases hr : off ≤ j ∧ j < off + cs.length
     ·rw [if_pos hr] at hj
      have := hso _ _ hj
      cases this
     ·rw [if_neg hr] at hj; exact hj
    ·rw [if_neg yQ] at hj; exact hj)
   obtain ⟨lW, tt⟩ := pW
   obtain ⟨_, f', rfl, AW, hK⟩ := hK
   refine gQ.rows (gQ.Kx ?_ ⟨_, eJ.set _ _ _ _ _ _ _ _ AW, hK⟩ tt lW)
   have e1 : (execOp a.eval ⟨dst, .store t ad x, ty, pos, after, guard⟩) = (do Instr.storeAt t (a.eval ad) (a.eval x); pure .skip : Sem Next) := rfl
   rw [e1, hav]
   have jl : ¬ (a.eval x).cells.size ≠ inf.size := by
    rw [qk]
    simp only [ne_eq, afK]
    rw [← hvl, ← SI]
    simp
   simp only [Instr.storeAt, Instr.sureAddr, storeVar, Sem.run_bind, Sem.run_pure, Result.andThen, l6 mG, if_neg jl, SI, lV]
  ·exact agR
 ·exact agR
theorem Df (z : Array Value) (n q : Nat) (hq : q < n) (hz : 0 < z.size) : (madeCells z n)[q]? = z[q % z.size]? := by
 have h1 : q % z.size < z.size := afN _ hz
 simp [madeCells, hq, h1]
theorem Rc (i j sz : Nat) (hj : j < sz) : (i * sz + j) % sz = j := by
 rw [Nat.mul_comm, Nat.mul_add_mod]; exact afD hj
theorem mz (w : World) (o : Obj) : cP w (w.alloc o) :=
 ⟨fun b hb => Below.heap_alloc w o b hb, by simp, rfl, rfl, rfl⟩
theorem Jh (hT : dJ P T) (hc : Core μ h S w) (ht : ∀ t, bN μ h S w (env t) (a.tmps.getD t undef)) (t : Nat) (l c : Operand) (hp : pop P T (.makeSlice t l c) env h K) :
  gQ P ⟨dst, .makeSlice t l c, ty, pos, after, guard⟩ a μ h S w K := by
 have hl := bY ht l
 have iY := bY ht c
 simp only [pop] at hp
 split at hp
 ·rename_i e sz bytes zero k n k' m gY hel hec
  rw [hel] at hl
  rw [hec] at iY
  obtain ⟨⟨h0, h1, h2, h3⟩, _, f', rfl, AW, hK⟩ := hp
  obtain ⟨hu, jl, inf, zv, mG, qk, SM, hz, Qj, Qk, Oo⟩ := hT.slice _ _ _ _ _ gY
  subst qk SM
  have hm : (inf.bytes : Int) * m ≤ 281474976710656 := by
   have e1 : (m.toNat : Int) = m := Int.toNat_of_nonneg ahw
   have e2 : ((m.toNat * inf.bytes : Nat) : Int) ≤ 140737488355328 := by omega
   rw [Int.natCast_mul, e1, Int.mul_comm] at e2
   omega
  have lV := run_make (P := P) w t e inf zv hu mG hz k k' n m h0 h1 hm ahw
  have pW := rL (w1 := w.alloc (.cells (madeCells zv.cells (m.toNat * inf.size)) e)) hc inf.size n.toNat e (fun _ => zero) (some (w.heap.size, 0))
   ⟨adV _, _, heap_alloc_new w _, by
    rw [size_madeCells, adX]
    exact aek _ ahw, fun i j pv hi hj => by
    have I8 : j < inf.size := by rw [← Qk]; exact (An.1 hj).1
    have bO : 0 + i * inf.size + j < m.toNat * inf.size := by
     have : (i + 1) * inf.size ≤ m.toNat * inf.size := aek _ ahw
     rw [aeu] at this
     omega
    rw [Df _ _ _ bO ahw, adX, Qj, Rc i j _ I8]
    have Mr : j < zv.cells.size := by omega
    obtain ⟨fR, h5, _, h6⟩ := Oo j zv.cells[j] (aeq Mr)
    rw [hj] at h5
    injection h5 with h5
    subst h5
    exact ⟨_, aeq Mr, bZ.kG (h6 S w)⟩⟩ (mz w _) (fun i hi => Qk) (fun i j pv _ hj => by
  have Mr : j < zv.cells.size := by have := (An.1 hj).1; omega
  obtain ⟨fR, h5, _, h6⟩ := Oo j zv.cells[j] (aeq Mr)
  rw [hj] at h5; injection h5 with h5; rw [h5]; exact aV.no (h6 S w))
  obtain ⟨lW, tt⟩ := pW
  refine gQ.rows (gQ.jI (dr rfl (by rw [hl.lC, iY.lC]; exact lV)) ⟨_, eJ.snoc _ _ _ _ _ _ _ AW, hK⟩ ?_ tt lW)
  show bL _ _ _ _ _ _ _ _
  unfold bL
  rw [aen (adV _), aeR]
  refine ⟨⟨_, _, _, rfl⟩, adV _, fun _ => ⟨by omega, ?_⟩⟩
  rw [cr]
  refine ⟨_, m.toNat, rfl, by omega, fun _ => by simp, _, e, heap_alloc_new w _, ?_⟩
  rw [size_madeCells]
  simp
 ·exact agR
theorem Hn (sz len : Nat) (place : Nat → Option (Nat × Nat)) (Ow : ∀ i, place i = some (i * sz, sz)) : ∀ (l : List (Nat × Operand)) (ρ : Operand → Value) (k : Nat) (cells : Array Value), zV len k l = true → cells.size = len * sz →
  (∀ p ∈ l, (ρ p.2).cells.size = sz) →
  ∃ jH, Instr.fill place cells (l.map fun p => (p.1, ρ p.2)) = some jH ∧ jH.size = len * sz ∧ (∀ q, q < k * sz → jH[q]? = cells[q]?) ∧
   ∀ (i j : Nat) (p : Nat × Operand), l[i]? = some p → j < sz → jH[(k + i) * sz + j]? = (ρ p.2).cells[j]?
 | [], ρ, k, cells, hi, hs, _ => ⟨cells, rfl, hs, fun _ _ => rfl, fun i j p hp => by simp at hp⟩
 | (i0, x) :: r, ρ, k, cells, hi, hs, hv => by
  simp only [zV, so] at hi
  have Zx := adW hi.1
  subst Zx
  have hlen : ∀ (l : List (Nat × Operand)) (k : Nat), zV len k l = true → k ≤ len := by
   intro l
   induction l with
   | nil => intro k h; exact Nat.le_of_eq (adW h)
   | cons p l ih =>
    intro k h
    obtain ⟨a, b⟩ := p
    simp only [zV, so] at h
    have := ih (k + 1) h.2
    omega
  have hk := hlen r (i0 + 1) hi.2
  have hvx := hv (i0, x) ahy
  have xE : (i0 + 1) * sz ≤ len * sz := aek _ hk
  have VV := xE
  rw [aeu] at VV
  obtain ⟨g1, g2⟩ := tq (ρ x) (i0 * sz) cells (by rw [hvx]; omega)
  obtain ⟨jH, h1, h2, h3, h4⟩ := Hn sz len place Ow r ρ (i0 + 1) _ hi.2 (g1.trans hs) (fun p hp => hv p (by simp [hp]))
  refine ⟨jH, ?_, h2, fun q hq => ?_, fun i j p hp hj => ?_⟩
  ·simp only [aec, Instr.fill, Ow]
   rw [if_neg (by simp only [hvx, ne_eq, not_true_eq_false, false_or]; simp only [aeD, decide_eq_true_eq, not_or]; simp; omega)]
   exact h1
  ·rw [h3 q (by rw [aeu]; omega), g2 q, if_neg ahw]
  ·cases i with
   | zero =>
    simp at hp
    subst hp
    rw [aeO, h3 _ (by rw [aeu]; omega), g2, hvx, if_pos ahw]
    congr 1
    omega
   | succ i =>
    simp at hp
    have := h4 i j p hp hj
    rw [show i0 + 1 + i = i0 + (i + 1) from by omega] at this
    exact this
theorem yS (hT : dJ P T) (hc : Core μ h S w) (ht : ∀ t, bN μ h S w (env t) (a.tmps.getD t undef)) (t len : Nat) (parts : Array (Nat × Operand)) (hp : pop P T (.buildSlice t len parts) env h K) :
  gQ P ⟨dst, .buildSlice t len parts, ty, pos, after, guard⟩ a μ h S w K := by
 simp only [pop] at hp
 split at hp
 ·rename_i e sz bytes zero gY
  replace hp := bF hp
  obtain ⟨qB, hK⟩ := hp
  obtain ⟨hu, jl, inf, zv, mG, qk, SM, hz, Qj, Qk, Oo⟩ := hT.slice _ _ _ _ _ gY
  subst qk
  simp only [so] at qB
  obtain ⟨Rb, hle⟩ := qB
  have hle := ael hle
  obtain ⟨mh, hK⟩ := zW _ _ hK
  simp only [afO, aeQ] at hK
  have lk : ∀ p ∈ parts.toList, (a.eval p.2).cells.size = inf.size ∧ (cellsOf (ev env p.2)).length = inf.size ∧
    ∀ (j : Nat) (q : PV), (cellsOf (ev env p.2))[j]? = some q → ∃ u, (a.eval p.2).cells[j]? = some u ∧ bZ μ h S w q u := fun p hp => by
   obtain ⟨h1, h2⟩ := mh p hp
   have h2 := adW h2
   obtain ⟨h3, h4⟩ := ng h1 (bY ht p.2)
   simp only [aeL, aes] at h3 h4
   exact ⟨h3.trans h2, h2, h4⟩
  obtain ⟨jH, f1, f2, _, f4⟩ := Hn inf.size len (fun i => some (i * inf.size, inf.size)) (fun _ => rfl) parts.toList a.eval 0
   ((Array.range (len * inf.size)).map (fun q => (if len * inf.size = 0 then #[] else zv.cells)[q % (if len * inf.size = 0 then #[] else zv.cells).size]!)) Rb ahy (fun p hp => (lk p hp).1)
  have hlen : parts.toList.length = len := by
   have key : ∀ (l : List (Nat × Operand)) (k : Nat), zV len k l = true → k + l.length = len := by
    intro l
    induction l with
    | nil => intro k hh; exact adW hh
    | cons p l ih =>
     intro k hh
     obtain ⟨x, y⟩ := p
     simp only [zV, so] at hh
     have := ih (k + 1) hh.2
     simp only [As]
     omega
   have := key parts.toList 0 Rb
   omega
  have dk : ∀ i, i < len → ∃ p, parts.toList[i]? = some p ∧ p ∈ parts.toList ∧ (parts.toList.map fun p => cellsOf (ev env p.2)).getD i [] = cellsOf (ev env p.2) := fun i hi => by
   have Ji : i < parts.toList.length := by omega
   refine ⟨parts.toList[i], Is Ji, aee Ji, ?_⟩
   rw [adY, aem, Is Ji]
   rfl
  have pW := rL (w1 := w.alloc (.cells jH e)) hc inf.size len e (fun k => (parts.toList.map fun p => cellsOf (ev env p.2)).getD k []) (some (w.heap.size, 0))
   ⟨adV _, jH, heap_alloc_new w _, by omega, fun i j pv hi hj => by
    obtain ⟨p, NC, Mj, SN⟩ := dk i hi
    rw [SN] at hj
    obtain ⟨_, q2, q3⟩ := lk p Mj
    have I8 : j < inf.size := by rw [← q2]; exact (An.1 hj).1
    have := f4 i j p NC I8
    rw [adX] at this
    obtain ⟨u, Mq, Kt⟩ := q3 j pv hj
    exact ⟨u, by rw [← Mq, ← this, adX], Kt⟩⟩ (mz w _)
   (fun i hi => by
    obtain ⟨p, NC, Mj, SN⟩ := dk i hi
    rw [SN]
    exact (lk p Mj).2.1) (fun i j pv hi hj => by
    obtain ⟨p, NC, Mj, SN⟩ := dk i hi
    rw [SN] at hj
    exact Jd (mh p Mj).1 hj)
  obtain ⟨lW, tt⟩ := pW
  obtain ⟨f', AW, hK⟩ := hK
  refine gQ.rows (gQ.jI (val := .slice (some ⟨w.heap.size, 0, none⟩) len len) (dr rfl ?_) ⟨_, eJ.snoc _ _ _ _ _ _ _ AW, hK⟩ ?_ tt lW)
  ·have VW : (parts.map fun p => (p.1, a.eval p.2)).toList = parts.toList.map fun p => (p.1, a.eval p.2) := by simp
   have hn : ¬ (16777216 < len * inf.size) := by omega
   have Kz : Instr.fill (fun i => some (i * inf.size, inf.size)) (Array.map (fun x => (if len * inf.size = 0 then #[] else zv.cells)[x % (if len * inf.size = 0 then #[] else zv.cells).size]!) (Array.range (len * inf.size))) (parts.map fun p => (p.1, a.eval p.2)).toList = some jH := by
    rw [VW]; exact f1
   by_cases h0 : len * inf.size = 0
   ·simp [h0] at Kz
    simp only [Instr.buildSlice, Sem.run_bind, run_underlying hu, Result.andThen, l6 mG]
    simp [h0, newRow]
    rw [Kz]
    rfl
   ·simp [h0] at Kz
    simp only [Instr.buildSlice, Sem.run_bind, run_underlying hu, Result.andThen, l6 mG]
    simp [h0, hn, newRow, zeroValue, typeInfo, mG, hz]
    rw [Kz]
    rfl
  ·show bL _ _ _ _ _ _ _ _
   unfold bL
   rw [aen (adV _), aeR]
   refine ⟨⟨_, _, _, rfl⟩, adV _, fun _ => ⟨by omega, ?_⟩⟩
   rw [cr]
   exact ⟨_, len, rfl, adV _, fun _ => by simp, jH, e, heap_alloc_new w _, by rw [adX, adX]; omega⟩
 ·exact agR
theorem LF (hc : Core μ h S w) (ht : ∀ t, bN μ h S w (env t) (a.tmps.getD t undef)) (t : Nat) (x : Operand) (hp : pop P T (.box t x) env h K) :
  gQ P ⟨dst, .box t x, ty, pos, after, guard⟩ a μ h S w K := by
 simp only [pop] at hp
 replace hp := bF (cp hp)
 obtain ⟨qB, hK⟩ := hp
 simp only [so] at qB
 obtain ⟨wW, hlen⟩ := qB
 have hlen := adW hlen
 obtain ⟨h3, h4⟩ := ng wW (bY ht x)
 simp only [aeL, aes] at h3 h4
 have pW := rL (w1 := w.alloc (.cells (a.eval x).cells t)) hc (lJ (T.get t)) 1 t (fun _ => cellsOf (ev env x)) (some (w.heap.size, 0))
  ⟨adV _, _, heap_alloc_new w _, by omega, fun i j pv hi hj => by
   obtain ⟨u, hu, hr⟩ := h4 j pv hj
   have : i = 0 := by omega
   subst this
   exact ⟨u, by rw [← hu]; congr 1; omega, hr⟩⟩ (mz w _) (fun i hi => hlen) (fun i j pv _ hj => Jd wW hj)
 obtain ⟨lW, tt⟩ := pW
 refine gQ.jI (val := .pointer (some ⟨w.heap.size, 0, none⟩)) (dr rfl ?_) hK ?_ tt lW
 ·simp [Instr.box, newVar, newRow]
 ·show cc _ _ _ _ _ _ _ _
  unfold cc
  rw [aen (adV _), aeR]
  refine ⟨⟨_, rfl⟩, adV _, fun _ => ⟨by omega, w.heap.size, 0, cr _ _ _, ⟨_, _, heap_alloc_new w _, aeo _⟩, ?_⟩⟩
  simp
theorem Ho (hT : dJ P T) (hc : Core μ h S w) (t : Nat) (hp : pop P T (.alloc t) env h K) :
  gQ P ⟨dst, .alloc t, ty, pos, after, guard⟩ a μ h S w K := by
 simp only [pop] at hp
 split at hp
 ·rename_i z gY
  obtain ⟨i, zv, hi, hz, Qj, Qk, Oo⟩ := hT.zero t z gY
  generalize jl : lJ (T.get t) = sz at *
  have pW := rL (w1 := w.alloc (.cells zv.cells t)) hc sz 1 t (fun _ => z) (some (w.heap.size, 0))
   ⟨adV _, _, heap_alloc_new w _, by omega, fun i j pv hi hj => by
    have Mr : j < zv.cells.size := by
     have := (An.1 hj).1
     omega
    obtain ⟨fR, h5, _, h6⟩ := Oo j zv.cells[j] (aeq Mr)
    rw [hj] at h5
    injection h5 with h5
    subst h5
    have : i = 0 := by omega
    subst this
    exact ⟨_, by rw [← aeq Mr]; congr 1; omega, bZ.kG (h6 S w)⟩⟩ (mz w _) (fun i hi => Qk) (fun i j pv _ hj => by
  have Mr : j < zv.cells.size := by have := (An.1 hj).1; omega
  obtain ⟨fR, h5, _, h6⟩ := Oo j zv.cells[j] (aeq Mr)
  rw [hj] at h5; injection h5 with h5; rw [h5]; exact aV.no (h6 S w))
  obtain ⟨lW, tt⟩ := pW
  refine gQ.jI (val := .pointer (some ⟨w.heap.size, 0, none⟩)) (dr rfl ?_) hp ?_ tt lW
  ·simp [Instr.alloc, zeroValue, typeInfo, hi, hz, newVar, newRow]
  ·show cc _ _ _ _ _ _ _ _
   unfold cc
   rw [aen (adV _), aeR]
   refine ⟨⟨_, rfl⟩, adV _, fun _ => ⟨by omega, w.heap.size, 0, cr _ _ _, ⟨_, _, heap_alloc_new w _, aeo _⟩, ?_⟩⟩
   simp
 ·exact agR
end
end Go.Am
