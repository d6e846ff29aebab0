/- Texts of the proof, joined and shortened. -/
import Derived.Test.YtalfppmpmnlnlaaGreatDoorPk0
import Derived.WalkLawsBesides
set_option linter.unusedVariables false
set_option linter.unusedSimpArgs false
namespace Go.Am
open Go Go.RowKit
def A2 : TypeDesc → Bool
 | .struct _ => true
 | .array _ _ => true
 | _ => false
def jy (P : Program) : Nat → List Field → List PV → Bool
 | _, [], [] => true
 | n, f :: r, .int k _ :: z => f.name != "_" && Nat.beq f.offset n && (match P.underlying f.type with | some (.int k') => qM k k' | _ => false) && jy P (n + 1) r z
 | n, f :: r, .bool _ :: z => f.name != "_" && Nat.beq f.offset n && (match P.underlying f.type with | some .bool => true | _ => false) && jy P (n + 1) r z
 | n, f :: r, .str _ :: z => f.name != "_" && Nat.beq f.offset n && (match P.underlying f.type with | some .string => true | _ => false) && jy P (n + 1) r z
 | _, _, _ => false
def ER (P : Program) (t : Nat) (z : List PV) : Bool := match P.underlying t with
 | some (.struct fs) => !(P.stoodInHeld t) && !(P.eqGuardType P.depth t) && jy P 0 fs.toList z
 | _ => false
structure di (P : Program) (T : oO) : Prop where
 flat : ∀ t sz fl z, T.get t = .struct sz fl z → yR z = true → ER P t z = true
 int : ∀ t k, T.get t = .int k → P.underlying t = some (.int k)
 bool : ∀ t, T.get t = .bool → P.underlying t = some .bool
 str : ∀ t, T.get t = .str → P.underlying t = some .string
 ptr : ∀ t e, T.get t = .ptr e → P.underlying t = some (.pointer e)
 slice : ∀ t e sz Oc z, T.get t = .slice e sz Oc z → P.underlying t = some (.slice e) ∧ 0 < sz ∧ ∃ i zv, P.info? e = some i ∧ i.size = sz ∧ i.bytes = Oc ∧ i.zero = some zv ∧ zv.cells.size = sz ∧ z.length = sz ∧
  ∀ (j : Nat) (u : Value), zv.cells[j]? = some u → ∃ pv : PV, z[j]? = some pv ∧ u.oneCell' = true ∧ ∀ S w, aT S w pv u
 map : ∀ t k e z, T.get t = .map k e z → P.underlying t = some (.map k e) ∧ ∃ i zv, P.info? e = some i ∧ i.zero = some zv ∧ qN z zv ∧ j4 z = true ∧ storable z = true
 bytes : ∀ t e sz Oc z, T.get t = .slice e sz Oc z → 0 < Oc
 one : ∀ t, kW (T.get t) = 1 → (∀ sz fl z, T.get t ≠ .struct sz fl z) → ∃ i, P.info? t = some i ∧ i.size = 1
 zero : ∀ t z, A3 (T.get t) = some z → ∃ i zv, P.info? t = some i ∧ i.zero = some zv ∧ zv.cells.size = kW (T.get t) ∧ z.length = kW (T.get t) ∧
  ∀ (j : Nat) (u : Value), zv.cells[j]? = some u → ∃ pv : PV, z[j]? = some pv ∧ u.oneCell' = true ∧ ∀ S w, aT S w pv u
 struct : ∀ t sz fl z, T.get t = .struct sz fl z → ∃ fs i, P.underlying t = some (.struct fs) ∧ P.info? t = some i ∧ i.size = sz ∧ fl.length = fs.size ∧
  (∃ zv, i.zero = some zv ∧ zv.cells.size = sz ∧ z.length = sz ∧ ∀ (j : Nat) (u : Value), zv.cells[j]? = some u → ∃ pv : PV, z[j]? = some pv ∧ u.oneCell' = true ∧ ∀ S w, aT S w pv u) ∧
  ∀ (k : Nat) (off size : Nat) (ag : Bool), fl[k]? = some (off, size, ag) → ∃ f j d, fs[k]? = some f ∧ f.offset = off ∧ P.info? f.type = some j ∧ j.size = size ∧ 0 < size ∧
   P.underlying f.type = some d ∧ ag = A2 d
section
variable {P : Program} {T : oO} {μ : Mu} {h : List aj} {S : Nat → Prop} {w : World}
theorem bG.kO {k : IntKind} {n : Int} {v : Value} (hv : bG μ h S w (.int k n) v) : v = .int k n := by
 have hv : aT S w (.int k n) v := hv
 cases hv; rfl
theorem bG.mD {b : Bool} {v : Value} (hv : bG μ h S w (.bool b) v) : v = .bool b := by
 have hv : aT S w (.bool b) v := hv
 cases hv; rfl
theorem bG.mE {s : List UInt8} {v : Value} (hv : bG μ h S w (.str s) v) : v = .string ⟨⟨s⟩⟩ := by
 have hv : aT S w (.str s) v := hv
 cases hv; rfl
theorem bG.rj {v : Value} (hv : bG μ h S w .aO v) : v = .slice none 0 0 := by
 have hv : aT S w .aO v := hv
 cases hv; rfl
theorem bG.Od {f : Nat} {v : Value} (hv : bG μ h S w (.fn f) v) : v = .func (.func f) #[] #[] := by
 have hv : aT S w (.fn f) v := hv
 cases hv; rfl
theorem bG.uo {sz n : Nat} {f : Nat → List PV} {v : Value} (hv : bG μ h S w (.fM sz n f) v) :
  (∃ a c, v = .slice a n c ∧ n = 0) ∨ ∃ (b off c : Nat) (vf : Nat → Nat → Value), v = .slice (some ⟨b, off, none⟩) n c ∧ S b ∧ (∀ i, i < n → (f i).length = sz) ∧ n ≤ c ∧
   (∀ (i j : Nat) (pv : PV), i < n → (f i)[j]? = some pv → w.cell? ⟨b, off + i * sz + j, none⟩ = some (vf i j)) ∧ (∀ (i j : Nat) (pv : PV), i < n → (f i)[j]? = some pv → aT S w pv (vf i j)) := by
 have hv : aT S w (.fM sz n f) v := hv
 cases hv with
 | p6 _ _ a c => exact .inl ⟨a, c, rfl, rfl⟩
 | fM _ _ _ b off c vf h1 h2 h3 h4 h5 => exact .inr ⟨b, off, c, vf, rfl, h1, h2, h3, h4, h5⟩
theorem bG.wF {cs : List PV} {v : Value} (hv : bG μ h S w (.fx cs) v) :
  ∃ (b off : Nat) (vf : Nat → Value), v = .pointer (some ⟨b, off, none⟩) ∧ S b ∧ (∀ (j : Nat) (pv : PV), cs[j]? = some pv → w.cell? ⟨b, off + j, none⟩ = some (vf j)) ∧ (∀ (j : Nat) (pv : PV), cs[j]? = some pv → aT S w pv (vf j)) := by
 have hv : aT S w (.fx cs) v := hv
 cases hv with
 | fx _ b off vf h1 h4 h5 => exact ⟨b, off, vf, rfl, h1, h4, h5⟩
theorem Oe {v : Value} {p : PV} (h : VJ v = some p) : aT S w p v := by
 cases v with
 | int k n => cases h; exact aT.int k n
 | bool b => cases h; exact aT.bool b
 | string s =>
  obtain ⟨⟨l⟩⟩ := s
  cases h
  exact aT.str l
 | slice a n c =>
  cases a with
  | none =>
   cases n with
   | zero =>
    cases c with
    | zero => cases h; exact aT.aO
    | succ c => cases h
   | succ n => cases h
  | some a => cases h
 | _ => cases h
theorem G7 : ∀ {vs : List Value} {l : List PV}, Lu vs = some l → vs.length = l.length ∧ ∀ (j : Nat) (pv : PV), l[j]? = some pv → ∃ u, vs[j]? = some u ∧ aT S w pv u
 | [], l, h => by
  cases h
  exact ⟨rfl, fun j pv hj => by simp at hj⟩
 | v :: r, l, h => by
  unfold Lu at h
  cases h1 : VJ v with
  | none => rw [h1] at h; cases h
  | some p =>
   cases h2 : Lu r with
   | none => rw [h1, h2] at h; cases h
   | some q =>
    rw [h1, h2] at h
    cases h
    obtain ⟨q1, q2⟩ := G7 h2
    refine ⟨by simp [q1], fun j pv hj => ?_⟩
    cases j with
    | zero => simp at hj; subst hj; exact ⟨v, rfl, Oe h1⟩
    | succ j => obtain ⟨u, r1, r2⟩ := q2 j pv agt; exact ⟨u, by simpa using r1, r2⟩
theorem G8 (v : Value) : bG μ h S w (ofValue v) v := by
 cases v with
 | int k n => exact aT.int k n
 | bool b => exact aT.bool b
 | string s =>
  obtain ⟨⟨l⟩⟩ := s
  exact aT.str l
 | slice a n c =>
  cases a with
  | none =>
   cases n with
   | zero =>
    cases c with
    | zero => exact aT.aO
    | succ c => trivial
   | succ n => trivial
  | some a => trivial
 | agg vs =>
  simp only [ofValue]
  cases hl : Lu vs.toList with
  | none => trivial
  | some l =>
   obtain ⟨q1, q2⟩ := G7 (S := S) (w := w) hl
   exact ⟨vs, rfl, by simpa using q1, fun j pv hj => by obtain ⟨u, r1, r2⟩ := q2 j pv hj; exact ⟨u, by simpa using r1, bR.j5 r2⟩⟩
 | _ => trivial
theorem bQ {env : Env} {a : Act} (ht : ∀ t, bG μ h S w (env t) (a.tmps.getD t undef)) (x : Operand) : bG μ h S w (ev env x) (a.eval x) := by
 cases x with
 | tmp t => exact ht t
 | const v => exact G8 v
 | global g => trivial
 | func f => exact aT.fn f
def dC (P : Program) (o : Oper) (a : Act) (μ : Mu) (h : List aj) (S : Nat → Prop) (w : World) (K : PV → Prop) : Prop :=
 ∃ v val, K v ∧ bG μ h S w v val ∧ ∀ w', cy w w' → (execOp a.eval o).run P w' = .ok (.value val) w'
theorem dC.mk {o : Oper} {a : Act} {K : PV → Prop} {v : PV} {val : Value} (hK : K v) (hv : bG μ h S w v val) (hr : ∀ w', cy w w' → (execOp a.eval o).run P w' = .ok (.value val) w') : dC P o a μ h S w K := ⟨v, val, hK, hv, hr⟩
variable {a : Act} {env : Env} {K : PV → Prop} {dst : Option Tmp} {ty : TypeId} {pos : String} {after : Array Edge} {guard : Option (Nat × Bool)}
theorem yS {s : Sem Value} {w' Of : World} {val : Value} (hs : s.run P w' = .ok val Of) : (do pure (Next.value (← s)) : Sem Next).run P w' = .ok (.value val) Of := by
 simp [hs]
theorem toList_mk (l : List UInt8) : (ByteArray.mk ⟨l⟩).toList = l := by
 have h : (ByteArray.mk ⟨l⟩).toList = (ByteArray.mk ⟨l⟩).data.toList := by simp
 rw [h]
theorem Kt {bo : BinOp} {t : TypeId} {x y : Operand} {u u' val : Value} {w' : World} (hg : eqGuard bo t x y u u' = pure ()) (hb : (binOp bo t u u').run P w' = .ok val w') :
  (do eqGuard bo t x y u u'; binOp bo t u u' : Sem Value).run P w' = .ok val w' := by
 rw [hg]
 simp [hb]
theorem rW {P : Program} {t : TypeId} {d : TypeDesc} (hu : P.underlying t = some d) (hd : A2 d = false) (cs : Array Value) (off : Nat) (v : Value) (hc : cs[off]? = some v) (w : World) : (part t cs off).run P w = .ok v w := by
 have : (isAgg t).run P w = .ok false w := by
  unfold isAgg
  simp only [Sem.run_bind, run_underlying hu, Result.andThen]
  cases d <;> first | rfl | cases hd
 simp [part, this, hc]
theorem ck {g q : Bool} {o : Option Bool} {b : Bool} (h : G9 g q o = some b) : g = true ∧ ∃ c, o = some c ∧ b = (q && c) := by
 cases o with
 | none => cases h
 | some c => cases g with
  | true => exact ⟨rfl, c, rfl, (aeq h).symm⟩
  | false => cases h
theorem qO {P : Program} {μ : Mu} {h : List aj} {S : Nat → Prop} {w w' : World} {xs ys : Array Value} (d : Nat) : ∀ (fs : List Field) (z QT Ku : List PV) (n : Nat) (b : Bool), jy P n fs z = true →
  (∀ (j : Nat) (pv : PV), QT[j]? = some pv → ∃ u, xs[n + j]? = some u ∧ bR μ h S w pv u) → (∀ (j : Nat) (pv : PV), Ku[j]? = some pv → ∃ u, ys[n + j]? = some u ∧ bR μ h S w pv u) →
  C8 z QT Ku = some b → (Op.eqFields (d + 1) xs ys fs).run P w' = .ok b w'
 | [], z, QT, Ku, n, b, hf, _, _, hk => by
  cases z with
  | nil =>
   cases QT with
   | nil => cases Ku with
    | nil => cases hk; rfl
    | cons _ _ => cases hk
   | cons _ _ => cases hk
  | cons _ _ => simp [jy] at hf
 | f :: fs, z, QT, Ku, n, b, hf, hx, hy, hk => by
  have go : ∀ (c1 c2 : PV) (v1 v2 : Value) (q c : Bool) (dd : TypeDesc) (z r r' : List PV), QT = c1 :: r → Ku = c2 :: r' → (∀ u, bR μ h S w c1 u → u = v1) → (∀ u, bR μ h S w c2 u → u = v2) → f.name ≠ "_" → f.offset = n → P.underlying f.type = some dd → A2 dd = false →
    (Op.equalIn (d + 1) f.type v1 v2).run P w' = .ok q w' → jy P (n + 1) fs z = true → C8 z r r' = some c → (Op.eqFields (d + 1) xs ys (f :: fs)).run P w' = .ok (q && c) w' := by
   intro c1 c2 v1 v2 q c dd z r r' e1 e2 hi1 hi2 Qn Zl hu hd hq hfs uO
   subst e1 e2
   obtain ⟨u1, Md, hr1⟩ := hx 0 c1 rfl
   obtain ⟨u2, FC, hr2⟩ := hy 0 c2 rfl
   obtain rfl := hi1 u1 hr1
   obtain rfl := hi2 u2 hr2
   have lq := qO (w' := w') d fs z r r' (n + 1) c hfs (fun j pv hj => by
     obtain ⟨u, q1, q2⟩ := hx (j + 1) pv agt
     exact ⟨u, by rw [← q1]; congr 1; omega, q2⟩) (fun j pv hj => by
     obtain ⟨u, q1, q2⟩ := hy (j + 1) pv agt
     exact ⟨u, by rw [← q1]; congr 1; omega, q2⟩) uO
   have p1 := rW hu hd xs f.offset u1 (by rw [Zl]; exact Md) w'
   have p2 := rW hu hd ys f.offset u2 (by rw [Zl]; exact FC) w'
   unfold Op.eqFields
   rw [if_pos Qn]
   simp only [Sem.run_bind, p1, p2, hq, Result.andThen_ok]
   cases q with
   | true => simpa using lq
   | false => simp
  unfold C8 at hk
  split at hk
  ·simp [jy] at hf
  ·rename_i k n0 z k1 a r k2 b' r'
   simp only [jy, an, bne_iff_ne] at hf
   obtain ⟨⟨⟨h1, h2⟩, h3⟩, h4⟩ := hf
   have h2 := Is h2
   obtain ⟨hg, c, hc, rfl⟩ := ck hk
   simp only [an] at hg
   obtain rfl := eE hg.1
   obtain rfl := eE hg.2
   split at h3
   ·rename_i k' hu
    exact go _ _ (.int k a) (.int k b') (a == b') c _ z r r' rfl rfl (fun u hu => by have hu : aT S w (.int k a) u := hu; cases hu; rfl) (fun u hu => by have hu : aT S w (.int k b') u := hu; cases hu; rfl) h1 h2 hu rfl (run_equalIn_int w' d _ _ _ _ _ hu) h4 hc
   ·cases h3
  ·rename_i n0 z a r b' r'
   simp only [jy, an, bne_iff_ne] at hf
   obtain ⟨⟨⟨h1, h2⟩, h3⟩, h4⟩ := hf
   have h2 := Is h2
   obtain ⟨hg, c, hc, rfl⟩ := ck hk
   split at h3
   ·rename_i hu
    exact go _ _ (.bool a) (.bool b') (a == b') c _ z r r' rfl rfl (fun u hu => by have hu : aT S w (.bool a) u := hu; cases hu; rfl) (fun u hu => by have hu : aT S w (.bool b') u := hu; cases hu; rfl) h1 h2 hu rfl (run_equalIn_bool w' d _ _ _ hu) h4 hc
   ·cases h3
  ·rename_i n0 z a r b' r'
   simp only [jy, an, bne_iff_ne] at hf
   obtain ⟨⟨⟨h1, h2⟩, h3⟩, h4⟩ := hf
   have h2 := Is h2
   obtain ⟨hg, c, hc, rfl⟩ := ck hk
   split at h3
   ·rename_i hu
    exact go _ _ (.string ⟨⟨a⟩⟩) (.string ⟨⟨b'⟩⟩) (a == b') c _ z r r' rfl rfl (fun u hu => by have hu : aT S w (.str a) u := hu; cases hu; rfl) (fun u hu => by have hu : aT S w (.str b') u := hu; cases hu; rfl) h1 h2 hu rfl (by
     rw [run_equalIn_string w' d _ _ _ hu, toList_mk, toList_mk]) h4 hc
   ·cases h3
  ·cases hk
theorem Lv (hT : di P T) (bo : BinOp) (t t' : TypeId) (x y : Operand) (px py : PV) (hx : bG μ h S w px (a.eval x)) (hy : bG μ h S w py (a.eval y)) (hp : Lw (T.get t) bo px py K) :
  dC P ⟨dst, .binOp bo t x y t', ty, pos, after, guard⟩ a μ h S w K := by
 have key : ∀ (v : PV) (val : Value), K v → bG μ h S w v val → eqGuard bo t x y (a.eval x) (a.eval y) = pure () → (∀ w', (binOp bo t (a.eval x) (a.eval y)).run P w' = .ok val w') →
   dC P ⟨dst, .binOp bo t x y t', ty, pos, after, guard⟩ a μ h S w K := fun v val hK hv hg hr => .mk hK hv fun w' _ => yS (Kt hg (hr w'))
 unfold Lw at hp
 split at hp
 ·rename_i k n k' n'
  have ex := hx.kO
  have ey := hy.kO
  have hg : eqGuard bo t x y (a.eval x) (a.eval y) = pure () := by rw [ex]; apply eqGuard_at_int
  cases bo <;> simp only at hp
  case shl =>
   have h0 : ¬ n' < 0 := by omega
   exact key _ _ hp.2 (aT.int _ _) hg fun w' => by rw [ex, ey, binOp_shl]; simp only [Op.shift, if_neg h0]; rfl
  case shr =>
   have h0 : ¬ n' < 0 := by omega
   exact key _ _ hp.2 (aT.int _ _) hg fun w' => by rw [ex, ey, binOp_shr]; simp only [Op.shift, if_neg h0]; rfl
  all_goals
   replace hp := bB hp
   obtain ⟨hk, hp⟩ := hp
   obtain rfl := eE hk
  case and => exact key _ _ hp (aT.int _ _) hg fun w' => by rw [ex, ey, binOp_and, intBits_and]; rfl
  case or => exact key _ _ hp (aT.int _ _) hg fun w' => by rw [ex, ey, binOp_or, intBits_or]; rfl
  case xor => exact key _ _ hp (aT.int _ _) hg fun w' => by rw [ex, ey, binOp_xor, intBits_xor]; rfl
  case andNot => exact key _ _ hp (aT.int _ _) hg fun w' => by rw [ex, ey, binOp_andNot, intBits_andNot]; rfl
  case add => exact key _ _ hp (aT.int _ _) hg fun w' => by rw [ex, ey, binOp_add]; rfl
  case sub => exact key _ _ hp (aT.int _ _) hg fun w' => by rw [ex, ey, binOp_sub]; rfl
  case mul => exact key _ _ hp (aT.int _ _) hg fun w' => by rw [ex, ey, binOp_mul]; rfl
  case quo => exact key _ _ hp.2 (aT.int _ _) hg fun w' => by rw [ex, ey, binOp_quo]; simp [Op.intDiv, hp.1]
  case rem => exact key _ _ hp.2 (aT.int _ _) hg fun w' => by rw [ex, ey, binOp_rem]; simp [Op.intDiv, hp.1]
  case eql => exact key _ _ hp (aT.bool _) hg fun w' => by rw [ex, ey, binOp_eql]; rfl
  case neq => exact key _ _ hp (aT.bool _) hg fun w' => by rw [ex, ey, binOp_neq]; rfl
  case lss => exact key _ _ hp (aT.bool _) hg fun w' => by rw [ex, ey, binOp_lss]; rfl
  case leq => exact key _ _ hp (aT.bool _) hg fun w' => by rw [ex, ey, binOp_leq]; rfl
  case gtr => exact key _ _ hp (aT.bool _) hg fun w' => by rw [ex, ey, binOp_gtr]; rfl
  case geq => exact key _ _ hp (aT.bool _) hg fun w' => by rw [ex, ey, binOp_geq]; rfl
 ·rename_i b b'
  have ex := hx.mD
  have ey := hy.mD
  have hg : eqGuard bo t x y (a.eval x) (a.eval y) = pure () := by rw [ex]; apply eqGuard_at_bool
  split at hp
  ·rename_i gx
   exact key _ _ hp (aT.bool _) hg fun w' => by rw [ex, ey]; exact run_eql_bool w' t _ _ (hT.bool _ gx)
  ·rename_i gx
   exact key _ _ hp (aT.bool _) hg fun w' => by rw [ex, ey]; exact run_neq_bool w' t _ _ (hT.bool _ gx)
  ·exact afL
 ·rename_i s s'
  have ex := hx.mE
  have ey := hy.mE
  have hg : eqGuard bo t x y (a.eval x) (a.eval y) = pure () := by rw [ex]; apply eqGuard_at_string
  cases bo <;> simp only at hp
  case add =>
   obtain ⟨QU, _, rfl, Og⟩ := hp
   refine key _ _ Og (aT.str _) hg fun w' => ?_
   rw [ex, ey, binOp_string_add]
   have h1 : ¬ (((ByteArray.mk ⟨s⟩).size + (ByteArray.mk ⟨s'⟩).size : Nat) : Int) > IntKind.i64.max := by
    have e1 : (ByteArray.mk ⟨s⟩).size = s.length := rfl
    have e2 : (ByteArray.mk ⟨s'⟩).size = s'.length := rfl
    rw [e1, e2, IntKind.max_i64]
    omega
   simp only [Op.stringOp, if_neg h1]
   have h2 : ByteArray.mk ⟨s⟩ ++ ByteArray.mk ⟨s'⟩ = ByteArray.mk ⟨s ++ s'⟩ := by
    apply ByteArray.ext
    simp [ByteArray.data_append]
   rw [h2]
   rfl
  case eql => exact key _ _ hp (aT.bool _) hg fun w' => by rw [ex, ey, binOp_string_eql, toList_mk, toList_mk]; rfl
  case neq => exact key _ _ hp (aT.bool _) hg fun w' => by rw [ex, ey, binOp_string_neq, toList_mk, toList_mk]; rfl
  case lss => exact key _ _ hp (aT.bool _) hg fun w' => by rw [ex, ey, binOp_string_lss, toList_mk, toList_mk]; rfl
  case leq => exact key _ _ hp (aT.bool _) hg fun w' => by rw [ex, ey, binOp_string_leq, toList_mk, toList_mk]; rfl
  case gtr => exact key _ _ hp (aT.bool _) hg fun w' => by rw [ex, ey, binOp_string_gtr, toList_mk, toList_mk]; rfl
  case geq => exact key _ _ hp (aT.bool _) hg fun w' => by rw [ex, ey, binOp_string_geq, toList_mk, toList_mk]; rfl
  all_goals exact hp.elim
 ·rename_i QT Ku
  split at hp
  ·rename_i sz fl z gx
   replace hp := bB hp
   obtain ⟨hz, hp⟩ := hp
   have yB := hT.flat _ _ _ _ gx hz
   unfold ER at yB
   split at yB
   ·rename_i fs hu
    simp only [an, aeD] at yB
    obtain ⟨⟨h1, h2⟩, h3⟩ := yB
    obtain ⟨xs, ex, _, W3⟩ := hx
    obtain ⟨ys, ey, _, hys⟩ := hy
    have Jm : P.fieldsOf t = fs := by simp [Program.fieldsOf, hu]
    have lq : ∀ b, C8 z QT Ku = some b → ∀ w', (Op.equalIn 10000 t (.agg xs) (.agg ys)).run P w' = .ok b w' := fun b hk w' => by
     rw [run_equalIn_struct w' 9999 t xs ys (by rw [Jm]; exact hu) h1, Jm]
     exact qO (μ := μ) (h := h) (S := S) (w := w) 9998 fs.toList z QT Ku 0 b h3 (fun j pv hj => by rw [No]; exact W3 j pv hj) (fun j pv hj => by rw [No]; exact hys j pv hj) hk
    have Zm : ∀ (b : Bool), K (.bool b) → (∀ w', (binOp bo t (.agg xs) (.agg ys)).run P w' = .ok (.bool b) w') → dC P ⟨dst, .binOp bo t x y t', ty, pos, after, guard⟩ a μ h S w K := fun b hK hr => .mk hK (aT.bool b) fun w' _ => yS (by
     rw [ex, ey]
     simp [run_eqGuard_agg w' bo t x y xs ys h2, hr w'])
    split at hp
    ·rename_i b hb
     split at hp
     ·obtain ⟨_, rfl, hK⟩ := hp
      exact Zm _ hK fun w' => by rw [run_eql_struct, lq b hb w']; rfl
     ·obtain ⟨_, rfl, hK⟩ := hp
      exact Zm _ hK fun w' => by rw [run_neq_struct, lq b hb w']; rfl
     ·exact afL
    ·exact afL
   ·cases yB
  ·exact afL
 ·exact afL
theorem wG {t : TypeId} {d : TypeDesc} (hu : P.underlying t = some d) (w' : World) : (isAgg t).run P w' = .ok (A2 d) w' := by
 unfold isAgg
 simp only [Sem.run_bind, run_underlying hu, Result.andThen]
 cases d <;> rfl
def QV (μ : Mu) (h : List aj) (S : Nat → Prop) (w : World) (cells : List PV) (b off : Nat) : Prop :=
 ∀ (j : Nat) (pv : PV), cells[j]? = some pv → ∃ u, w.cell? ⟨b, off + j, none⟩ = some u ∧ bR μ h S w pv u
theorem A4 (hT : di P T) (t : Nat) (x : Operand) (cells : List PV) (b off : Nat) (hx : a.eval x = .pointer (some ⟨b, off, none⟩)) (hc : QV μ h S w cells b off) (hp : xY T t cells K)
  (QW : ∀ pv u, pv ∈ cells → bR μ h S w pv u → bG μ h S w pv u) :
  dC P ⟨dst, .load t x, ty, pos, after, guard⟩ a μ h S w K := by
 have key : ∀ (v : PV) (val : Value), K v → bG μ h S w v val → (∀ w', cy w w' → (loadVar t ⟨b, off, none⟩).run P w' = .ok val w') →
   dC P ⟨dst, .load t x, ty, pos, after, guard⟩ a μ h S w K := fun v val hK hv hr => .mk hK hv fun w' ha => by
  refine yS ?_
  rw [hx]
  simp [Instr.loadAt, Instr.sureAddr, hr w' ha]
 have one : ∀ d, P.underlying t = some d → A2 d = false → (∃ c r, cells = c :: r ∧ K c) →
   dC P ⟨dst, .load t x, ty, pos, after, guard⟩ a μ h S w K := fun d hu hd ⟨c, r, PS, hK⟩ => by
  obtain ⟨u, Md, FC⟩ := hc 0 c (by rw [PS]; rfl)
  refine key c u hK (QW c u (by rw [PS]; simp) FC) fun w' ha => ?_
  have h0 := ha.cell Md
  rw [aeT] at h0
  unfold loadVar
  simp only [Sem.run_bind, wG hu, hd, Result.andThen]
  simp [run_load, h0]
 unfold xY at hp
 split at hp
 ·rename_i sz fl zz gx
  obtain ⟨fs, i, hu, hi, iQ, _⟩ := hT.struct _ _ _ _ gx
  replace hp := pG _ _ _ hp
  obtain ⟨hle, hK⟩ := hp
  simp only [List.reverse_nil, aeS] at hK
  have hf : ∃ f : Nat → Value, ∀ (j : Nat) (pv : PV), cells[j]? = some pv → w.cell? ⟨b, off + j, none⟩ = some (f j) ∧ bR μ h S w pv (f j) := by
   refine ⟨fun j => (w.cell? ⟨b, off + j, none⟩).getD undef, fun j pv hj => ?_⟩
   obtain ⟨u, h1, h2⟩ := hc j pv hj
   simp only [h1, Option.getD_some]
   exact ⟨trivial, h2⟩
  obtain ⟨f, hf⟩ := hf
  refine key _ (.agg ((List.range sz).map f).toArray) hK ⟨_, rfl, by simp [Nat.min_eq_left hle], fun j pv hj => ?_⟩ fun w' ha => ?_
  ·rw [List.getElem?_take] at hj
   split at hj
   ·rename_i Jn
    obtain ⟨h1, h2⟩ := hf j pv hj
    exact ⟨f j, by simp [Jn], h2⟩
   ·cases hj
  ·unfold loadVar
   have hd : A2 (.struct fs) = true := rfl
   simp only [Sem.run_bind, wG hu, hd, Result.andThen]
   have hl := run_loadCells (P := P) w' ⟨b, off, none⟩ sz f (fun j hj => by
    rw [Addr.add_lit]
    have Ha : j < cells.length := aez hj hle
    exact ha.cell (hf j _ (As Ha)).1)
   simp [sizeOf, typeInfo, hi, iQ, hl]
 ·exact afL
 ·rename_i h1 h2
  have PS : ∃ c r, cells = c :: r ∧ K c := by
   cases cells with
   | nil => exact hp.elim
   | cons c r => exact ⟨c, r, rfl, bX hp⟩
  cases gx : T.get t with
  | int k => exact one _ (hT.int _ _ gx) rfl PS
  | bool => exact one _ (hT.bool _ gx) rfl PS
  | str => exact one _ (hT.str _ gx) rfl PS
  | slice e sz Oc z => exact one _ (hT.slice _ _ _ _ _ gx).1 rfl PS
  | struct sz fl zz => exact (h1 _ _ _ gx).elim
  | map k e z => exact one _ (hT.map _ _ _ _ gx).1 rfl PS
  | ptr e => exact one _ (hT.ptr _ _ gx) rfl PS
  | other => exact (h2 gx).elim
theorem eW {id : Nat} {g sz n : Nat} {e : TypeId} {f : Nat → List PV} (hh : cO h id = .row g sz n e f) : h[id]? = some (aj.row g sz n e f) := by
 unfold cO at hh
 rw [aee] at hh
 cases ho : h[id]? with
 | none => rw [ho] at hh; cases hh
 | some o => rw [ho] at hh; simp at hh; rw [hh]
theorem bG.rX {id gen off len : Nat} {v : Value} (hv : bG μ h S w (.own id gen off len) v) : bE μ h w id gen off len v := hv
theorem bG.tJ {id gen i off : Nat} {v : Value} (hv : bG μ h S w (.aN id gen i off) v) : bU μ h w id gen i off v := hv
theorem bG.ES {id : Nat} {v : Value} (hv : bG μ h S w (.kN id) v) : fX μ h w id v := hv
theorem A5 (hH : cp μ h S w) {id g sz n : Nat} {e : TypeId} {f : Nat → List PV} {v : Value} (hh : h[id]? = some (aj.row g sz n e f)) (hr : fX μ h w id v) :
  ∃ b base es c, μ id = some (b, base) ∧ v = .map (some b) ∧ w.heap[b]? = some (.map es c) ∧ es.size = n ∧
   ∀ i, i < n → ∃ (kp vp : PV) (en : MapEntry), f i = [kp, vp] ∧ j4 kp = true ∧ j4 vp = true ∧ es[i]? = some en ∧ qN kp en.key ∧ qN vp en.val := by
 unfold fX at hr
 rw [hh] at hr
 obtain ⟨_, b, base, iH, ⟨es, c, hb⟩, rfl⟩ := hr
 obtain ⟨_, ho⟩ := hH id g sz n e f hh
 rw [iH] at ho
 obtain ⟨o, h1, h2⟩ := ho
 obtain rfl := aeq (hb.symm.trans h1)
 exact ⟨b, base, es, c, iH, rfl, hb, h2.1, h2.2⟩
theorem wH : ∀ (z xs ys : List PV) (b : Bool), C8 z xs ys = some b → ∀ (j : Nat) (pv : PV), ys[j]? = some pv → ∀ u, sB pv u → bR μ h S w pv u
 | z, xs, ys, b, hk, j, pv, hj, u, hu => by
  unfold C8 at hk
  split at hk
  ·simp at hj
  ·obtain ⟨_, c, hc, _⟩ := ck hk
   cases j with
   | zero => simp at hj; subst hj; have hu : u = _ := hu; subst hu; exact aT.int _ _
   | succ j => exact wH _ _ _ c hc j pv agt u hu
  ·obtain ⟨_, c, hc, _⟩ := ck hk
   cases j with
   | zero => simp at hj; subst hj; have hu : u = _ := hu; subst hu; exact aT.bool _
   | succ j => exact wH _ _ _ c hc j pv agt u hu
  ·obtain ⟨_, c, hc, _⟩ := ck hk
   cases j with
   | zero => simp at hj; subst hj; have hu : u = _ := hu; subst hu; exact aT.str _
   | succ j => exact wH _ _ _ c hc j pv agt u hu
  ·cases hk
theorem zR : ∀ (z xs ys : List PV) (b : Bool), C8 z xs ys = some b → xs.length = z.length
 | z, xs, ys, b, hk => by
  unfold C8 at hk
  split at hk
  ·rfl
  ·obtain ⟨_, c, hc, _⟩ := ck hk
   simp [zR _ _ _ c hc]
  ·obtain ⟨_, c, hc, _⟩ := ck hk
   simp [zR _ _ _ c hc]
  ·obtain ⟨_, c, hc, _⟩ := ck hk
   simp [zR _ _ _ c hc]
  ·cases hk
theorem Jo {kt : TypeId} {fs : Array Field} {z xs : List PV} {PT : Array Value} (hu : P.underlying kt = some (.struct fs)) (hf : jy P 0 fs.toList z = true)
  (hx : ∀ (j : Nat) (pv : PV), xs[j]? = some pv → ∃ u, PT[j]? = some u ∧ bR μ h S w pv u) (hl : xs.length = z.length) (em : Bool) (w' : World) : (Instr.checkKey em 10000 kt (.agg PT)).run P w' = .ok () w' := by
 rw [show 10000 = 9999 + 1 from rfl, Instr.checkKey]
 simp only [Sem.run_bind, run_underlying hu, Result.andThen_ok]
 rw [← Array.forIn_toList]
 replace hx : ∀ (j : Nat) (pv : PV), xs[j]? = some pv → ∃ u, PT[0 + j]? = some u ∧ bR μ h S w pv u := fun j pv hj => by rw [No]; exact hx j pv hj
 generalize (0 : Nat) = n at hf hx
 generalize fs.toList = L at hf
 clear hu
 induction L generalizing n z xs with
 | nil => simp
 | cons f L ih =>
  cases z with
  | nil => simp [jy] at hf
  | cons c z =>
   cases xs with
   | nil => simp at hl
   | cons p xs =>
    have Zn : jy P (n + 1) L z = true → (∀ (j : Nat) (pv : PV), xs[j]? = some pv → ∃ u, PT[n + 1 + j]? = some u ∧ bR μ h S w pv u) := fun _ j pv hj => by
     obtain ⟨u, q1, q2⟩ := hx (j + 1) pv agt
     exact ⟨u, by rw [← q1]; congr 1; omega, q2⟩
    obtain ⟨u, Md, _⟩ := hx 0 p rfl
    have key : ∃ d, P.underlying f.type = some d ∧ A2 d = false ∧ f.name ≠ "_" ∧ f.offset = n ∧ jy P (n + 1) L z = true ∧ ∀ u, (Instr.checkKey em 9999 f.type u).run P w' = .ok () w' := by
     cases c with
     | int k n0 =>
      simp only [jy, an, bne_iff_ne] at hf
      obtain ⟨⟨⟨h1, h2⟩, h3⟩, h4⟩ := hf
      split at h3
      ·rename_i k' hu
       exact afZ
      ·cases h3
     | bool b0 =>
      simp only [jy, an, bne_iff_ne] at hf
      obtain ⟨⟨⟨h1, h2⟩, h3⟩, h4⟩ := hf
      split at h3
      ·rename_i hu
       exact afZ
      ·cases h3
     | str s0 =>
      simp only [jy, an, bne_iff_ne] at hf
      obtain ⟨⟨⟨h1, h2⟩, h3⟩, h4⟩ := hf
      split at h3
      ·rename_i hu
       exact afZ
      ·cases h3
     | _ => simp [jy] at hf
    obtain ⟨d, hu, hd, hn, ho, hfs, K1⟩ := key
    have p1 := rW hu hd PT f.offset u (by rw [ho]; exact Md) w'
    have p2 := K1 u
    simp only [List.forIn_cons, Sem.run_bind, hn, ne_eq, not_false_eq_true, if_true, Result.andThen_ok, p1, p2, Sem.run_pure]
    exact ih (by simpa using hl) (n + 1) (Zn hfs) hfs
def tK (P : Program) (kt : TypeId) (d : TypeDesc) (s : Bool) (key ek : Value) (q : Bool) : Prop :=
 match s with
 | false => Instr.sameNow d key ek = some q
 | true => Instr.sameNow d key ek = none ∧ ∀ w', (Op.equal kt key ek).run P w' = .ok q w'
theorem Kv (hT : di P T) {kt : Nat} {kv : PV} {key : Value} {q0 : Bool} (PU : bG μ h S w kv key) (h0 : ky (T.get kt) kv kv = some q0) :
  ∃ d s, P.underlying kt = some d ∧ (∀ (em : Bool) (w' : World), (Instr.checkKey em 10000 kt key).run P w' = .ok () w') ∧ ∀ (kp : PV) (ek : Value) (q : Bool), qN kp ek → ky (T.get kt) kv kp = some q → tK P kt d s key ek q := by
 cases gx : T.get kt with
 | int k =>
  rw [gx] at h0
  cases kv <;> simp only [ky] at h0 <;> try cases h0
  rename_i k1 x
  have hu := hT.int _ _ gx
  obtain ⟨hg0, _⟩ := ck h0
  simp only [an] at hg0
  obtain rfl := eE hg0.1
  obtain rfl := PU.kO
  refine ⟨_, false, hu, fun em w' => by rw [show 10000 = 9999 + 1 from rfl, Instr.checkKey]; simp [run_underlying hu], fun kp ek q hs hq => ?_⟩
  cases kp <;> simp only [ky] at hq <;> try cases hq
  rename_i k3 y3
  obtain ⟨hg, c, hc, rfl⟩ := ck hq
  injection hc with hc; subst hc
  simp only [an] at hg
  obtain rfl := eE hg.2
  obtain rfl : ek = _ := hs
  simp [tK, Instr.sameNow]
 | str =>
  rw [gx] at h0
  cases kv <;> simp only [ky] at h0 <;> try cases h0
  rename_i x
  have hu := hT.str _ gx
  obtain rfl := PU.mE
  refine ⟨_, false, hu, fun em w' => by rw [show 10000 = 9999 + 1 from rfl, Instr.checkKey]; simp [run_underlying hu], fun kp ek q hs hq => ?_⟩
  cases kp <;> simp only [ky] at hq <;> try cases hq
  obtain rfl : ek = _ := hs
  rename_i y3
  simp only [tK, Instr.sameNow]
  congr 1
  show ((Array.mk x) == (Array.mk y3)) = (x == y3)
  rw [aeF, beq_iff_eq, beq_iff_eq, Array.mk.injEq]
 | struct sz fl z =>
  rw [gx] at h0
  cases kv <;> simp only [ky] at h0 <;> try cases h0
  rename_i xs
  split at h0
  ·rename_i hz
   have yB := hT.flat _ _ _ _ gx hz
   unfold ER at yB
   split at yB
   ·rename_i fs hu
    simp only [an, aeD] at yB
    obtain ⟨⟨h1, h2⟩, h3⟩ := yB
    obtain ⟨PT, ex, _, W3⟩ := (show jm μ h S w (.agg xs) key from PU)
    subst ex
    have Jm : P.fieldsOf kt = fs := by simp [Program.fieldsOf, hu]
    refine ⟨_, true, hu, fun em w' => Jo hu h3 W3 (zR z xs xs q0 h0) em w', fun kp ek q hs hq => ?_⟩
    cases kp <;> simp only [ky, hz] at hq <;> try cases hq
    rename_i Ku
    obtain ⟨vys, rfl, _, hys⟩ := (show ∃ vs : Array Value, ek = .agg vs ∧ vs.size = Ku.length ∧ ∀ (j : Nat) (pv : PV), Ku[j]? = some pv → ∃ u : Value, vs[j]? = some u ∧ sB pv u from hs)
    refine ⟨rfl, fun w' => ?_⟩
    show (Op.equalIn 10000 kt (.agg PT) (.agg vys)).run P w' = _
    rw [run_equalIn_struct w' 9999 kt PT vys (by rw [Jm]; exact hu) h1, Jm]
    exact qO (μ := μ) (h := h) (S := S) (w := w) 9998 fs.toList z xs Ku 0 q h3 (fun j pv hj => by rw [No]; exact W3 j pv hj) (fun j pv hj => by
     rw [No]
     obtain ⟨u, hu, hr⟩ := hys j pv hj
     exact ⟨u, hu, wH z xs Ku q hq j pv hj u hr⟩) hq
   ·cases yB
  ·cases h0
 | _ =>
  rw [gx] at h0
  cases kv <;> simp [ky] at h0
theorem A6 {d : TypeDesc} {key : Value} : ∀ (l : List MapEntry) (i s : Nat) (en : MapEntry), (∀ j, j < i → ∀ x : MapEntry, l[j]? = some x → Instr.sameNow d key x.key = some false) → l[i]? = some en → Instr.sameNow d key en.key = some true →
  Instr.findNow d key l s = some (some (s + i, en.val))
 | [], i, s, en, _, h, _ => by simp at h
 | x :: l, 0, s, en, _, h, hq => by
  simp at h; subst h
  simp [Instr.findNow, hq]
 | x :: l, i + 1, s, en, hf, h, hq => by
  have h0 := hf 0 agi x rfl
  have := A6 l i (s + 1) en (fun j hj y hy => hf (j + 1) agi y (by simpa using hy)) agz hq
  simp only [Instr.findNow, h0, this]
  congr 3
  omega
theorem wI {d : TypeDesc} {key : Value} : ∀ (l : List MapEntry) (s : Nat), (∀ (j : Nat) (x : MapEntry), l[j]? = some x → Instr.sameNow d key x.key = some false) → Instr.findNow d key l s = some none
 | [], s, _ => rfl
 | x :: l, s, hf => by
  have h0 := hf 0 x rfl
  simp only [Instr.findNow, h0]
  exact wI l (s + 1) (fun j y hy => hf (j + 1) y (by simpa using hy))
theorem A7 {kt : TypeId} {key : Value} {w' : World} : ∀ (l : List MapEntry) (i s : Nat) (en : MapEntry), (∀ j, j < i → ∀ x : MapEntry, l[j]? = some x → (Op.equal kt key x.key).run P w' = .ok false w') → l[i]? = some en → (Op.equal kt key en.key).run P w' = .ok true w' →
  (Instr.findAsking kt key l s).run P w' = .ok (some (s + i, en.val)) w'
 | [], i, s, en, _, h, _ => by simp at h
 | x :: l, 0, s, en, _, h, hq => by
  simp at h; subst h
  simp [Instr.findAsking, hq]
 | x :: l, i + 1, s, en, hf, h, hq => by
  have h0 := hf 0 agi x rfl
  have := A7 l i (s + 1) en (fun j hj y hy => hf (j + 1) agi y (by simpa using hy)) agz hq
  simp only [Instr.findAsking, Sem.run_bind, h0, Result.andThen_ok, aeX, if_false, this]
  congr 3
  omega
theorem wJ {kt : TypeId} {key : Value} {w' : World} : ∀ (l : List MapEntry) (s : Nat), (∀ (j : Nat) (x : MapEntry), l[j]? = some x → (Op.equal kt key x.key).run P w' = .ok false w') → (Instr.findAsking kt key l s).run P w' = .ok none w'
 | [], s, _ => rfl
 | x :: l, s, hf => by
  have h0 := hf 0 x rfl
  simp only [Instr.findAsking, Sem.run_bind, h0, Result.andThen_ok, aeX, if_false]
  exact wJ l (s + 1) (fun j y hy => hf (j + 1) y (by simpa using hy))
theorem A8 {kt : TypeId} {d : TypeDesc} {s : Bool} {key : Value} {w' : World} (hu : P.underlying kt = some d) (l : List MapEntry) (i : Nat) (en : MapEntry) (hf : ∀ j, j < i → ∀ x : MapEntry, l[j]? = some x → tK P kt d s key x.key false)
  (hi : l[i]? = some en) (hq : tK P kt d s key en.key true) : (Instr.findKey kt key l).run P w' = .ok (some (i, en.val)) w' := by
 unfold Instr.findKey
 cases s with
 | false =>
  have := A6 l i 0 en hf hi hq
  rw [No] at this
  simp [run_underlying hu, this]
 | true =>
  have h1 := A7 (P := P) (w' := w') l i 0 en (fun j hj x hx => (hf j hj x hx).2 w') hi (hq.2 w')
  rw [No] at h1
  have h2 : Instr.findNow d key l 0 = none := by
   cases l with
   | nil => simp at hi
   | cons x l =>
    have h3 : Instr.sameNow d key x.key = none := by
     cases i with
     | zero => simp at hi; subst hi; exact hq.1
     | succ i => exact (hf 0 agi x rfl).1
    simp [Instr.findNow, h3]
  simp [run_underlying hu, h2, h1]
theorem wK {kt : TypeId} {d : TypeDesc} {s : Bool} {key : Value} {w' : World} (hu : P.underlying kt = some d) (l : List MapEntry) (hf : ∀ (j : Nat) (x : MapEntry), l[j]? = some x → tK P kt d s key x.key false) :
  (Instr.findKey kt key l).run P w' = .ok none w' := by
 unfold Instr.findKey
 cases s with
 | false => simp [run_underlying hu, wI l 0 hf]
 | true =>
  have h1 := wJ (P := P) (w' := w') (kt := kt) (key := key) l 0 (fun j x hx => (hf j x hx).2 w')
  cases l with
  | nil => simp [run_underlying hu, Instr.findNow]
  | cons x l =>
   have h3 : Instr.sameNow d key x.key = none := (hf 0 x rfl).1
   simp [run_underlying hu, Instr.findNow, h3, h1]
theorem bR.v {pv : PV} {u : Value} (hc : bR μ h S w pv u) : bG μ h S w pv u := by
 cases pv <;> first | exact (show False from hc).elim | trivial | exact hc
theorem A9 (hT : di P T) (hH : cp μ h S w) (t : Nat) (x : Operand) (px : PV) (hx : bG μ h S w px (a.eval x)) (hp : wL T t px h K) :
  dC P ⟨dst, .load t x, ty, pos, after, guard⟩ a μ h S w K := by
 unfold wL at hp
 split at hp
 ·rename_i cells
  obtain ⟨b, off, vf, e1, _, h2, h3⟩ := hx.wF
  exact A4 hT t x cells b off e1 (fun j pv hj => ⟨vf j, h2 j pv hj, bR.j5 (h3 j pv hj)⟩) hp fun pv u _ hc => hc.v
 ·rename_i id gen i off
  split at hp
  ·rename_i g sz n e f hg
   obtain ⟨rfl, _, rfl, hp⟩ := hp
   have hh := eW hg
   have hr := hx.tJ
   unfold bU at hr
   rw [hh] at hr
   obtain ⟨_, _, hr⟩ := hr
   obtain ⟨Ob, b, base, iH, Jp, hv⟩ := hr rfl
   obtain ⟨hl, hc⟩ := hH id g sz n e f hh
   rw [iH] at hc
   obtain ⟨cur, hb, iQ, bp⟩ := cp.cells Jp hc
   refine A4 hT t x _ b (base + i * sz + off) hv (fun j pv hj => ?_) hp fun pv u _ hc => hc.v
   rw [afg] at hj
   obtain ⟨v, h1, h2⟩ := bp i (off + j) pv Ob hj
   refine ⟨v, ?_, h2.c⟩
   rw [cell_of_row w b (base + i * sz + off + j) cur e (0, 0) hb, ← h1]
   congr 1
   omega
  ·exact afL
 ·exact afL
theorem lu {e : TypeId} {i : TypeInfo} (hi : P.info? e = some i) (w' : World) : (sizeOf e).run P w' = .ok i.size w' := by
 simp [sizeOf, typeInfo, hi]
theorem yT {t e : TypeId} {i : TypeInfo} (hu : P.underlying t = some (.slice e)) (hi : P.info? e = some i) (a : Addr) (n c : Nat) (k : IntKind) (x : Int) (h0 : 0 ≤ x) (h1 : x < n) (w' : World) :
  (Instr.indexAt t (.slice (some a) n c) (.int k x)).run P w' = .ok (.pointer (some (a.add (x.toNat * i.size)))) w' := by
 have he : P.elem t = e := by simp [Program.elem, hu]
 rw [run_indexAt_slice w' t a n c k x (by rw [he]; exact hu), if_pos ⟨h0, h1⟩, he, lu hi]
 rfl
theorem Hb (hT : di P T) (hH : cp μ h S w) (ht : ∀ t, bG μ h S w (env t) (a.tmps.getD t undef)) (t : Nat) (x i : Operand) (hp : cm T (.indexAddr t x i) env h K) :
  dC P ⟨dst, .indexAddr t x i, ty, pos, after, guard⟩ a μ h S w K := by
 have hx := bQ ht x
 have hi := bQ ht i
 unfold cm at hp
 simp only at hp
 split at hp
 ·rename_i e sz bt z bV n f k ix gx hex Zo
  rw [hex] at hx
  rw [Zo] at hi
  replace hp := bB hp
  obtain ⟨CE, ⟨h0, h1⟩, _, rfl, hK⟩ := hp
  obtain rfl := Is CE
  have ei := hi.kO
  obtain ⟨hu, _, inf, zv, lU, p7, _⟩ := hT.slice _ _ _ _ _ gx
  rcases hx.uo with ⟨_, _, _, rfl⟩ | ⟨b, off, c, vf, ex, hS, hl, hc, bp, mX⟩
  ·omega
  ·have hix : ix.toNat < n := by omega
   refine .mk hK (aT.fx (f ix.toNat) b (off + ix.toNat * sz) (vf ix.toNat) hS (fun j pv hj => bp _ j pv hix hj) (fun j pv hj => mX _ j pv hix hj)) fun w' _ => yS ?_
   rw [ex, ei, yT hu lU _ _ _ _ _ h0 h1, p7, Addr.add_lit]
 ·rename_i e sz bt z id gen off len k ix gx hex Zo
  rw [hex] at hx
  rw [Zo] at hi
  have ei := hi.kO
  obtain ⟨hu, _, inf, zv, lU, p7, _⟩ := hT.slice _ _ _ _ _ gx
  split at hp
  ·rename_i g bV n e' f C9
   obtain ⟨rfl, hp⟩ := hp
   replace hp := bB hp
   obtain ⟨CE, ⟨h0, h1⟩, _, rfl, hK⟩ := hp
   obtain rfl := Is CE
   have hh := eW C9
   have hr := hx.rX
   unfold bE at hr
   rw [hh] at hr
   obtain ⟨_, _, hr⟩ := hr
   obtain ⟨hle, hr⟩ := hr rfl
   cases iH : μ id with
   | none =>
    rw [iH] at hr
    obtain ⟨_, hz⟩ := hH id _ _ _ _ _ hh
    rw [iH] at hz
    have hz : n = 0 := hz
    omega
   | some p =>
    obtain ⟨b, base⟩ := p
    rw [iH] at hr
    obtain ⟨ad, cap, ex, QX, wM, Jp⟩ := hr
    have wM := wM agi
    subst wM
    refine .mk hK (v := .aN id g (off + ix.toNat) 0) (val := .pointer (some ⟨b, base + (off + ix.toNat) * sz + 0, none⟩)) ?_ fun w' _ => yS ?_
    ·show bU μ h w id g (off + ix.toNat) 0 _
     unfold bU
     rw [hh]
     exact ⟨⟨_, rfl⟩, aeb _, fun _ => ⟨by omega, b, base, iH, Jp.least, rfl⟩⟩
    ·rw [ex, ei, yT hu lU _ _ _ _ _ h0 h1, p7, Addr.add_lit]
     have : base + off * sz + ix.toNat * sz = base + (off + ix.toNat) * sz + 0 := by rw [aex]; omega
     rw [this]
  ·exact afL
 ·exact afL
theorem Ba (hT : di P T) (ht : ∀ t, bG μ h S w (env t) (a.tmps.getD t undef)) (t : Nat) (x i : Operand) (hp : cm T (.index t x i) env h K) :
  dC P ⟨dst, .index t x i, ty, pos, after, guard⟩ a μ h S w K := by
 have hx := bQ ht x
 have hi := bQ ht i
 unfold cm at hp
 simp only at hp
 split at hp
 ·rename_i s k ix gx hex Zo
  rw [hex] at hx
  rw [Zo] at hi
  obtain ⟨⟨h0, h1⟩, _, rfl, hK⟩ := hp
  have ei := hi.kO
  have ex := hx.mE
  have hu := hT.str _ gx
  refine .mk hK (aT.int _ _) fun w' _ => yS ?_
  rw [ex, ei]
  have hb : (ByteArray.mk ⟨s⟩)[ix.toNat]? = some (s.getD ix.toNat 0) := by
   have bP : ix.toNat < s.length := by omega
   rw [aee, As bP]
   rw [getElem?_pos (ByteArray.mk ⟨s⟩) ix.toNat bP]
   rfl
  simp only [Instr.index, asIntOf, Sem.run_bind, Sem.run_pure, Result.andThen, run_underlying hu, if_pos h0, hb]
 ·exact afL
theorem Lx (hT : di P T) (hH : cp μ h S w) (ht : ∀ t, bG μ h S w (env t) (a.tmps.getD t undef)) (args : Array Operand) (ts : Array TypeId) (hp : cm T (.call ⟨.builtin .len, args, ts⟩) env h K) :
  dC P ⟨dst, .call ⟨.builtin .len, args, ts⟩, ty, pos, after, guard⟩ a μ h S w K := by
 obtain ⟨args⟩ := args
 obtain ⟨ts⟩ := ts
 unfold cm at hp
 simp only at hp
 split at hp
 ·rename_i x t
  have hx := bQ ht x
  have fin : ∀ (n : Int) (val : Value), a.eval x = val → K (.int .i64 n) → (∀ w', (Builtin.len_ #[t] ty #[val]).run P w' = .ok (goInt n) w') →
    dC P ⟨dst, .call ⟨.builtin .len, #[x], #[t]⟩, ty, pos, after, guard⟩ a μ h S w K := fun n val xJ hK hr => .mk hK (aT.int _ _) fun w' _ => by
   simp only [execOp, resolve, invoke, builtin, Sem.run_bind, Sem.run_pure, Result.andThen_ok, List.map_toArray, aeg, aem, xJ, hr]
   rfl
  split at hp
  ·rename_i e sz bt z bV n f gx hex
   rw [hex] at hx
   obtain ⟨hu, _⟩ := hT.slice _ _ _ _ _ gx
   have he : P.elem t = e := by simp [Program.elem, hu]
   rcases hx.uo with ⟨aa, c, ex, rfl⟩ | ⟨b, off, c, vf, ex, _⟩
   ·exact fin _ _ ex hp fun w' => run_len_slice w' t ty _ _ _ (by rw [he]; exact hu)
   ·exact fin _ _ ex hp fun w' => run_len_slice w' t ty _ _ _ (by rw [he]; exact hu)
  ·rename_i e sz bt z gx hex
   rw [hex] at hx
   obtain ⟨hu, _⟩ := hT.slice _ _ _ _ _ gx
   have he : P.elem t = e := by simp [Program.elem, hu]
   exact fin _ _ hx.rj hp fun w' => run_len_slice w' t ty _ _ _ (by rw [he]; exact hu)
  ·rename_i e sz bt z id gen off n gx hex
   rw [hex] at hx
   obtain ⟨hu, _⟩ := hT.slice _ _ _ _ _ gx
   have he : P.elem t = e := by simp [Program.elem, hu]
   split at hp
   ·rename_i g bV n' e' f C9
    obtain ⟨rfl, hK⟩ := hp
    have hh := eW C9
    have hr := hx.rX
    unfold bE at hr
    rw [hh] at hr
    obtain ⟨_, _, hr⟩ := hr
    obtain ⟨hle, hr⟩ := hr rfl
    have xJ : ∃ aa c, a.eval x = .slice aa n c := by
     cases iH : μ id with
     | none =>
      rw [iH] at hr
      obtain ⟨_, hz⟩ := hH id _ _ _ _ _ hh
      rw [iH] at hz
      have hz : n' = 0 := hz
      have : n = 0 := by omega
      subst this
      exact ⟨_, _, hr⟩
     | some p =>
      rw [iH] at hr
      obtain ⟨ad, cap, ex, _⟩ := hr
      exact ⟨_, _, ex⟩
    obtain ⟨aa, c, ex⟩ := xJ
    exact fin _ _ ex hK fun w' => run_len_slice w' t ty _ _ _ (by rw [he]; exact hu)
   ·exact afL
  ·rename_i s gx hex
   rw [hex] at hx
   have hu := hT.str _ gx
   refine fin _ _ hx.mE hp fun w' => ?_
   simp [Builtin.len_, run_underlying hu]
   rfl
  ·rename_i k0 e0 z0 id gx hex
   rw [hex] at hx
   obtain ⟨hu, _⟩ := hT.map _ _ _ _ gx
   split at hp
   ·rename_i g sz n e f C9
    obtain ⟨b, base, es, c, iH, ex, hb, hn, _⟩ := A5 hH (eW C9) hx.ES
    refine .mk hp (aT.int _ _) fun w' ha => ?_
    have nO : w'.heap[b]? = some (.map es c) := (ha.blocks b (aed.1 hb).1).trans hb
    simp only [execOp, resolve, invoke, builtin, Sem.run_bind, Sem.run_pure, Result.andThen_ok, List.map_toArray, aeg, aem, ex]
    rw [show (Builtin.len_ #[t] ty #[.map (some b)]).run P w' = .ok (goInt es.size) w' by simp [Builtin.len_, run_underlying hu, run_getObj_map w' b es c nO]]
    rw [hn]
    rfl
   ·exact afL
  ·exact afL
 ·exact afL
theorem yU (s : List UInt8) (l m : Nat) : (ByteArray.mk ⟨s⟩).extract l m = ByteArray.mk ⟨(s.take m).drop l⟩ := by
 apply ByteArray.ext
 rw [ByteArray.data_extract]
 apply Array.ext'
 rw [List.drop_take]
 simp [Array.toList_extract, List.extract]
theorem Ly (hT : di P T) (hH : cp μ h S w) (id g off len sz n : Nat) (e : TypeId) (f : Nat → List PV) (hh : h[id]? = some (aj.row g sz n e f)) (v : Value) (hv : bG μ h S w (.own id g off len) v) (l m : Nat) (hl : l ≤ m) (hm : m ≤ len) :
  ∃ aa c, v = .slice aa len c ∧ len ≤ c ∧ ∀ (mx : Nat), m ≤ mx → mx ≤ c → bG μ h S w (.own id g (off + l) (m - l)) (.slice (if mx = l then aa else aa.map (·.add (l * sz))) (m - l) (mx - l)) := by
 have hr := hv.rX
 unfold bE at hr
 rw [hh] at hr
 obtain ⟨_, _, hr⟩ := hr
 obtain ⟨hle, hr⟩ := hr rfl
 cases iH : μ id with
 | none =>
  rw [iH] at hr
  obtain ⟨_, hz⟩ := hH id _ _ _ _ _ hh
  rw [iH] at hz
  have hz : n = 0 := hz
  have h0 : len = 0 := by omega
  subst h0
  have hr : v = .slice none 0 0 := hr
  refine ⟨none, 0, hr, aeb _, fun mx h1 h2 => ?_⟩
  have Zp : m = 0 := by omega
  have sX : l = 0 := by omega
  have hx0 : mx = 0 := by omega
  subst Zp
  subst sX
  subst hx0
  show bE μ h w id g (off + 0) (0 - 0) _
  unfold bE
  rw [hh]
  refine ⟨⟨_, _, _, rfl⟩, aeb _, fun _ => ⟨by omega, ?_⟩⟩
  rw [iH]
  rfl
 | some p =>
  obtain ⟨b, base⟩ := p
  rw [iH] at hr
  obtain ⟨ad, cap, ex, QX, wM, ig⟩ := hr
  refine ⟨some ad, cap, ex, QX, fun mx h1 h2 => ?_⟩
  show bE μ h w id g (off + l) (m - l) _
  unfold bE
  rw [hh]
  refine ⟨⟨_, _, _, rfl⟩, aeb _, fun _ => ⟨by omega, ?_⟩⟩
  rw [iH]
  by_cases hml : mx = l
  ·refine ⟨ad, 0, by rw [if_pos hml]; subst hml; simp, by omega, fun h => absurd h agi, ?_⟩
   obtain ⟨cur, e', q1, q2⟩ := ig
   refine ⟨cur, e', q1, aeQ ?_ q2⟩
   have : (off + l + 0) * sz ≤ (off + cap) * sz := aer _ agi
   omega
  ·have wM := wM agi
   subst wM
   refine ⟨⟨b, base + (off + l) * sz, none⟩, mx - l, ?_, by omega, fun _ => rfl, ?_⟩
   ·rw [if_neg hml, Option.map_some, Addr.add_lit, aex, Nat.add_assoc]
   ·obtain ⟨cur, e', q1, q2⟩ := ig
    refine ⟨cur, e', q1, aeQ ?_ q2⟩
    have : (off + l + (mx - l)) * sz ≤ (off + cap) * sz := aer _ agi
    omega
theorem Lz (sz n : Nat) (f : Nat → List PV) (v : Value) (hv : bG μ h S w (.fM sz n f) v) (l m : Nat) (hl : l ≤ m) (hm : m ≤ n) :
  ∃ aa c, v = .slice aa n c ∧ ((n ≤ c ∨ n = 0) ∧ ∀ (mx : Nat), m ≤ mx → (mx ≤ c ∨ m = 0) → bG μ h S w (.fM sz (m - l) (fun i => f (l + i))) (.slice (if mx = l then aa else aa.map (·.add (l * sz))) (m - l) (mx - l))) := by
 rcases hv.uo with ⟨aa, c, ex, rfl⟩ | ⟨b, off, c, vf, ex, hS, hlen, hc, bp, mX⟩
 ·have Zp : m = 0 := by omega
  subst Zp
  have sX : l = 0 := by omega
  subst sX
  exact ⟨aa, c, ex, .inr rfl, fun mx _ _ => aT.p6 _ _ _ _⟩
 ·refine ⟨_, c, ex, .inl hc, fun mx h1 h2 => ?_⟩
  by_cases hml : m = l
  ·subst hml
   rw [aeU]
   exact aT.p6 _ _ _ _
  ·rw [if_neg agi, Option.map_some, Addr.add_lit]
   refine aT.fM sz (m - l) _ b (off + l * sz) (mx - l) (fun i j => vf (l + i) j) hS (fun i hi => hlen _ agi) agi (fun i j pv hi hj => ?_) (fun i j pv hi hj => mX _ j pv agi hj)
   have := bp (l + i) j pv agi hj
   rw [aex] at this
   rw [← this]
   congr 2
   omega
theorem c8 {o : Oper} {s : Sem Value} {val : Value} {w' Of : World} (he : execOp a.eval o = (do pure (Next.value (← s)) : Sem Next)) (hs : s.run P w' = .ok val Of) : (execOp a.eval o).run P w' = .ok (.value val) Of := by
 rw [he]; exact yS hs
theorem vA (hx : ∀ x, bG μ h S w (ev env x) (a.eval x)) {lo : Option Operand} : (lo.map (ev env) = none → lo.map a.eval = none) ∧ ∀ k n, lo.map (ev env) = some (.int k n) → lo.map a.eval = some (.int k n) := by
 cases lo with
 | none => exact ⟨fun _ => rfl, fun k n h => (by cases h)⟩
 | some x =>
  refine ⟨fun h => (by cases h), fun k n hh => ?_⟩
  have hh : ev env x = .int k n := by injection hh
  have := hx x
  rw [hh] at this
  show some (a.eval x) = _
  rw [this.kO]
theorem Jq {t e : TypeId} {i : TypeInfo} (hu : P.underlying t = some (.slice e)) (hi : P.info? e = some i) (aa : Option Addr) (n c : Nat) (hc : n ≤ c) (w' : World) :
  ((Instr.sliceAt t (.slice aa n c) none none none).run P w' = .ok (sliced aa 0 n c i.size) w') ∧
  (∀ (k : IntKind) (l : Int), 0 ≤ l → l ≤ n → (Instr.sliceAt t (.slice aa n c) (some (.int k l)) none none).run P w' = .ok (sliced aa l.toNat n c i.size) w') ∧
  (∀ (k : IntKind) (m : Int), 0 ≤ m → m ≤ n → (Instr.sliceAt t (.slice aa n c) none (some (.int k m)) none).run P w' = .ok (sliced aa 0 m.toNat c i.size) w') ∧
  (∀ (k : IntKind) (l : Int) (k' : IntKind) (m : Int), 0 ≤ l → l ≤ m → m ≤ n → (Instr.sliceAt t (.slice aa n c) (some (.int k l)) (some (.int k' m)) none).run P w' = .ok (sliced aa l.toNat m.toNat c i.size) w') ∧
  (∀ (k : IntKind) (m : Int) (k' : IntKind) (q : Int), 0 ≤ m → m ≤ q → q ≤ n → (Instr.sliceAt t (.slice aa n c) none (some (.int k m)) (some (.int k' q))).run P w' = .ok (sliced aa 0 m.toNat q.toNat i.size) w') ∧
  (∀ (k : IntKind) (l : Int) (k' : IntKind) (m : Int) (k'' : IntKind) (q : Int), 0 ≤ l → l ≤ m → m ≤ q → q ≤ n → (Instr.sliceAt t (.slice aa n c) (some (.int k l)) (some (.int k' m)) (some (.int k'' q))).run P w' = .ok (sliced aa l.toNat m.toNat q.toNat i.size) w') := by
 have he : P.elem t = e := by simp [Program.elem, hu]
 have VK : P.underlying t = some (.slice (P.elem t)) := by rw [he]; exact hu
 have Sw : (n : Int) ≤ c := by omega
 refine ⟨?_, fun k l h0 h1 => ?_, fun k m h0 h1 => ?_, fun k l k' m h0 h1 h2 => ?_, fun k m k' q h0 h1 h2 => ?_, fun k l k' m k'' q h0 h1 h2 h3 => ?_⟩ <;> rw [run_sliceAt_slice w' _ _ _ _ _ VK]
 ·rw [run_slice_all w' t aa n c VK, he, lu hi]; rfl
 ·rw [run_slice_l w' t aa n c VK k l h0 h1, he, lu hi]; rfl
 ·rw [run_slice_h w' t aa n c VK k m h0 agi, he, lu hi]; rfl
 ·rw [run_slice_lh w' t aa n c VK k k' l m h0 h1 agi, he, lu hi]; rfl
 ·rw [run_slice_hm w' t aa n c VK k k' m q h0 h1 agi, he, lu hi]; rfl
 ·rw [run_slice_lhm w' t aa n c VK k k' k'' l m q h0 h1 h2 agi, he, lu hi]; rfl
theorem dC.choose {o : Oper} (hs : dC P o a μ h S w (Hc K)) : dC P o a μ h S w K := by
 obtain ⟨v, val, hK, hv, hr⟩ := hs
 cases v with
 | fM sz n f =>
  obtain ⟨n', f', rfl, hf, hK⟩ := hK
  refine ⟨_, val, hK, ?_, hr⟩
  rcases hv.uo with ⟨a, c, rfl, rfl⟩ | ⟨b, off, c, vf, rfl, h1, h2, h3, h4, h5⟩
  ·exact aT.p6 _ _ _ _
  ·exact aT.fM sz n' f' b off c vf h1 (fun i hi => by rw [hf i hi]; exact h2 i hi) h3 (fun i j pv hi hj => h4 i j pv hi (by rw [← hf i hi]; exact hj)) (fun i j pv hi hj => h5 i j pv hi (by rw [← hf i hi]; exact hj))
 | str s =>
  obtain ⟨_, rfl, hK⟩ := hK
  exact ⟨_, val, hK, hv, hr⟩
 | own id g off n =>
  obtain ⟨_, _, rfl, rfl, hK⟩ := hK
  exact ⟨_, val, hK, hv, hr⟩
 | _ => exact ⟨_, val, hK, hv, hr⟩
theorem Hd (hT : di P T) (hH : cp μ h S w) (ht : ∀ t, bG μ h S w (env t) (a.tmps.getD t undef)) (t : Nat) (x : Operand) (lo hi mx : Option Operand) (hp : cm T (.slice t x lo hi mx) env h K) :
  dC P ⟨dst, .slice t x lo hi mx, ty, pos, after, guard⟩ a μ h S w K := by
 have hx := bQ ht x
 have PW := vA (fun x => bQ ht x) (lo := lo)
 have PX := vA (fun x => bQ ht x) (lo := hi)
 have hmx := vA (fun x => bQ ht x) (lo := mx)
 unfold cm at hp
 simp only at hp
 have key : ∀ (K : PV → Prop) (e : TypeId) (i : TypeInfo) (sz n : Nat) (aa : Option Addr) (c : Nat) (R : Nat → Nat → PV), P.underlying t = some (.slice e) → P.info? e = some i → i.size = sz → a.eval x = .slice aa n c → n ≤ c →
   (∀ l m mx, l ≤ m → m ≤ n → m ≤ mx → mx ≤ c → bG μ h S w (R l m) (.slice (if mx = l then aa else aa.map (·.add (l * sz))) (m - l) (mx - l))) → QY n (hi.map (ev env)) (mx.map (ev env)) →
   (match lo.map (ev env), hi.map (ev env) with
    | none, none => K (R 0 n)
    | some (.int _ l), none => (0 ≤ l ∧ l ≤ n) ∧ K (R l.toNat n)
    | none, some (.int _ m) => (0 ≤ m ∧ m ≤ n) ∧ K (R 0 m.toNat)
    | some (.int _ l), some (.int _ m) => (0 ≤ l ∧ l ≤ m ∧ m ≤ n) ∧ K (R l.toNat m.toNat)
    | _, _ => False) → dC P ⟨dst, .slice t x lo hi mx, ty, pos, after, guard⟩ a μ h S w K := by
  intro K e i sz n aa c R hu lU p7 ex hc hR hm hp
  subst p7
  have lq := fun w' => Jq (P := P) hu lU aa n c hc w'
  have fin : ∀ (l m q : Nat), l ≤ m → m ≤ n → m ≤ q → q ≤ c → K (R l m) → (∀ w', (Instr.sliceAt t (.slice aa n c) (lo.map a.eval) (hi.map a.eval) (mx.map a.eval)).run P w' = .ok (sliced aa l m q i.size) w') →
    dC P ⟨dst, .slice t x lo hi mx, ty, pos, after, guard⟩ a μ h S w K := fun l m q h1 h2 h3 h4 hK hr => .mk hK (hR l m q h1 h2 h3 h4) fun w' _ => c8 rfl (by rw [ex]; exact hr w')
  unfold QY at hm
  split at hm
  ·rename_i e3
   have e3 := hmx.1 e3
   split at hp
   ·rename_i e1 e2
    exact fin 0 n c agi agi hc agi hp fun w' => by rw [PW.1 e1, PX.1 e2, e3]; exact (lq w').1
   ·rename_i k l e1 e2
    obtain ⟨⟨h0, h1⟩, hp⟩ := hp
    exact fin l.toNat n c agi agi hc agi hp fun w' => by rw [PW.2 _ _ e1, PX.1 e2, e3]; exact (lq w').2.1 _ _ h0 h1
   ·rename_i k m e1 e2
    obtain ⟨⟨h0, h1⟩, hp⟩ := hp
    exact fin 0 m.toNat c agi agi agi agi hp fun w' => by rw [PW.1 e1, PX.2 _ _ e2, e3]; exact (lq w').2.2.1 _ _ h0 h1
   ·rename_i k l k' m e1 e2
    obtain ⟨⟨h0, h1, h2⟩, hp⟩ := hp
    exact fin l.toNat m.toNat c agi agi agi agi hp fun w' => by rw [PW.2 _ _ e1, PX.2 _ _ e2, e3]; exact (lq w').2.2.2.1 _ _ _ _ h0 h1 h2
   ·exact afL
  ·rename_i k'' q e3
   have e3 := hmx.2 _ _ e3
   split at hm
   ·rename_i k3 m XT
    obtain ⟨hm1, Ir⟩ := hm
    rw [XT] at hp
    split at hp
    ·rename_i e1 e2
     cases e2
    ·rename_i e1 e2
     cases e2
    ·rename_i k m' e1 e2
     injection e2 with e2
     injection e2 with ea eb
     subst ea
     subst eb
     obtain ⟨⟨h0, h1⟩, hp⟩ := hp
     exact fin 0 m.toNat q.toNat agi agi agi agi hp fun w' => by rw [PW.1 e1, PX.2 _ _ XT, e3]; exact (lq w').2.2.2.2.1 _ _ _ _ h0 hm1 Ir
    ·rename_i k l k' m' e1 e2
     injection e2 with e2
     injection e2 with ea eb
     subst ea
     subst eb
     obtain ⟨⟨h0, h1, h2⟩, hp⟩ := hp
     exact fin l.toNat m.toNat q.toNat agi agi agi agi hp fun w' => by rw [PW.2 _ _ e1, PX.2 _ _ XT, e3]; exact (lq w').2.2.2.2.2 _ _ _ _ _ _ h0 h1 hm1 Ir
    ·exact afL
   ·exact hm.elim
  ·exact hm.elim
 split at hp
 ·rename_i e sz bt z bV n f gx hex
  rw [hex] at hx
  replace hp := bB hp
  obtain ⟨CE, hm, hp⟩ := hp
  obtain rfl := Is CE
  obtain ⟨hu, _, inf, zv, lU, p7, _⟩ := hT.slice _ _ _ _ _ gx
  have e0 : (fun i => f (0 + i)) = f := by funext i; rw [No]
  have H2 := fun l m (h1 : l ≤ m) (h2 : m ≤ n) => Lz sz n f _ hx l m h1 h2
  obtain ⟨aa, c, ex, hc, _⟩ := H2 0 0 (aeb _) (aeE _)
  have hc : n ≤ c := by rcases hc with hc | hc <;> omega
  refine dC.choose ?_
  refine key (Hc K) e inf sz n aa c (fun l m => .fM sz (m - l) (fun i => f (l + i))) hu lU p7 ex hc (fun l m q h1 h2 h3 h4 => ?_) hm ?_
  ·obtain ⟨aa', c', Zq, _, hR⟩ := H2 l m h1 h2
   rw [ex] at Zq
   injection Zq with e1 e2 e3
   subst e1
   subst e3
   exact hR q h3 (.inl h4)
  ·simp only [e0, Nat.sub_zero]
   exact hp
 ·rename_i e sz bt z id gen off len gx hex
  rw [hex] at hx
  obtain ⟨hu, _, inf, zv, lU, p7, _⟩ := hT.slice _ _ _ _ _ gx
  split at hp
  ·rename_i g bV n' e' f C9
   obtain ⟨rfl, hp⟩ := hp
   replace hp := bB hp
   obtain ⟨CE, hm, hp⟩ := hp
   obtain rfl := Is CE
   have hh := eW C9
   have H2 := fun l m (h1 : l ≤ m) (h2 : m ≤ len) => Ly hT hH id g off len sz n' e' f hh _ hx l m h1 h2
   obtain ⟨aa, c, ex, hc, _⟩ := H2 0 0 (aeb _) (aeE _)
   refine dC.choose ?_
   refine key (Hc K) e inf sz len aa c (fun l m => .own id g (off + l) (m - l)) hu lU p7 ex hc (fun l m q h1 h2 h3 h4 => ?_) hm ?_
   ·obtain ⟨aa', c', Zq, _, hR⟩ := H2 l m h1 h2
    rw [ex] at Zq
    injection Zq with e1 e2 e3
    subst e1
    subst e3
    exact hR q h3 h4
   ·exact hp
  ·exact afL
 ·rename_i s gx hex
  rw [hex] at hx
  replace hp := bB hp
  obtain ⟨hmn, hp⟩ := hp
  obtain rfl : mx = none := by simpa using hmn
  refine dC.choose ?_
  generalize Hc K = K at *
  have ex := hx.mE
  have hu := hT.str _ gx
  have iQ : (ByteArray.mk ⟨s⟩).size = s.length := rfl
  have fin : ∀ (l m : Nat) (s' : List UInt8), s' = (s.take m).drop l → K (.str s') → (∀ w', (Instr.sliceAt t (.string ⟨⟨s⟩⟩) (lo.map a.eval) (hi.map a.eval) none).run P w' = .ok (.string ((ByteArray.mk ⟨s⟩).extract l m)) w') →
    dC P ⟨dst, .slice t x lo hi none, ty, pos, after, guard⟩ a μ h S w K := fun l m s' hs hK hr => .mk hK (aT.str _) fun w' _ => c8 rfl (by rw [ex, hs, ← yU]; exact hr w')
  simp only [Bb] at hp
  split at hp
  ·rename_i e1 e2
   exact fin 0 s.length s agk hp fun w' => by rw [PW.1 e1, PX.1 e2, run_sliceAt_string w' _ _ _ _ _ hu, run_slice_string_all w' t ⟨⟨s⟩⟩ hu]; rfl
  ·rename_i k l e1 e2
   obtain ⟨⟨h0, h1⟩, hp⟩ := hp
   exact fin l.toNat s.length _ agk hp fun w' => by rw [PW.2 _ _ e1, PX.1 e2, run_sliceAt_string w' _ _ _ _ _ hu, run_slice_string_l w' t ⟨⟨s⟩⟩ hu k l h0 h1]; rfl
  ·rename_i k m e1 e2
   obtain ⟨⟨h0, h1⟩, hp⟩ := hp
   exact fin 0 m.toNat _ agk hp fun w' => by rw [PW.1 e1, PX.2 _ _ e2, run_sliceAt_string w' _ _ _ _ _ hu, run_slice_string_h w' t ⟨⟨s⟩⟩ hu k m h0 h1]
  ·rename_i k l k' m e1 e2
   obtain ⟨⟨h0, h1, h2⟩, hp⟩ := hp
   exact fin l.toNat m.toNat _ rfl hp fun w' => by rw [PW.2 _ _ e1, PX.2 _ _ e2, run_sliceAt_string w' _ _ _ _ _ hu, run_slice_string w' t ⟨⟨s⟩⟩ k k' l m hu h0 h1 h2]
  ·exact afL
 ·exact afL
theorem qp : ∀ (cs l : List PV) (off j : Nat), off + cs.length ≤ l.length → (fN l off cs)[j]? = if off ≤ j ∧ j < off + cs.length then cs[j - off]? else l[j]?
 | [], l, off, j, _ => by
  simp only [fN, aec, aeT]
  rw [if_neg agi]
 | c :: r, l, off, j, hl => by
  simp only [fN, aea] at hl ⊢
  rw [qp r (l.set off c) (off + 1) j ago]
  by_cases h1 : j = off
  ·subst h1
   rw [if_neg agi, if_pos agi, aeU, aff agi]
   rfl
  ·rw [aeJ agi]
   by_cases h2 : off + 1 ≤ j ∧ j < off + 1 + r.length
   ·rw [if_pos h2, if_pos agi]
    have : j - off = (j - (off + 1)) + 1 := by omega
    rw [this, List.getElem?_cons_succ]
   ·rw [if_neg h2, if_neg agi]
theorem mF : ∀ (cs l : List PV) (off : Nat), (fN l off cs).length = l.length
 | [], _, _ => rfl
 | c :: r, l, off => by simp only [fN]; rw [mF r]; simp
theorem aT.no {pv : PV} {v : Value} (h : aT S w pv v) : dK pv = false := by cases h <;> rfl
theorem Kw {c : PV} (h : lP c = true) : dK c = false := by cases c <;> first | rfl | cases h
theorem Jr {v : PV} (h : storable v = true) {j : Nat} {pv : PV} (hj : (cellsOf v)[j]? = some pv) : dK pv = false := by
 have hm := ael hj
 cases v with
 | agg cs => exact Kw (aei.1 h pv hm)
 | _ => exact Kw (by rw [List.mem_singleton.1 hm]; exact h)
theorem mG {pv : PV} {v : Value} (hs : storable pv = true) (hv : bG μ h S w pv v) :
  v.cells.toList.length = (cellsOf pv).length ∧ ∀ (j : Nat) (p : PV), (cellsOf pv)[j]? = some p → ∃ u, v.cells.toList[j]? = some u ∧ bR μ h S w p u := by
 have one : ∀ (hc : bR μ h S w pv v), cellsOf pv = [pv] → v.cells.toList.length = (cellsOf pv).length ∧ ∀ (j : Nat) (p : PV), (cellsOf pv)[j]? = some p → ∃ u, v.cells.toList[j]? = some u ∧ bR μ h S w p u := by
  intro hc he
  have h1 := hc.one
  have h2 : v.cells = #[v] := by cases v <;> first | rfl | cases h1
  rw [h2, he]
  refine ⟨rfl, fun j p hj => ?_⟩
  cases j with
  | zero =>
   simp at hj
   subst hj
   exact ⟨v, rfl, hc⟩
  | succ j => simp at hj
 cases pv with
 | agg cs =>
  obtain ⟨vs, rfl, h2, h3⟩ := hv
  refine ⟨by simpa [Value.cells, cellsOf] using h2, fun j p hj => ?_⟩
  obtain ⟨u, hu, hr⟩ := h3 j p hj
  exact ⟨u, by simpa [Value.cells] using hu, hr⟩
 | dG vs => cases hs
 | aY sz n e f F => cases hs
 | jc => cases hs
 | kN id => exact one hv rfl
 | om f bN => exact one hv rfl
 | int k n => exact one hv rfl
 | bool b => exact one hv rfl
 | str s => exact one hv rfl
 | aO => exact one hv rfl
 | fM sz n f => exact one hv rfl
 | fx cs => exact one hv rfl
 | own id gen off len => exact one hv rfl
 | aN id gen i off => exact one hv rfl
 | fn f => exact one hv rfl
theorem Da : ∀ (l : List Value) (s off : Nat) (cs : Array Value), off + s + l.length ≤ cs.size →
  ((l.zipIdx s).foldl (fun (cs : Array Value) (p : Value × Nat) => cs.setIfInBounds (off + p.2) p.1) cs).size = cs.size ∧
  ∀ q, ((l.zipIdx s).foldl (fun (cs : Array Value) (p : Value × Nat) => cs.setIfInBounds (off + p.2) p.1) cs)[q]? = if off + s ≤ q ∧ q < off + s + l.length then l[q - (off + s)]? else cs[q]?
 | [], s, off, cs, _ => by
  refine ⟨rfl, fun q => ?_⟩
  simp only [List.zipIdx_nil, List.foldl_nil, aec, aeT]
  rw [if_neg agi]
 | v :: r, s, off, cs, hl => by
  simp only [aea] at hl
  obtain ⟨h1, h2⟩ := Da r (s + 1) off (cs.setIfInBounds (off + s) v) ago
  simp only [List.zipIdx_cons, List.foldl_cons, aea]
  refine ⟨by rw [h1]; simp, fun q => ?_⟩
  rw [h2 q]
  by_cases hq : q = off + s
  ·subst hq
   rw [if_neg agi, if_pos agi, aeU]
   simp [Array.getElem?_setIfInBounds, show off + s < cs.size from by omega]
  ·by_cases hr : off + (s + 1) ≤ q ∧ q < off + (s + 1) + r.length
   ·rw [if_pos hr, if_pos agi]
    have : q - (off + s) = (q - (off + (s + 1))) + 1 := by omega
    rw [this, List.getElem?_cons_succ]
   ·rw [if_neg hr, if_neg agi, Array.getElem?_setIfInBounds_ne agi]
theorem sC (v : Value) (off : Nat) (cs : Array Value) (hl : off + v.cells.size ≤ cs.size) :
  (v.cells.zipIdx.foldl (fun (cs : Array Value) (p : Value × Nat) => cs.setIfInBounds (off + p.2) p.1) cs).size = cs.size ∧
  ∀ q, (v.cells.zipIdx.foldl (fun (cs : Array Value) (p : Value × Nat) => cs.setIfInBounds (off + p.2) p.1) cs)[q]? = if off ≤ q ∧ q < off + v.cells.size then v.cells[q - off]? else cs[q]? := by
 have h := Da v.cells.toList 0 off cs (by simpa using hl)
 rw [← Array.foldl_toList]
 simp only [Array.toList_zipIdx, aeT, aeO, aew] at h ⊢
 exact h
theorem Js {l : List PV} (hb : isByte l = true) : ∃ v, l = [.int .u8 v] := by
 unfold isByte at hb
 split at hb
 ·exact ⟨_, rfl⟩
 ·cases hb
theorem Bc {g : Nat → List PV} {s : List UInt8} {n : Nat} (hl : s.length = n) (hf : ∀ i, i < n → g i = [.int .u8 (s.getD i 0).toNat]) : (∀ i, i < n → isByte (g i) = true) ∧ (List.range n).map (fun i => byteOf (g i)) = s := by
 refine ⟨fun i hi => by rw [hf i hi]; rfl, ?_⟩
 apply List.ext_getElem (by simp [hl])
 intro i h1 h2
 simp only [List.length_map, List.length_range] at h1
 rw [List.getElem_map, List.getElem_range, hf i h1]
 simp [byteOf, aee, As h2]
theorem CF (hT : di P T) (hH : cp μ h S w) (ht : ∀ t, bG μ h S w (env t) (a.tmps.getD t undef)) (s d : Nat) (x : Operand) (hp : cm T (.convert s d x) env h K) :
  dC P ⟨dst, .convert s d x, ty, pos, after, guard⟩ a μ h S w K := by
 have hx := bQ ht x
 unfold cm at hp
 simp only at hp
 split at hp
 ·rename_i k0 k k1 n hs hd hex
  rw [hex] at hx
  exact .mk hp (aT.int _ _) fun w' _ => c8 rfl (by
   rw [hx.kO]
   simp [convert, run_underlying (hT.int _ _ hs), run_underlying (hT.int _ _ hd), Conv.intToInt])
 ·rename_i e sz bt z hs hd
  split at hp
  ·rename_i hte
   have hu := (hT.slice _ _ _ _ _ hs).1
   have W4 := hT.int _ _ hte
   have W5 := hT.str _ hd
   have key : ∀ (b off c n : Nat) (g : Nat → List PV), a.eval x = .slice (some ⟨b, off, none⟩) n c → (∀ i, i < n → isByte (g i) = true) → K (.str ((List.range n).map fun i => byteOf (g i))) →
     (∀ i v, i < n → g i = [.int .u8 v] → w.cell? ⟨b, off + i, none⟩ = some (.int .u8 v)) → dC P ⟨dst, .convert s d x, ty, pos, after, guard⟩ a μ h S w K := by
    intro b off c n g ex hb hK bp
    have num : ∀ i, i < n → ∃ v, g i = [.int .u8 v] := fun i hi => Js (hb i hi)
    let val : Nat → Int := fun i => match g i with | [.int _ v] => v | _ => 0
    have xJ : ∀ i, i < n → g i = [.int .u8 (val i)] := fun i hi => by
     obtain ⟨v, hv⟩ := num i hi
     simp only [val, hv]
    refine .mk hK (aT.str _) fun w' ha => c8 rfl ?_
    rw [ex, run_convert_bytes_arg w' s e hu W4 b off n c ((List.range n).map val) agk (fun i hi => ?_) d W5]
    ·congr 2
     simp only [strOfNums]
     have : ((List.range n).map val).map (fun q => UInt8.ofNat q.toNat) = (List.range n).map fun i => byteOf (g i) := by
      rw [List.map_map]
      apply List.map_congr_left
      intro i hi
      rw [xJ i (List.mem_range.1 hi)]
      rfl
     rw [this]
    ·rw [ha.cell (bp i _ hi (xJ i hi))]
     simp [aee, hi]
   unfold vB at hp
   split at hp
   ·rename_i hex
    rw [hex] at hx
    refine .mk hp (aT.str _) fun w' _ => c8 rfl ?_
    rw [hx.rj, run_convert_bytes_nil w' s e hu W4 0 0 d W5]
    rfl
   ·rename_i bV n f hex
    rw [hex] at hx
    replace hp := bB hp
    obtain ⟨h1, s0, sX, QZ, hK⟩ := hp
    obtain ⟨hb, VM⟩ := Bc sX QZ
    replace hK : K (.str s0) := hK
    rw [← VM] at hK
    clear sX QZ VM
    obtain rfl := Is h1
    rcases hx.uo with ⟨aa, c, ex, rfl⟩ | ⟨b, off, c, vf, ex, hS, hl, hc, bp, mX⟩
    ·cases aa with
     | none =>
      refine .mk hK (aT.str _) fun w' _ => c8 rfl ?_
      rw [ex, run_convert_bytes_nil w' s e hu W4 0 c d W5]
      rfl
     | some ad =>
      refine .mk hK (aT.str _) fun w' _ => c8 rfl ?_
      rw [ex, run_convert_bytes_string w' s d e _ 0 c hu W4 W5, run_bytesToString w' ad 0 c [] (by simp [loadCells, loadCellsFrom])]
      rfl
    ·refine key b off c n f ex hb hK fun i v hi hv => ?_
     have q1 := bp i 0 (.int .u8 v) hi (by rw [hv]; rfl)
     have q2 := mX i 0 (.int .u8 v) hi (by rw [hv]; rfl)
     rw [Nat.mul_one, aeT] at q1
     rw [q1]
     generalize vf i 0 = u at q2
     cases q2
     rfl
   ·rename_i id gen off n hex
    rw [hex] at hx
    split at hp
    ·rename_i g bV n' e' f C9
     obtain ⟨rfl, hp⟩ := hp
     replace hp := bB hp
     obtain ⟨h1, s0, sX, QZ, hK⟩ := hp
     obtain ⟨hb, VM⟩ := Bc (g := fun i => f (off + i)) sX QZ
     replace hK : K (.str s0) := hK
     rw [← VM] at hK
     clear sX QZ VM
     obtain rfl := Is h1
     have hh := eW C9
     have hr := hx.rX
     unfold bE at hr
     rw [hh] at hr
     obtain ⟨⟨a0, l0, c0, e0⟩, _, hr⟩ := hr
     obtain ⟨Sb, hr⟩ := hr rfl
     obtain ⟨hl, hc⟩ := hH id g 1 n' e' f hh
     cases hm : μ id with
     | none =>
      rw [hm] at hr hc
      have hn0 : n = 0 := by omega
      subst hn0
      refine .mk hK (aT.str _) fun w' _ => c8 rfl ?_
      rw [show a.eval x = .slice none 0 0 from hr, run_convert_bytes_nil w' s e hu W4 0 0 d W5]
      rfl
     | some p =>
      obtain ⟨b, base⟩ := p
      rw [hm] at hr hc
      obtain ⟨ad, cap, ex, ig, wM, Jp⟩ := hr
      obtain ⟨cur, nO, vC, bp⟩ := cp.cells Jp hc
      rcases aeM n with h0 | h0
      ·subst h0
       refine .mk hK (aT.str _) fun w' _ => c8 rfl ?_
       rw [ex, run_convert_bytes_string w' s d e _ 0 cap hu W4 W5, run_bytesToString w' ad 0 cap [] (by simp [loadCells, loadCellsFrom])]
       rfl
      ·rw [wM agi, Nat.mul_one] at ex
       refine key b (base + off) cap n (fun i => f (off + i)) ex hb hK fun i v hi hv => ?_
       obtain ⟨u, q1, q2⟩ := bp (off + i) 0 (.int .u8 v) agi (by rw [hv]; rfl)
       have q2 : aT S w (.int .u8 v) u := q2
       cases q2
       rw [cell_of_row w b (base + off + i) cur e' (0, 0) nO, ← q1]
       congr 1
       omega
    ·exact afL
   ·exact afL
  ·exact afL
 ·exact afL
theorem Bd (ht : ∀ t, bG μ h S w (env t) (a.tmps.getD t undef)) (x : Operand) (hp : cm T (.nilCheck x) env h K) :
  dC P ⟨dst, .nilCheck x, ty, pos, after, guard⟩ a μ h S w K := by
 have hx := bQ ht x
 unfold cm at hp
 simp only at hp
 split at hp
 ·rename_i cs hex
  rw [hex] at hx
  obtain ⟨b, off, vf, ex, _⟩ := hx.wF
  exact .mk hp hx fun w' _ => by simp [execOp, ex]
 ·rename_i id gen i off hex
  rw [hex] at hx
  split at hp
  ·rename_i g sz n e f C9
   obtain ⟨rfl, hp⟩ := hp
   have hh := eW C9
   have hr := hx.tJ
   unfold bU at hr
   rw [hh] at hr
   obtain ⟨_, _, hr⟩ := hr
   obtain ⟨Ob, b, base, iH, Jp, hv⟩ := hr rfl
   exact .mk hp hx fun w' _ => by simp [execOp, hv]
  ·exact afL
 ·exact afL
theorem yV (hT : di P T) {s sz k o size : Nat} {fl : List (Nat × Nat × Bool)} {z : List PV} {ag : Bool} (gx : T.get s = .struct sz fl z) (hk : fl[k]? = some (o, size, ag)) (b off : Nat) (w' : World) :
  (Instr.fieldAt s (.pointer (some ⟨b, off, none⟩)) k).run P w' = .ok (.pointer (some ⟨b, off + o, none⟩)) w' := by
 obtain ⟨fs, i, hu, hi, iQ, yB, _, hf⟩ := hT.struct _ _ _ _ gx
 obtain ⟨f, j, d, h1, h2, h3, h4, h5, h6, h7⟩ := hf k o size ag hk
 have h0 : ¬ j.size = 0 := by omega
 simp [Instr.fieldAt, run_underlying hu, h1, Instr.sureAddr, fieldPlace, lu h3, h0, Addr.add_lit, h2]
theorem zx (hT : di P T) (ht : ∀ t, bG μ h S w (env t) (a.tmps.getD t undef)) (s : Nat) (x : Operand) (k : Nat) (hp : cm T (.fieldAddr s x k) env h K) :
  dC P ⟨dst, .fieldAddr s x k, ty, pos, after, guard⟩ a μ h S w K := by
 have hx := bQ ht x
 unfold cm at hp
 simp only at hp
 split at hp
 ·rename_i sz fl z gx
  split at hp
  ·rename_i o size ag hk
   split at hp
   ·rename_i cs hex
    rw [hex] at hx
    obtain ⟨b, off, vf, ex, hS, bp, mX⟩ := hx.wF
    refine .mk hp (aT.fx (cs.drop o) b (off + o) (fun j => vf (o + j)) hS (fun j pv hj => ?_) (fun j pv hj => ?_)) fun w' _ => c8 rfl (by rw [ex]; exact yV hT gx hk b off w')
    ·rw [afg] at hj
     rw [Nat.add_assoc]
     exact bp _ _ hj
    ·rw [afg] at hj
     exact mX _ _ hj
   ·rename_i id gen i off hex
    rw [hex] at hx
    split at hp
    ·rename_i g bV n e f C9
     obtain ⟨rfl, hp⟩ := hp
     have hh := eW C9
     have hr := hx.tJ
     unfold bU at hr
     rw [hh] at hr
     obtain ⟨_, _, hr⟩ := hr
     obtain ⟨Ob, b, base, iH, Jp, hv⟩ := hr rfl
     refine .mk hp ?_ fun w' _ => c8 rfl (by rw [hv]; exact yV hT gx hk b _ w')
     show bU _ _ _ _ _ _ _ _
     unfold bU
     rw [hh]
     exact ⟨⟨_, rfl⟩, aeb _, fun _ => ⟨Ob, b, base, iH, Jp, by simp only [Nat.add_assoc]⟩⟩
    ·exact afL
   ·exact afL
  ·exact afL
 ·exact afL
theorem wN (ht : ∀ t, bG μ h S w (env t) (a.tmps.getD t undef)) (sz : Nat) (fl : List (Nat × Nat × Bool)) (place : Nat → Option (Nat × Nat)) (FH : ∀ (k o size : Nat) (ag : Bool), fl[k]? = some (o, size, ag) → place k = some (o, size)) {K : List PV → Prop} :
  ∀ (l : List (Nat × Operand)) (acc : List PV) (cells : Array Value), pH env sz fl K l acc → cells.size = sz → acc.length = sz → (∀ (j : Nat) (pv : PV), acc[j]? = some pv → ∃ u, cells[j]? = some u ∧ bR μ h S w pv u) →
  ∃ LA jn, K LA ∧ Instr.fill place cells (l.map fun p => (p.1, a.eval p.2)) = some jn ∧ jn.size = sz ∧ LA.length = sz ∧ ∀ (j : Nat) (pv : PV), LA[j]? = some pv → ∃ u, jn[j]? = some u ∧ bR μ h S w pv u
 | [], acc, cells, hp, hs, hl, hr => ⟨acc, cells, hp, rfl, hs, hl, hr⟩
 | (k, x) :: r, acc, cells, hp, hs, hl, hr => by
  unfold pH at hp
  split at hp
  ·rename_i o size ag hk
   replace hp := bB (bX hp)
   obtain ⟨qq, hp⟩ := hp
   simp only [an] at qq
   obtain ⟨⟨vZ, hlen⟩, vC⟩ := qq
   have hlen := Is hlen
   have vC := aes vC
   obtain ⟨h3, h4⟩ := mG vZ (bQ ht x)
   simp only [aeO, aew] at h3 h4
   have Sx : (a.eval x).cells.size = size := h3.trans hlen
   obtain ⟨g1, g2⟩ := sC (a.eval x) o cells agi
   obtain ⟨LA, jn, q1, q2, q3⟩ := wN ht sz fl place FH r (fN acc o (cellsOf (ev env x))) ((a.eval x).cells.zipIdx.foldl (fun (cs : Array Value) (p : Value × Nat) => cs.setIfInBounds (o + p.2) p.1) cells) hp (g1.trans hs) (by rw [mF]; exact hl)
    (fun j pv hj => by
     rw [qp _ _ _ _ agi] at hj
     rw [g2 j]
     by_cases hc : o ≤ j ∧ j < o + size
     ·rw [if_pos agi] at hj
      rw [if_pos agi]
      exact h4 _ _ hj
     ·rw [if_neg agi] at hj
      rw [if_neg agi]
      exact hr j pv hj)
   refine ⟨LA, jn, q1, ?_, q3⟩
   simp only [aeg, Instr.fill, FH k o size ag hk]
   rw [if_neg (by simp only [Sx, ne_eq, not_true_eq_false, false_or]; simp only [aeH, decide_eq_true_eq, not_or]; simp; omega)]
   exact q2
  ·exact afL
theorem Db : ∀ (fs : List Field) (n : Nat) (fl : List (Nat × Nat × Bool)), fl.length = fs.length →
  (∀ (k o size : Nat) (ag : Bool), fl[k]? = some (o, size, ag) → ∃ f j, fs[k]? = some f ∧ f.offset = o ∧ P.info? f.type = some j ∧ j.size = size) →
  fs.mapM (fun f => (P.info? f.type).map fun i => (f.offset, i.size)) = some (fl.map fun q => (q.1, q.2.1))
 | [], n, [], _, _ => rfl
 | f :: fs, n, (o, size, ag) :: fl, hl, hf => by
  obtain ⟨f', j, h1, h2, h3, h4⟩ := hf 0 o size ag rfl
  simp at h1
  subst h1
  have ih := Db fs n fl (by simpa using hl) (fun k o size ag hk => by
   obtain ⟨f, j, q⟩ := hf (k + 1) o size ag (by simpa using hk)
   exact ⟨f, j, by simpa using q⟩)
  simp only [List.mapM_cons, aeg, h3, Option.map_some, Option.bind_eq_bind, Option.bind_some, ih, h2, h4]
  rfl
theorem He (hT : di P T) (ht : ∀ t, bG μ h S w (env t) (a.tmps.getD t undef)) (t : Nat) (parts : Array (Nat × Operand)) (hp : cm T (.build t parts) env h K) :
  dC P ⟨dst, .build t parts, ty, pos, after, guard⟩ a μ h S w K := by
 unfold cm at hp
 simp only at hp
 split at hp
 ·rename_i sz fl z gx
  obtain ⟨fs, i, hu, hi, iQ, yB, ⟨zv, hz, PY, PZ, Oh⟩, hf⟩ := hT.struct _ _ _ _ gx
  have FH := Db (P := P) fs.toList 0 fl (by simpa using yB) (fun k o size ag hk => by
   obtain ⟨f, j, d, h1, h2, h3, h4, _⟩ := hf k o size ag hk
   exact ⟨f, j, by simpa using h1, h2, h3, h4⟩)
  obtain ⟨LA, jn, q1, q2, q3, q4, q5⟩ := wN (a := a) (μ := μ) (h := h) (S := S) (w := w) ht sz fl ((fl.map fun q => (q.1, q.2.1)).toArray[·]?) (fun k o size ag hk => by simp [hk]) parts.toList z zv.cells hp PY PZ (fun j pv hj => by
   have Me : j < zv.cells.size := by
    have := (so.1 hj).1
    omega
   obtain ⟨fC, h5, _, h6⟩ := Oh j zv.cells[j] (aev Me)
   rw [hj] at h5
   injection h5 with h5
   subst h5
   exact ⟨_, aev Me, bR.j5 (h6 S w)⟩)
  refine .mk q1 ⟨jn, rfl, by omega, q5⟩ fun w' _ => c8 rfl (run_build w' t _ jn ?_)
  unfold Program.built
  simp only [hi, hu, hz, FH]
  have : (parts.map fun p => (p.1, a.eval p.2)).toList = parts.toList.map fun p => (p.1, a.eval p.2) := by simp
  rw [this]
  exact q2
 ·exact afL
theorem Hf {P : Program} {t : TypeId} {d : TypeDesc} {j : TypeInfo} (hu : P.underlying t = some d) (hi : P.info? t = some j) (cs : Array Value) (off : Nat) (w : World) :
  (part t cs off).run P w = if A2 d then .ok (.agg (cs.extract off (off + j.size))) w else match cs[off]? with | some v => .ok v w | none => (part t cs off).run P w := by
 cases hd : A2 d with
 | true => simp [part, wG hu, hd, lu hi]
 | false =>
  simp only [aeX, if_false]
  cases hc : cs[off]? with
  | none => rfl
  | some v => simp [part, wG hu, hd, hc]
theorem Hg (hT : di P T) (ht : ∀ t, bG μ h S w (env t) (a.tmps.getD t undef)) (s : Nat) (x : Operand) (k : Nat) (hp : cm T (.field s x k) env h K) :
  dC P ⟨dst, .field s x k, ty, pos, after, guard⟩ a μ h S w K := by
 have hx := bQ ht x
 unfold cm at hp
 simp only at hp
 split at hp
 ·rename_i sz fl z gx
  split at hp
  ·rename_i o size ag hk
   split at hp
   ·rename_i cs hex
    rw [hex] at hx
    obtain ⟨vs, ex, iQ, hv⟩ := hx
    obtain ⟨fs, i, hu, hi, p7, yB, _, hf⟩ := hT.struct _ _ _ _ gx
    obtain ⟨f, j, d, h1, h2, h3, h4, h5, h6, h7⟩ := hf k o size ag hk
    have lq : ∀ w' v, (part f.type vs f.offset).run P w' = .ok v w' → (execOp a.eval ⟨dst, .field s x k, ty, pos, after, guard⟩).run P w' = .ok (.value v) w' := fun w' v hr => c8 rfl (by
     rw [ex]
     simp [Instr.field, run_underlying hu, h1, hr, asAgg])
    split at hp
    ·obtain ⟨hle, hK⟩ := pG _ _ _ hp
     simp only [List.reverse_nil, aeS, List.length_drop] at hK hle
     refine .mk hK (val := .agg (vs.extract o (o + size))) ⟨_, rfl, by simp; omega, fun q pv hq => ?_⟩ fun w' _ => lq w' _ (by rw [Hf h6 h3, ← h7, if_pos rfl, h2, h4])
     rw [List.getElem?_take] at hq
     split at hq
     ·rename_i bP
      rw [afg] at hq
      obtain ⟨u, Md, FC⟩ := hv _ _ hq
      refine ⟨u, ?_, FC⟩
      rw [Array.getElem?_extract]
      have : o + q < vs.size := (aed.1 Md).1
      rw [if_pos agi]
      exact Md
     ·cases hq
    ·split at hp
     ·rename_i c r hd
      have h0 : cs[o]? = some c := by
       have := congrArg (·[0]?) hd
       simpa using this
      obtain ⟨u, Md, FC⟩ := hv _ _ h0
      exact .mk (bX hp) FC.v fun w' _ => lq w' _ (by rw [Hf h6 h3, ← h7, h2]; simp [Md])
     ·exact afL
   ·exact afL
  ·exact afL
 ·exact afL
theorem qN.LB {pv : PV} {v : Value} (hs : j4 pv = true) (hr : qN pv v) : bG μ h S w pv v := by
 have one : ∀ (pv : PV) (v : Value), tL pv = true → sB pv v → bR μ h S w pv v := fun pv v hs hr => by
  cases pv <;> first | (cases hs; done) | (have hr : v = _ := hr; subst hr; first | exact aT.int _ _ | exact aT.bool _ | exact aT.str _) | exact hr
 cases pv with
 | agg cs =>
  obtain ⟨vs, h1, h2, h3⟩ := hr
  exact ⟨vs, h1, h2, fun j pv hj => let ⟨u, hu, hc⟩ := h3 j pv hj; ⟨u, hu, one pv u (aei.1 hs _ (ael hj)) hc⟩⟩
 | jc => trivial
 | int k n => exact one (.int k n) v rfl hr
 | bool b => exact one (.bool b) v rfl hr
 | str s => exact one (.str s) v rfl hr
 | _ => cases hs
theorem qN.Zr {pv : PV} {v : Value} (hs : j4 pv = true) (hr : qN pv v) : jm μ h S w pv v := by
 have := qN.LB (μ := μ) (h := h) (S := S) (w := w) hs hr
 cases pv with
 | dG _ => cases hs
 | _ => exact this
theorem ET (hT : di P T) (hH : cp μ h S w) (ht : ∀ t, bG μ h S w (env t) (a.tmps.getD t undef)) (t : Nat) (x i : Operand) (ok : Bool) (hp : cm T (.lookup t x i ok) env h K) :
  dC P ⟨dst, .lookup t x i ok, ty, pos, after, guard⟩ a μ h S w K := by
 have hx := bQ ht x
 have hi := bQ ht i
 simp only [cm] at hp
 split at hp
 ·rename_i kt et zv id gx hex
  rw [hex] at hx
  split at hp
  ·rename_i g sz n e f C9
   replace hp := bB (bX hp)
   obtain ⟨hk, r, b, hm, hK⟩ := hp
   obtain ⟨hu, inf, z, lU, hz, iQ, Sy, vZ⟩ := hT.map _ _ _ _ gx
   obtain ⟨bl, base, es, c, iH, ex, hb, hn, Jt⟩ := A5 hH (eW C9) hx.ES
   obtain ⟨q0, h0⟩ := Option.isSome_iff_exists.1 hk
   obtain ⟨d, s, hd, K1, Oi⟩ := Kv hT hi h0
   have wO : ∀ m, m ≤ n → Dc (T.get kt) f m (ev env i) → ∀ j, j < m → ∀ y : MapEntry, es.toList[j]? = some y → tK P kt d s (a.eval i) y.key false := fun m hmn hM j hj y hy => by
    obtain ⟨kp, vp, h1, h2⟩ := hM j hj
    obtain ⟨W6, W7, en, h3, _, _, h4, h5, _⟩ := Jt j agi
    rw [h1] at h3
    injection h3 with e1 e2
    subst e1
    have : y = en := by rw [aew] at hy; exact aeq (hy.symm.trans h4)
    subst this
    exact Oi kp y.key false h5 h2
   have run : ∃ val, qN r val ∧ j4 r = true ∧ ∀ w', cy w w' → (Instr.lookup t (.map (some bl)) (a.eval i) ok).run P w' = .ok (if ok then .tuple #[val, .bool b] else val) w' := by
    rcases hm with ⟨rfl, i0, hi0, hM, kp, hf, hq⟩ | ⟨rfl, rfl, hM⟩
    ·obtain ⟨W6, W7, en, h3, _, h6, h4, h5, h7⟩ := Jt i0 hi0
     rw [hf] at h3
     injection h3 with e1 e2
     injection e2 with e2 _
     subst e1 e2
     refine ⟨en.val, h7, h6, fun w' ha => ?_⟩
     have nO : w'.heap[bl]? = some (.map es c) := (ha.blocks bl (aed.1 hb).1).trans hb
     have Be := A8 (P := P) (w' := w') hd es.toList i0 en (wO i0 agi hM) (by rw [aew]; exact h4) (Oi kp en.key true h5 hq)
     simp [Instr.lookup, run_underlying hu, run_getObj_map w' bl es c nO, K1, Be]
    ·refine ⟨z, iQ, Sy, fun w' ha => ?_⟩
     have nO : w'.heap[bl]? = some (.map es c) := (ha.blocks bl (aed.1 hb).1).trans hb
     have Be := wK (P := P) (w' := w') hd es.toList (fun j y hy => wO n (aeb _) hM j (by
      have := (so.1 hy).1
      rw [← hn]; simpa using this) y hy)
     simp [Instr.lookup, run_underlying hu, run_getObj_map w' bl es c nO, K1, Be, zeroValue, typeInfo, lU, hz]
   obtain ⟨val, hrv, hrs, lq⟩ := run
   cases ok with
   | true =>
    refine .mk hK ?_ fun w' ha => c8 rfl (by rw [ex]; exact lq w' ha)
    exact ⟨_, rfl, rfl, fun j pv hj => by
     rcases j with _ | _ | j
     ·cases hj; exact ⟨_, rfl, hrv.Zr hrs⟩
     ·cases hj; exact ⟨_, rfl, aT.bool _⟩
     ·simp at hj⟩
   | false => exact .mk (bX hK) (hrv.LB hrs) fun w' ha => c8 rfl (by rw [ex]; exact lq w' ha)
  ·exact afL
 ·exact afL
theorem Bf {env : Env} {K : List (Nat × Nat) → Prop} : ∀ (l : List Operand) (acc : List (Nat × Nat)), tM env K l acc → ∃ bN, K (acc.reverse ++ bN) ∧ bN.length = l.length ∧ ∀ (j : Nat) (x : Operand) (p : Nat × Nat), l[j]? = some x → bN[j]? = some p → ev env x = .aN p.1 p.2 0 0
 | [], acc, h => ⟨[], by rw [aeR]; exact h, rfl, fun j x p hx => by simp at hx⟩
 | x :: r, acc, h => by
  unfold tM at h
  split at h
  ·rename_i id gen he
   obtain ⟨bN, h1, h2, h3⟩ := Bf r _ h
   refine ⟨(id, gen) :: bN, by simpa using h1, by simp [h2], fun j y p hy hp => ?_⟩
   cases j with
   | zero => simp at hy hp; subst hy; subst hp; exact he
   | succ j => exact h3 j y p (by simpa using hy) agF
  ·exact h.elim
theorem Bg (ht : ∀ t, bG μ h S w (env t) (a.tmps.getD t undef)) (fn : Fn) (first captured : Array Operand) (hp : cm T (.makeFunc fn first captured) env h K) :
  dC P ⟨dst, .makeFunc fn first captured, ty, pos, after, guard⟩ a μ h S w K := by
 simp only [cm] at hp
 split at hp
 ·rename_i f
  obtain ⟨hf, hp⟩ := bB hp
  obtain ⟨bN, hK, hl, hc⟩ := Bf _ _ hp
  have QZ : first = #[] := by simpa [Array.isEmpty] using hf
  subst QZ
  refine .mk (val := .func (.func f) #[] (captured.map a.eval)) (by simpa using hK) ?_ fun w' ha => by first | rfl | simp [execOp, Instr.makeFunc]
  show n9 μ h w f bN _
  refine ⟨_, rfl, by simpa using hl.symm, fun j p hj => ?_⟩
  have bP : j < captured.toList.length := by rw [← hl]; exact (so.1 hj).1
  have hx := As bP
  refine ⟨a.eval captured.toList[j], by rw [Array.getElem?_map, ← aew, hx]; rfl, ?_⟩
  have he := hc j _ p hx hj
  have hv := bQ ht captured.toList[j]
  rw [he] at hv
  exact hv
 ·exact afL
theorem mY (hT : di P T) (hH : cp μ h S w) (ht : ∀ t, bG μ h S w (env t) (a.tmps.getD t undef)) {op : Op} (hp : cm T op env h K) :
  dC P ⟨dst, op, ty, pos, after, guard⟩ a μ h S w K := by
 cases op with
 | lookup t x i ok => exact ET hT hH ht t x i ok hp
 | makeFunc fn first captured => exact Bg ht fn first captured hp
 | move x => exact .mk (bX hp) (bQ ht x) fun _ _ => rfl
 | assign x => exact .mk (bX hp) (bQ ht x) fun _ _ => rfl
 | pick c x y =>
  have hc := bQ ht c
  simp only [cm] at hp
  split at hp
  ·rename_i b hex
   rw [hex] at hc
   have ec := hc.mD
   obtain ⟨h1, h2⟩ := kz hp
   cases b with
   | true => exact .mk (bX (h1 rfl)) (bQ ht x) fun w' _ => by simp [execOp, ec, asBool]
   | false => exact .mk (bX (h2 rfl)) (bQ ht y) fun w' _ => by simp [execOp, ec, asBool]
  ·exact afL
 | binOp bo t x y t' => exact Lv hT bo t t' x y _ _ (bQ ht x) (bQ ht y) hp
 | unOp u t x =>
  have hx := bQ ht x
  simp only [cm] at hp
  split at hp
  ·rename_i b hex
   rw [hex] at hx
   exact .mk hp (aT.bool _) fun w' _ => c8 rfl (by rw [hx.mD, unary_not]; rfl)
  ·rename_i k n hex
   rw [hex] at hx
   exact .mk hp (aT.int _ _) fun w' _ => c8 rfl (by rw [hx.kO, unary_neg]; rfl)
  ·exact afL
 | load t x => exact A9 hT hH t x _ (bQ ht x) hp
 | convert s d x => exact CF hT hH ht s d x hp
 | nilCheck x => exact Bd ht x hp
 | fieldAddr s x k => exact zx hT ht s x k hp
 | build t parts => exact He hT ht t parts hp
 | field s x k => exact Hg hT ht s x k hp
 | indexAddr t x i => exact Hb hT hH ht t x i hp
 | index t x i => exact Ba hT ht t x i hp
 | extract x i =>
  have hx := bQ ht x
  simp only [cm] at hp
  split at hp
  ·rename_i vs hex
   rw [hex] at hx
   split at hp
   ·rename_i v hv
    obtain ⟨us, e1, e2, e3⟩ := hx
    obtain ⟨u, hu, hr⟩ := e3 i v hv
    have hr' : bG μ h S w v u := by
     cases v with
     | dG ps => exact (show False from hr).elim
     | _ => exact hr
    exact .mk (bX hp) hr' fun w' _ => c8 rfl (by rw [e1]; simp [Instr.extract, hu])
   ·exact afL
  ·exact afL
 | slice t x lo hi mx => exact Hd hT hH ht t x lo hi mx hp
 | call c =>
  obtain ⟨Zs, args, ts⟩ := c
  cases Zs with
  | builtin b => cases b with
   | len => exact Lx hT hH ht args ts hp
   | _ => exact (show False from hp).elim
  | _ => exact (show False from hp).elim
 | _ => exact (show False from hp).elim
end
section
variable {P : Program} {T : oO} {μ : Mu} {h : List aj} {S : Nat → Prop} {w w1 : World}
def qs (μ : Mu) (id : Nat) (p : Option (Nat × Nat)) : Mu := fun j => if j = id then p else μ j
theorem bY (μ : Mu) (id : Nat) (p : Option (Nat × Nat)) : qs μ id p id = p := by simp [qs]
theorem eJ (μ : Mu) {id j : Nat} (p : Option (Nat × Nat)) (hj : j ≠ id) : qs μ id p j = μ j := by simp [qs, hj]
structure Core (μ : Mu) (h : List aj) (S : Nat → Prop) (w : World) : Prop where
 heap : cp μ h S w
 ok : sR μ h S w
theorem wP (hc : Core μ h S w) (id g g1 sz n n1 : Nat) (e : TypeId) (f f1 : Nat → List PV) (hh : h[id]? = some (aj.row g sz n e f)) (b1 Dd : Nat) (p8 : Array Value)
  (hg : g ≤ g1) (hg1 : g1 = g → μ id = some (b1, Dd) ∧ n1 = n)
  (hb : w.heap.size ≤ b1 ∨ ∃ base cur, μ id = some (b1, base) ∧ w.heap[b1]? = some (.cells cur e (0, 0)) ∧ cur.size = p8.size)
  (hw : w1.heap[b1]? = some (.cells p8 e (0, 0))) (vC : Dd + n1 * sz ≤ p8.size)
  (j6 : ∀ b, b < w.heap.size → b ≠ b1 → w1.heap[b]? = w.heap[b]?) (Bh : w.heap.size ≤ w1.heap.size) (hos : w1.os = w.os) (Oj : w1.tape = w.tape) (Ol : w1.output = w.output)
  (hl : ∀ i, i < n1 → (f1 i).length = sz) (Qn : ∀ b base, μ id = some (b, base) → ¬ rY w b)
  (bp : ∀ (i j : Nat) (pv : PV), i < n1 → (f1 i)[j]? = some pv → ∃ v : Value, p8[Dd + i * sz + j]? = some v ∧ oG μ h S w pv v) (Q0 : Nat)
  (wQ : ∀ (i j bV n' : Nat) (e' : TypeId) (f' : Nat → List PV) (F' : Nat → Prop), i < n1 → (f1 i)[j]? = some (.aY bV n' e' f' F') → Q0 + i < n ∧ (f (Q0 + i))[j]? = some (.aY bV n' e' f' F')) :
  Fr μ h S w (qs μ id (some (b1, Dd))) (h.set id (.row g1 sz n1 e f1)) S w1 ∧ Core (qs μ id (some (b1, Dd))) (h.set id (.row g1 sz n1 e f1)) S w1 := by
 have hid : id < h.length := (so.1 hh).1
 have jE : (h.set id (aj.row g1 sz n1 e f1))[id]? = some (aj.row g1 sz n1 e f1) := by simp [hid]
 have cQ : ∀ j, j ≠ id → (h.set id (aj.row g1 sz n1 e f1))[j]? = h[j]? := fun j hj => by rw [aeJ (Ne.symm hj)]
 have Zt : b1 < w1.heap.size := (aed.1 hw).1
 have Hh : b1 < w.heap.size → cz μ h b1 := fun bP => by
  rcases hb with hb | ⟨base, cur, hm, _, _⟩
  ·omega
  ·exact .inl ⟨id, g, sz, n, e, f, base, hh, hm⟩
 have fY : ∀ j x y b, dL (h.set id (aj.row g1 sz n1 e f1)) j x y b → dL h j (if j = id then Q0 + x else x) y b := fun j x y b ⟨gj, pI, nj, ej, fj, bV, n', e', f', F', q1, q2, q3, q4⟩ => by
  by_cases iN : j = id
  ·subst iN
   rw [jE] at q1
   injection q1 with q1
   injection q1 with e1 e2 e3 e4 e5
   subst e1 e2 e3 e4 e5
   obtain ⟨r1, r2⟩ := wQ x y _ _ _ _ _ q2 q3
   rw [if_pos rfl]
   exact ⟨_, _, _, _, _, _, _, _, _, _, hh, r1, r2, q4⟩
  ·rw [cQ j iN] at q1
   rw [if_neg iN]
   exact ⟨_, _, _, _, _, _, _, _, _, _, q1, q2, q3, q4⟩
 have Bi : ∀ j x y b, dL h j x y b → b < w.heap.size ∧ b ≠ b1 := fun j x y b hx => by
  have bP := hc.ok.lt b (.inr ⟨j, x, y, hx⟩)
  refine ⟨bP, ?_⟩
  rintro rfl
  rcases hb with hb | ⟨base, cur, hm, _, _⟩
  ·omega
  ·exact hc.ok.hv b ⟨id, g, sz, n, e, f, base, hh, hm⟩ j x y hx
 have lr : Fr μ h S w (qs μ id (some (b1, Dd))) (h.set id (.row g1 sz n1 e f1)) S w1 := by
  refine ⟨by simp, fun b bP wq => ?_, fun _ hb => hb, fun _ hb => .inl hb, fun b nO => ?_, Bh, hos, Oj, Ol, fun j gj pI nj ej fj hj => ?_, fun j hj => ?_, fun b k Bj ig => ?_, fun j gj pI nj ej fj b base hj hm nX => ?_, fun b j x y hx nX => ?_⟩
  rotate_right
  ·obtain ⟨q1, q2⟩ := Bi j x y b hx
   obtain ⟨es, c, q⟩ := nX
   exact ⟨es, c, (j6 b q1 q2).trans q⟩
  ·by_cases Kx : b = b1
   ·subst Kx; exact (wq (Hh bP)).elim
   ·exact j6 b bP Kx
  ·rcases nO with ⟨j, gj, pI, nj, ej, fj, sF, hj, hm⟩ | ⟨j, x, y, hx⟩
   rotate_left
   ·exact .inl (.inr ⟨_, _, _, fY j x y b hx⟩)
   by_cases iN : j = id
   ·subst iN
    rw [bY] at hm
    injection hm with hm
    injection hm with h1 h2
    subst h1
    rcases aeK b1 w.heap.size with bP | P0
    ·exact .inl (Hh bP)
    ·exact .inr P0
   ·rw [cQ j iN] at hj
    rw [eJ μ _ iN] at hm
    exact .inl (.inl ⟨j, gj, pI, nj, ej, fj, sF, hj, hm⟩)
  ·by_cases iN : j = id
   ·subst iN
    rw [hh] at hj
    injection hj with hj
    injection hj with e1 e2 e3 e4 e5
    subst e1 e2 e3 e4 e5
    rw [jE]
    refine ⟨hg, fun he => ?_⟩
    obtain ⟨h1, h2⟩ := hg1 he
    exact ⟨by rw [bY, h1], rfl, h2, rfl⟩
   ·rw [cQ j iN, hj]
    exact ⟨aeb _, fun _ => ⟨eJ μ _ iN, rfl, rfl, rfl⟩⟩
  ·have iN : j ≠ id := by rintro rfl; rw [hh] at hj; cases hj
   rw [cQ j iN]; exact hj
  ·by_cases Kx : b = b1
   ·subst Kx
    obtain ⟨cur, e', q1, q2⟩ := ig
    rcases hb with hb | ⟨base, Ju, hm, pJ, iQ⟩
    ·have := (aed.1 q1).1; omega
    ·rw [pJ] at q1
     injection q1 with q1
     injection q1 with q1 _ _
     subst q1
     exact ⟨p8, e, hw, by omega⟩
   ·exact kA.of_same (j6 b ig.lt Kx) ig
  ·have iN : j ≠ id := by rintro rfl; exact Qn b base hm nX
   have Kx : b ≠ b1 := by
    rintro rfl
    obtain ⟨es, c, q⟩ := nX
    rcases hb with hb | ⟨rk, Ju, Gh, pJ, _⟩
    ·have := (aed.1 q).1; omega
    ·rw [pJ] at q; cases q
   obtain ⟨es, c, q⟩ := nX
   exact ⟨⟨es, c, (j6 b (aed.1 q).1 Kx).trans q⟩, .inr ⟨⟨_, _, _, _, _, (cQ j iN).trans hj⟩, by rw [eJ μ _ iN]; exact hm⟩⟩
 refine ⟨lr, ⟨fun j gj pI nj ej fj hj => ?_, ?_⟩⟩
 ·by_cases iN : j = id
  ·subst iN
   rw [jE] at hj
   injection hj with hj
   injection hj with e1 e2 e3 e4 e5
   subst e1 e2 e3 e4 e5
   rw [bY]
   refine ⟨hl, cp.Hi ⟨p8, hw, vC, fun i k pv hi hk => ?_⟩⟩
   obtain ⟨v, h1, h2⟩ := bp i k pv hi hk
   refine ⟨v, h1, h2.fr lr hc.ok (fun bV n' e' f' F' he b nO => ?_)⟩
   rw [he] at hk
   obtain ⟨r1, r2⟩ := wQ i k _ _ _ _ _ hi hk
   obtain ⟨q1, q2⟩ := Bi j (Q0 + i) k b ⟨_, _, _, _, _, _, _, _, _, _, hh, r1, r2, nO⟩
   exact j6 b q1 q2
  ·rw [cQ j iN] at hj
   obtain ⟨h1, h2⟩ := hc.heap j gj pI nj ej fj hj
   refine ⟨h1, ?_⟩
   rw [eJ μ _ iN]
   cases hm : μ j with
   | none => rw [hm] at h2; exact h2
   | some p =>
    obtain ⟨b, base⟩ := p
    rw [hm] at h2
    obtain ⟨o, q1, q2⟩ := h2
    have bP : b < w.heap.size := (aed.1 q1).1
    have Kx : b ≠ b1 := by
     rintro rfl
     rcases hb with hb | ⟨rk, Ju, Gh, _⟩
     ·omega
     ·exact iN (hc.ok.inj j id _ _ _ _ _ _ _ _ _ _ _ _ _ hj hh hm Gh)
    exact ⟨o, (j6 b bP Kx).trans q1, q2.mono (fun i y pv v hi hy hr => hr.fr lr hc.ok (fun bV n' e' f' F' he b' nO => by
     obtain ⟨q1, q2⟩ := Bi j i y b' ⟨_, _, _, _, _, _, _, _, _, _, hj, hi, by rw [hy, he], nO⟩
     exact j6 b' q1 q2))⟩
 ·refine ⟨fun b Bj Q1 => ?_, fun b Bj => ?_, fun b Q1 => aez (hc.ok.slt b Q1) Bh, ?_, hc.ok.Bk lr, fun b W8 j x y hx => ?_, fun b j x y j' x' y' hx vD => ?_⟩
  rotate_right 2
  ·obtain ⟨q1, q2⟩ := Bi _ _ _ b (fY j x y b hx)
   obtain ⟨k, gk, W9, nk, ek, fk, Om, hk, hm⟩ := W8
   by_cases xZ : k = id
   ·subst xZ
    rw [bY] at hm
    injection hm with hm
    injection hm with h1 h2
    exact q2 h1.symm
   ·rw [cQ k xZ] at hk
    rw [eJ μ _ xZ] at hm
    exact hc.ok.hv b ⟨k, gk, W9, nk, ek, fk, Om, hk, hm⟩ _ _ _ (fY j x y b hx)
  ·obtain ⟨r1, r2, r3⟩ := hc.ok.hh b _ _ _ _ _ _ (fY j x y b hx) (fY j' x' y' b vD)
   subst r1
   refine ⟨rfl, ?_, r3⟩
   split at r2 <;> omega
  ·rcases lr.own b Bj with h1 | h1
   ·exact hc.ok.apart b h1 Q1
   ·have := hc.ok.slt b Q1; omega
  ·rcases Bj with ⟨j, gj, pI, nj, ej, fj, sF, hj, hm⟩ | ⟨j, x, y, hx⟩
   rotate_left
   ·exact aez (hc.ok.lt b (.inr ⟨_, _, _, fY j x y b hx⟩)) Bh
   by_cases iN : j = id
   ·subst iN
    rw [bY] at hm
    injection hm with hm
    injection hm with h1 h2
    subst h1
    exact Zt
   ·rw [cQ j iN] at hj
    rw [eJ μ _ iN] at hm
    exact aez (hc.ok.lt b (.inl ⟨j, gj, pI, nj, ej, fj, sF, hj, hm⟩)) Bh
  ·intro i j gi P1 ni ei fi gj pI nj ej fj b o o' hi hj p9 oH
   by_cases Mf : i = id
   ·by_cases iN : j = id
    ·rw [Mf, iN]
    ·subst Mf
     rw [bY] at p9
     injection p9 with p9
     injection p9 with h1 h2
     subst h1
     rw [cQ j iN] at hj
     rw [eJ μ _ iN] at oH
     rcases hb with hb | ⟨rk, Ju, Gh, _⟩
     ·have := hc.ok.lt _ (.inl ⟨j, gj, pI, nj, ej, fj, o', hj, oH⟩); omega
     ·exact hc.ok.inj i j _ _ _ _ _ _ _ _ _ _ _ _ _ hh hj Gh oH
   ·rw [cQ i Mf] at hi
    rw [eJ μ _ Mf] at p9
    by_cases iN : j = id
    ·subst iN
     rw [bY] at oH
     injection oH with oH
     injection oH with h1 h2
     subst h1
     rcases hb with hb | ⟨rk, Ju, Gh, _⟩
     ·have := hc.ok.lt _ (.inl ⟨i, gi, P1, ni, ei, fi, o, hi, p9⟩); omega
     ·exact hc.ok.inj i j _ _ _ _ _ _ _ _ _ _ _ _ _ hi hh p9 Gh
    ·rw [cQ j iN] at hj
     rw [eJ μ _ iN] at oH
     exact hc.ok.inj i j _ _ _ _ _ _ _ _ _ _ _ _ _ hi hj p9 oH
theorem De (hc : Core μ h S w) (sz n : Nat) (e : TypeId) (f : Nat → List PV) (p : Option (Nat × Nat))
  (hp : match p with
   | none => n = 0
   | some (b, base) => w.heap.size ≤ b ∧ ∃ o : Obj, w1.heap[b]? = some o ∧ vE (bR μ h S w) base sz n e f o)
  (ha : cy w w1) (hl : ∀ i, i < n → (f i).length = sz) (wQ : ∀ (i j : Nat) (pv : PV), i < n → (f i)[j]? = some pv → dK pv = false) :
  Fr μ h S w (qs μ h.length p) (h ++ [.row 0 sz n e f]) S w1 ∧ Core (qs μ h.length p) (h ++ [.row 0 sz n e f]) S w1 := by
 have qt : ∀ j o, h[j]? = some o → (h ++ [aj.row 0 sz n e f])[j]? = some o := fun j o hj => by
  rw [aeA (so.1 hj).1]; exact hj
 have zT : (h ++ [aj.row 0 sz n e f])[h.length]? = some (aj.row 0 sz n e f) := by simp
 have qu : ∀ j o, (h ++ [aj.row 0 sz n e f])[j]? = some o → (h[j]? = some o ∧ j ≠ h.length) ∨ (j = h.length ∧ o = aj.row 0 sz n e f) := fun j o hj => by
  rcases Nat.lt_trichotomy j h.length with bP | heq | C9
  ·rw [aeA bP] at hj; exact .inl ⟨hj, by omega⟩
  ·subst heq; rw [zT] at hj; injection hj with hj; exact .inr ⟨rfl, hj.symm⟩
  ·rw [aeC ago] at hj; cases hj
 have oa : ∀ j o, h[j]? = some o → qs μ h.length p j = μ j := fun j o hj => eJ μ _ (by have := (so.1 hj).1; omega)
 have fY : ∀ j x y b, dL (h ++ [aj.row 0 sz n e f]) j x y b → dL h j x y b := fun j x y b ⟨gj, pI, nj, ej, fj, bV, n', e', f', F', q1, q2, q3, q4⟩ => by
  rcases qu j _ q1 with ⟨h1, h2⟩ | ⟨h1, h2⟩
  ·exact ⟨_, _, _, _, _, _, _, _, _, _, h1, q2, q3, q4⟩
  ·injection h2 with e1 e2 e3 e4 e5
   subst e1 e2 e3 e4 e5
   have := wQ x y _ q2 q3
   cases this
 have lr : Fr μ h S w (qs μ h.length p) (h ++ [.row 0 sz n e f]) S w1 := by
  refine ⟨by simp, fun b bP _ => ha.blocks b bP, fun _ hb => hb, fun _ hb => .inl hb, fun b nO => ?_, ha.size, ha.os, ha.tape, ha.output, fun j gj pI nj ej fj hj => ?_, fun j hj => qt j _ hj, fun b k Bj ig => kA.of_same (ha.blocks b ig.lt) ig, fun j gj pI nj ej fj b base hj hm nX => ⟨let ⟨es, c, q⟩ := nX; ⟨es, c, (ha.blocks b (aed.1 q).1).trans q⟩, .inr ⟨⟨_, _, _, _, _, qt j _ hj⟩, by rw [oa j _ hj]; exact hm⟩⟩, fun b j x y hx nX => let ⟨es, c, q⟩ := nX; ⟨es, c, (ha.blocks b (aed.1 q).1).trans q⟩⟩
  ·rcases nO with ⟨j, gj, pI, nj, ej, fj, sF, hj, hm⟩ | ⟨j, x, y, hx⟩
   rotate_left
   ·exact .inl (.inr ⟨_, _, _, fY j x y b hx⟩)
   rcases qu j _ hj with ⟨h1, h2⟩ | ⟨h1, h2⟩
   ·rw [eJ μ _ h2] at hm
    exact .inl (.inl ⟨j, gj, pI, nj, ej, fj, sF, h1, hm⟩)
   ·subst h1
    rw [bY] at hm
    subst hm
    exact .inr hp.1
  ·rw [qt j _ hj]
   exact ⟨aeb _, fun _ => ⟨oa j _ hj, rfl, rfl, rfl⟩⟩
 refine ⟨lr, ⟨fun j gj pI nj ej fj hj => ?_, ?_⟩⟩
 ·rcases qu j _ hj with ⟨h1, h2⟩ | ⟨h1, h2⟩
  ·obtain ⟨q1, q2⟩ := hc.heap j gj pI nj ej fj h1
   refine ⟨q1, ?_⟩
   rw [eJ μ _ h2]
   cases hm : μ j with
   | none => rw [hm] at q2; exact q2
   | some p' =>
    obtain ⟨b, base⟩ := p'
    rw [hm] at q2
    obtain ⟨o, r1, r2⟩ := q2
    have bP : b < w.heap.size := (aed.1 r1).1
    exact ⟨o, (ha.blocks b bP).trans r1, r2.mono (fun i y pv v hi hy hr => hr.fr lr hc.ok (fun bV n' e' f' F' he b' nO => ha.blocks b' (hc.ok.lt b' (.inr ⟨j, i, y, _, _, _, _, _, _, _, _, _, _, h1, hi, he ▸ hy, nO⟩))))⟩
  ·subst h1
   injection h2 with e1 e2 e3 e4 e5
   subst e1 e2 e3 e4 e5
   rw [bY]
   refine ⟨hl, ?_⟩
   cases p with
   | none => exact hp
   | some p' =>
    obtain ⟨b, base⟩ := p'
    obtain ⟨_, o, r1, r2⟩ := hp
    exact ⟨o, r1, r2.mono (fun i y pv v hi hy hr => (hr.fr lr hc.ok).k (wQ i y pv hi hy))⟩
 ·refine ⟨fun b Bj Q1 => ?_, fun b Bj => ?_, fun b Q1 => aez (hc.ok.slt b Q1) ha.size, ?_, hc.ok.Bk lr, fun b W8 j x y hx => ?_, fun b j x y j' x' y' hx vD => hc.ok.hh b _ _ _ _ _ _ (fY j x y b hx) (fY j' x' y' b vD)⟩
  rotate_right
  ·have hx := fY j x y b hx
   obtain ⟨k, gk, W9, nk, ek, fk, Om, hk, hm⟩ := W8
   rcases qu k _ hk with ⟨h1, h2⟩ | ⟨h1, h2⟩
   ·rw [eJ μ _ h2] at hm
    exact hc.ok.hv b ⟨k, gk, W9, nk, ek, fk, Om, h1, hm⟩ _ _ _ hx
   ·subst h1
    rw [bY] at hm
    subst hm
    have := hc.ok.lt b (.inr ⟨_, _, _, hx⟩)
    have := hp.1
    omega
  ·rcases lr.own b Bj with h1 | h1
   ·exact hc.ok.apart b h1 Q1
   ·have := hc.ok.slt b Q1; omega
  ·rcases Bj with ⟨j, gj, pI, nj, ej, fj, sF, hj, hm⟩ | ⟨j, x, y, hx⟩
   rotate_left
   ·exact aez (hc.ok.lt b (.inr ⟨_, _, _, fY j x y b hx⟩)) ha.size
   rcases qu j _ hj with ⟨h1, h2⟩ | ⟨h1, h2⟩
   ·rw [eJ μ _ h2] at hm
    exact aez (hc.ok.lt b (.inl ⟨j, gj, pI, nj, ej, fj, sF, h1, hm⟩)) ha.size
   ·subst h1
    rw [bY] at hm
    subst hm
    obtain ⟨_, o, r1, _⟩ := hp
    exact (aed.1 r1).1
  ·intro i j gi P1 ni ei fi gj pI nj ej fj b o o' hi hj p9 oH
   rcases qu i _ hi with ⟨h1, h2⟩ | ⟨h1, h2⟩
   ·rw [eJ μ _ h2] at p9
    rcases qu j _ hj with ⟨h3, h4⟩ | ⟨h3, h4⟩
    ·rw [eJ μ _ h4] at oH
     exact hc.ok.inj i j _ _ _ _ _ _ _ _ _ _ _ _ _ h1 h3 p9 oH
    ·subst h3
     rw [bY] at oH
     subst oH
     have := hc.ok.lt _ (.inl ⟨i, gi, P1, ni, ei, fi, o, h1, p9⟩)
     have := hp.1
     omega
   ·subst h1
    rw [bY] at p9
    rcases qu j _ hj with ⟨h3, h4⟩ | ⟨h3, h4⟩
    ·rw [eJ μ _ h4] at oH
     subst p9
     have := hc.ok.lt _ (.inl ⟨j, gj, pI, nj, ej, fj, o', h3, oH⟩)
     have := hp.1
     omega
    ·exact h3.symm
theorem rl (hc : Core μ h S w) (sz n : Nat) (e : TypeId) (f : Nat → List PV) (p : Option (Nat × Nat))
  (hp : match p with
   | none => n = 0
   | some (b, base) => w.heap.size ≤ b ∧ ∃ cur : Array Value, w1.heap[b]? = some (.cells cur e (0, 0)) ∧ base + n * sz ≤ cur.size ∧
    ∀ (i j : Nat) (pv : PV), i < n → (f i)[j]? = some pv → ∃ v : Value, cur[base + i * sz + j]? = some v ∧ bR μ h S w pv v)
  (ha : cy w w1) (hl : ∀ i, i < n → (f i).length = sz) (wQ : ∀ (i j : Nat) (pv : PV), i < n → (f i)[j]? = some pv → dK pv = false) :
  Fr μ h S w (qs μ h.length p) (h ++ [.row 0 sz n e f]) S w1 ∧ Core (qs μ h.length p) (h ++ [.row 0 sz n e f]) S w1 := by
 refine De hc sz n e f p ?_ ha hl wQ
 cases p with
 | none => exact hp
 | some q => exact ⟨hp.1, cp.Hi hp.2⟩
theorem kA.EU {b k : Nat} (h : kA w b k) : ¬ rY w b := by
 rintro ⟨es, c, q⟩
 obtain ⟨cur, e, h1, _⟩ := h
 rw [h1] at q; cases q
end
theorem nP.refl : ∀ (l : List PV), nP l l
 | [] => trivial
 | a :: l => ⟨.same a, nP.refl l⟩
theorem nP.len : ∀ {l r : List PV}, nP l r → r.length = l.length
 | [], [], _ => rfl
 | a :: l, b :: r, h => by simp [nP.len h.2]
 | [], _ :: _, h => h.elim
 | _ :: _, [], h => h.elim
theorem nP.get : ∀ {l r : List PV}, nP l r → ∀ {j : Nat} {b : PV}, r[j]? = some b → ∃ a, l[j]? = some a ∧ Mg a b
 | [], [], _, j, b, hj => by simp at hj
 | a :: l, c :: r, h, 0, b, hj => by simp at hj; subst hj; exact ⟨a, rfl, h.1⟩
 | a :: l, c :: r, h, j + 1, b, hj => by
  obtain ⟨x, q1, q2⟩ := nP.get h.2 (j := j) agt
  exact ⟨x, by simpa using q1, q2⟩
 | [], _ :: _, h, _, _, _ => h.elim
 | _ :: _, [], h, _, _, _ => h.elim
theorem nP.Zu : ∀ {l r : List PV}, nP l r → ∀ {j : Nat} {a : PV}, l[j]? = some a → ∃ b, r[j]? = some b ∧ Mg a b
 | [], [], _, j, b, hj => by simp at hj
 | a :: l, c :: r, h, 0, b, hj => by simp at hj; subst hj; exact ⟨c, rfl, h.1⟩
 | a :: l, c :: r, h, j + 1, b, hj => by
  obtain ⟨x, q1, q2⟩ := nP.Zu h.2 (j := j) agt
  exact ⟨x, by simpa using q1, q2⟩
 | [], _ :: _, h, _, _, _ => h.elim
 | _ :: _, [], h, _, _, _ => h.elim
theorem Mg.VN {a b : PV} (h : Mg a b) {μ : Mu} {l : List aj} {S : Nat → Prop} {w : World} {v : Value} (hr : bR μ l S w a v) : bR μ l S w b v := by
 cases h with
 | same => exact hr
 | nil sz f =>
  have hr : aT S w .aO v := hr
  cases hr
  exact aT.p6 _ _ _ _
 | we sz e f => exact bR.one hr
def OEq : aj → aj → Prop
 | .row g sz n e f, .row g' bV n' e' f' => g = g' ∧ sz = bV ∧ n = n' ∧ e = e' ∧ ∀ i, i < n → nP (f i) (f' i)
 | .dead, .dead => True
 | _, _ => False
def dO : List aj → List aj → Prop
 | [], [] => True
 | o :: l, o' :: l' => OEq o o' ∧ dO l l'
 | _, _ => False
theorem dO.len : ∀ {l l' : List aj}, dO l l' → l.length = l'.length
 | [], [], _ => rfl
 | o :: l, o' :: l', h => by simp [dO.len h.2]
 | [], _ :: _, h => h.elim
 | _ :: _, [], h => h.elim
theorem dO.get : ∀ {l l' : List aj}, dO l l' → ∀ {j : Nat} {g sz n : Nat} {e : TypeId} {f : Nat → List PV}, l[j]? = some (aj.row g sz n e f) → ∃ f', l'[j]? = some (aj.row g sz n e f') ∧ ∀ i, i < n → nP (f i) (f' i)
 | o :: l, o' :: l', h, 0, g, sz, n, e, f, hj => by
  simp at hj
  subst hj
  cases o' with
  | dead => exact h.1.elim
  | row g' bV n' e' f' =>
   obtain ⟨rfl, rfl, rfl, rfl, hf⟩ := h.1
   exact ⟨f', rfl, hf⟩
 | o :: l, o' :: l', h, j + 1, g, sz, n, e, f, hj => by
  simp at hj
  obtain ⟨f', h1, h2⟩ := dO.get h.2 hj
  exact ⟨f', by simpa using h1, h2⟩
 | [], [], _, _, _, _, _, _, _, hj => by simp at hj
 | [], _ :: _, h, _, _, _, _, _, _, _ => h.elim
 | _ :: _, [], h, _, _, _, _, _, _, _ => h.elim
theorem dO.LC : ∀ {l l' : List aj}, dO l l' → ∀ {j : Nat} {g sz n : Nat} {e : TypeId} {f' : Nat → List PV}, l'[j]? = some (aj.row g sz n e f') → ∃ f, l[j]? = some (aj.row g sz n e f) ∧ ∀ i, i < n → nP (f i) (f' i)
 | o :: l, o' :: l', h, 0, g, sz, n, e, f', hj => by
  simp at hj
  subst hj
  cases o with
  | dead => exact h.1.elim
  | row g' bV n' e' f =>
   obtain ⟨rfl, rfl, rfl, rfl, hf⟩ := h.1
   exact ⟨f, rfl, hf⟩
 | o :: l, o' :: l', h, j + 1, g, sz, n, e, f', hj => by
  simp at hj
  obtain ⟨f, h1, h2⟩ := dO.LC h.2 hj
  exact ⟨f, by simpa using h1, h2⟩
 | [], [], _, _, _, _, _, _, _, hj => by simp at hj
 | [], _ :: _, h, _, _, _, _, _, _, _ => h.elim
 | _ :: _, [], h, _, _, _, _, _, _, _ => h.elim
theorem dO.getD : ∀ {l l' : List aj}, dO l l' → ∀ {j : Nat}, l[j]? = some aj.dead → l'[j]? = some aj.dead
 | o :: l, o' :: l', h, 0, hj => by
  simp at hj
  subst hj
  cases o' with
  | dead => rfl
  | row g' bV n' e' f' => exact h.1.elim
 | o :: l, o' :: l', h, j + 1, hj => by
  simp at hj
  simpa using dO.getD h.2 hj
 | [], [], _, _, hj => by simp at hj
 | [], _ :: _, h, _, _ => h.elim
 | _ :: _, [], h, _, _ => h.elim
theorem dO.Q2 {l l' : List aj} (h : dO l l') {id i j b : Nat} (ho : dL l' id i j b) : dL l id i j b := by
 obtain ⟨g, sz, n, e, f', bV, n', e', f2, F', q1, q2, q3, q4⟩ := ho
 obtain ⟨f, r1, r2⟩ := h.LC q1
 obtain ⟨a, ha, hle⟩ := (r2 i q2).get q3
 cases hle with
 | same => exact ⟨_, _, _, _, _, _, _, _, _, _, r1, q2, ha, q4⟩
 | we => exact q4.elim
theorem dO.Zv {l l' : List aj} (h : dO l l') {μ : Mu} {b : Nat} (ho : B5 μ l' b) : B5 μ l b := by
 obtain ⟨id, g, sz, n, e, f, base, h1, h2⟩ := ho
 obtain ⟨f', h3, _⟩ := h.LC h1
 exact ⟨id, g, sz, n, e, f', base, h3, h2⟩
theorem dO.x7 {l l' : List aj} (h : dO l l') {μ : Mu} {b : Nat} (ho : cz μ l' b) : cz μ l b := by
 rcases ho with ho | ⟨id, i, j, ho⟩
 ·exact .inl (h.Zv ho)
 ·exact .inr ⟨id, i, j, h.Q2 ho⟩
theorem dO.hid {l l' : List aj} (h : dO l l') {id i j b : Nat} (ho : dL l id i j b) : dL l' id i j b := by
 obtain ⟨g, sz, n, e, f, bV, n', e', f2, F', q1, q2, q3, q4⟩ := ho
 obtain ⟨f', r1, r2⟩ := h.get q1
 obtain ⟨c, hc, hle⟩ := (r2 i q2).Zu q3
 cases hle
 exact ⟨_, _, _, _, _, _, _, _, _, _, r1, q2, hc, q4⟩
theorem dO.owned {l l' : List aj} (h : dO l l') {μ : Mu} {b : Nat} (ho : cz μ l b) : cz μ l' b := by
 rcases ho with ⟨id, g, sz, n, e, f, base, h1, h2⟩ | ⟨x, y, z, ho⟩
 ·obtain ⟨f', h3, _⟩ := h.get h1
  exact .inl ⟨id, g, sz, n, e, f', base, h3, h2⟩
 ·exact .inr ⟨_, _, _, h.hid ho⟩
theorem dO.own {l l' : List aj} (h : dO l l') {μ : Mu} {w : World} {id gen off len : Nat} {v : Value} (hr : bE μ l w id gen off len v) : bE μ l' w id gen off len v := by
 unfold bE at *
 refine ⟨hr.1, ?_⟩
 have hr := hr.2
 cases ho : l[id]? with
 | none => rw [ho] at hr; exact hr.elim
 | some o =>
  cases o with
  | dead => rw [h.getD ho]; trivial
  | row g sz n e f =>
   obtain ⟨f', h1, _⟩ := h.get ho
   rw [ho] at hr
   rw [h1]
   exact hr
theorem dO.aN {l l' : List aj} (h : dO l l') {μ : Mu} {id gen i off : Nat} {v : Value} {w : World} (hr : bU μ l w id gen i off v) : bU μ l' w id gen i off v := by
 unfold bU at *
 refine ⟨hr.1, ?_⟩
 have hr := hr.2
 cases ho : l[id]? with
 | none => rw [ho] at hr; exact hr.elim
 | some o =>
  cases o with
  | dead => rw [h.getD ho]; trivial
  | row g sz n e f =>
   obtain ⟨f', h1, _⟩ := h.get ho
   rw [ho] at hr
   rw [h1]
   exact hr
theorem Mg.Q3 {a b : PV} (h : Mg a b) (ha : j4 a = true) : b = a := by
 cases h with
 | same => rfl
 | _ => cases ha
theorem nP.Q3 {kp vp : PV} {l : List PV} (h : nP [kp, vp] l) (h1 : j4 kp = true) (h2 : j4 vp = true) : l = [kp, vp] := by
 rcases l with _ | ⟨a, _ | ⟨b, _ | ⟨c, l⟩⟩⟩
 ·exact h.elim
 ·exact h.2.elim
 ·rw [h.1.Q3 h1, h.2.1.Q3 h2]
 ·exact h.2.2.elim
theorem dO.kN {l l' : List aj} (h : dO l l') {μ : Mu} {w : World} {id : Nat} {v : Value} (hr : fX μ l w id v) : fX μ l' w id v := by
 unfold fX at *
 refine ⟨hr.1, ?_⟩
 have hr := hr.2
 cases ho : l[id]? with
 | none => rw [ho] at hr; exact hr.elim
 | some o =>
  cases o with
  | dead => rw [h.getD ho]; trivial
  | row g sz n e f =>
   obtain ⟨f', h1, _⟩ := h.get ho
   rw [ho] at hr
   rw [h1]
   exact hr
theorem dO.om {l l' : List aj} (h : dO l l') {μ : Mu} {w : World} {f : Nat} {bN : List (Nat × Nat)} {v : Value} (hr : n9 μ l w f bN v) : n9 μ l' w f bN v := sS.mono hr (fun id g u hu => h.aN hu)
theorem dO.VN {l l' : List aj} (h : dO l l') {μ : Mu} {S : Nat → Prop} {w : World} {pv : PV} {v : Value} (hr : bR μ l S w pv v) : bR μ l' S w pv v := by
 cases pv with
 | own id gen off len => exact h.own hr
 | aN id gen i off => exact h.aN hr
 | kN id => exact h.kN hr
 | om f bN => exact h.om hr
 | _ => exact hr
theorem dO.VO {l l' : List aj} (h : dO l l') {μ : Mu} {S : Nat → Prop} {w : World} {pv : PV} {v : Value} (hr : oG μ l S w pv v) : oG μ l' S w pv v := by
 cases pv with
 | aY sz n e f F => exact hr
 | _ => exact bR.k (h.VN (oG.c hr)) rfl
theorem Mg.VO {a b : PV} (h : Mg a b) {μ : Mu} {l : List aj} {S : Nat → Prop} {w : World} {v : Value} (hr : oG μ l S w a v) : oG μ l S w b v := by
 cases h with
 | same => exact hr
 | nil sz f =>
  have hr : aT S w .aO v := hr
  cases hr
  exact aT.p6 _ _ _ _
 | we sz e f =>
  have hr : aT S w .aO v := hr
  cases hr
  exact lE.nil _ _ _ _ (fun _ h => h)
theorem dO.LB {l l' : List aj} (h : dO l l') {μ : Mu} {S : Nat → Prop} {w : World} {pv : PV} {v : Value} (hr : jm μ l S w pv v) : jm μ l' S w pv v := by
 cases pv with
 | own id gen off len => exact h.own hr
 | aN id gen i off => exact h.aN hr
 | kN id => exact h.kN hr
 | om f bN => exact h.om hr
 | agg cs =>
  obtain ⟨vs, h1, h2, h3⟩ := hr
  exact ⟨vs, h1, h2, fun j pv hj => by obtain ⟨u, hu, hc⟩ := h3 j pv hj; exact ⟨u, hu, h.VN hc⟩⟩
 | _ => exact hr
theorem dO.refl : ∀ (l : List aj), dO l l
 | [] => trivial
 | .row g sz n e f :: l => ⟨⟨rfl, rfl, rfl, rfl, fun _ _ => nP.refl _⟩, dO.refl l⟩
 | .dead :: l => ⟨trivial, dO.refl l⟩
theorem dO.set : ∀ (l : List aj) (id g sz n : Nat) (e : TypeId) (f f' : Nat → List PV), (∀ i, i < n → nP (f i) (f' i)) → dO (l.set id (.row g sz n e f)) (l.set id (.row g sz n e f'))
 | [], _, _, _, _, _, _, _, _ => trivial
 | o :: l, 0, g, sz, n, e, f, f', hf => ⟨⟨rfl, rfl, rfl, rfl, hf⟩, dO.refl l⟩
 | o :: l, id + 1, g, sz, n, e, f, f', hf => ⟨by cases o; exact ⟨rfl, rfl, rfl, rfl, fun _ _ => nP.refl _⟩; exact trivial, dO.set l id g sz n e f f' hf⟩
theorem dO.snoc : ∀ (l : List aj) (g sz n : Nat) (e : TypeId) (f f' : Nat → List PV), (∀ i, i < n → nP (f i) (f' i)) → dO (l ++ [.row g sz n e f]) (l ++ [.row g sz n e f'])
 | [], g, sz, n, e, f, f', hf => ⟨⟨rfl, rfl, rfl, rfl, hf⟩, trivial⟩
 | o :: l, g, sz, n, e, f, f', hf => ⟨by cases o; exact ⟨rfl, rfl, rfl, rfl, fun _ _ => nP.refl _⟩; exact trivial, dO.snoc l g sz n e f f' hf⟩
theorem dO.acG {l l' : List aj} (h : dO l l') {μ : Mu} {S : Nat → Prop} {w : World} {pv : PV} {v : Value} (hr : bG μ l S w pv v) : bG μ l' S w pv v := by
 cases pv with
 | dG ps =>
  obtain ⟨vs, h1, h2, h3⟩ := hr
  exact ⟨vs, h1, h2, fun j pv hj => by obtain ⟨u, hu, hc⟩ := h3 j pv hj; exact ⟨u, hu, h.LB hc⟩⟩
 | own id gen off len => exact h.own hr
 | aN id gen i off => exact h.aN hr
 | kN id => exact h.kN hr
 | om f bN => exact h.om hr
 | agg cs => exact h.LB (pv := .agg cs) hr
 | _ => exact hr
theorem dO.core {l l' : List aj} (he : dO l l') {μ : Mu} {S : Nat → Prop} {w : World} (hc : Core μ l S w) : Core μ l' S w := by
 refine ⟨fun id g sz n e f hid => ?_, ⟨fun b hb => hc.ok.apart b (he.x7 hb), fun b hb => hc.ok.lt b (he.x7 hb), hc.ok.slt, fun i j g sz n e f g' bV n' e' f' b o o' hi hj h1 h3 => ?_, hc.ok.known, fun b hb id i j hx => hc.ok.hv b (he.Zv hb) id i j (he.Q2 hx), fun b _ _ _ _ _ _ hx hy => hc.ok.hh b _ _ _ _ _ _ (he.Q2 hx) (he.Q2 hy)⟩⟩
 ·obtain ⟨f', h1, h3⟩ := he.LC hid
  obtain ⟨q1, q2⟩ := hc.heap id g sz n e f' h1
  refine ⟨fun i hi => by rw [(h3 i hi).len]; exact q1 i hi, ?_⟩
  cases hm : μ id with
  | none => rw [hm] at q2; exact q2
  | some p =>
   obtain ⟨b, base⟩ := p
   rw [hm] at q2
   obtain ⟨o, r1, r2⟩ := q2
   refine ⟨o, r1, ?_⟩
   cases o with
   | cells cur e' z =>
    obtain ⟨r2, r3, r4, r5⟩ := r2
    refine ⟨r2, r3, r4, fun i j pv hi hj => ?_⟩
    obtain ⟨a, ha, hle⟩ := (h3 i hi).get hj
    obtain ⟨v, hv, Sw⟩ := r5 i j a hi ha
    exact ⟨v, hv, he.VO (hle.VO Sw)⟩
   | map es c =>
    obtain ⟨r2, r3⟩ := r2
    refine ⟨r2, fun i hi => ?_⟩
    obtain ⟨kp, vp, en, s1, s2, s3, s4⟩ := r3 i hi
    have hle := h3 i hi
    rw [s1] at hle
    exact ⟨kp, vp, en, hle.Q3 s2 s3, s2, s3, s4⟩
   | _ => exact r2.elim
 ·obtain ⟨fi, q1, _⟩ := he.LC hi
  obtain ⟨fj, q2, _⟩ := he.LC hj
  exact hc.ok.inj i j g sz n e fi g' bV n' e' fj b o o' q1 q2 h1 h3
theorem dO.fr {l l' : List aj} (he : dO l l') {μ0 μ : Mu} {h0 : List aj} {S0 S : Nat → Prop} {w0 w : World} (hF : Fr μ0 h0 S0 w0 μ l S w) : Fr μ0 h0 S0 w0 μ l' S w := by
 refine ⟨by rw [← he.len]; exact hF.len, hF.blocks, hF.sub, hF.new, fun b hb => hF.own b (he.x7 hb), hF.size, hF.os, hF.tape, hF.output, fun id g sz n e f hid => ?_, fun id hid => he.getD (hF.dead id hid), hF.bN, fun id g sz n e f b base hj hm nX => ?_, hF.u5⟩
 rotate_left
 ·obtain ⟨r1, r2⟩ := hF.maps id g sz n e f b base hj hm nX
  refine ⟨r1, ?_⟩
  rcases r2 with r2 | ⟨⟨g', bV, n', e', f', r2⟩, r3⟩
  ·exact .inl (he.getD r2)
  ·obtain ⟨f2, h1, _⟩ := he.get r2
   exact .inr ⟨⟨_, _, _, _, _, h1⟩, r3⟩
 have hg := hF.Bl id g sz n e f hid
 cases ho : l[id]? with
 | none => rw [ho] at hg; exact hg.elim
 | some o =>
  cases o with
  | dead => rw [he.getD ho]; trivial
  | row g' bV n' e' f' =>
   obtain ⟨f2, h1, _⟩ := he.get ho
   rw [ho] at hg
   rw [h1]
   exact hg
section
variable {P : Program} {T : oO} {μ : Mu} {h : List aj} {S : Nat → Prop} {w : World}
def gf (P : Program) (o : Oper) (a : Act) (μ : Mu) (h : List aj) (S : Nat → Prop) (w : World) (K : PV → List aj → Prop) : Prop :=
 ∀ (next : Act → World → Prop) (Q : Exit → Act → World → Prop),
  (∀ v val h' μ' S' w', K v h' → bG μ' h' S' w' v val → Core μ' h' S' w' → Fr μ h S w μ' h' S' w' → next (a.put o.dst val) w') → o.wp P a w next Q
theorem gf.rows {o : Oper} {a : Act} {K : PV → List aj → Prop} (hA : gf P o a μ h S w (fun v h1 => ∃ h2, dO h1 h2 ∧ K v h2)) : gf P o a μ h S w K := by
 intro next Q hn
 refine hA next Q fun v val h' μ' S' w' ⟨h2, he, hK⟩ hv hc hf => ?_
 exact hn v val h2 μ' S' w' hK (he.acG hv) (he.core hc) (he.fr hf)
theorem gf.rm {o : Oper} {a : Act} {K : PV → List aj → Prop} (hc : Core μ h S w) (hs : dC P o a μ h S w (fun v => K v h)) : gf P o a μ h S w K := by
 obtain ⟨v, val, hK, hv, hr⟩ := hs
 intro next Q hn
 unfold Oper.wp
 rw [hr w (cy.refl w)]
 exact hn v val h μ S w hK hv hc Fr.refl
theorem gf.jo {o : Oper} {a : Act} {K : PV → List aj → Prop} {v : PV} {val : Value} {h' : List aj} {μ' : Mu} {S' : Nat → Prop} {w' : World} (hr : (execOp a.eval o).run P w = .ok (.value val) w') (hK : K v h') (hv : bG μ' h' S' w' v val)
  (hc : Core μ' h' S' w') (hf : Fr μ h S w μ' h' S' w') : gf P o a μ h S w K := by
 intro next Q hn
 unfold Oper.wp
 rw [hr]
 exact hn v val h' μ' S' w' hK hv hc hf
theorem gf.Ky {o : Oper} {a : Act} {K : PV → List aj → Prop} {h' : List aj} {μ' : Mu} {S' : Nat → Prop} {w' : World} (hr : (execOp a.eval o).run P w = .ok .skip w') (hK : K .jc h')
  (hc : Core μ' h' S' w') (hf : Fr μ h S w μ' h' S' w') : gf P o a μ h S w K := by
 intro next Q hn
 unfold Oper.wp
 rw [hr]
 exact hn .jc undef h' μ' S' w' hK trivial hc hf
theorem Q4 (hT : di P T) {t : Nat} {n : Nat} (hn : kW (T.get t) = n) (Ct : 0 < n) : ∃ i, P.info? t = some i ∧ i.size = n := by
 cases gx : T.get t with
 | struct sz fl z =>
  obtain ⟨fs, i, _, hi, iQ, _⟩ := hT.struct _ _ _ _ gx
  rw [gx] at hn
  exact ⟨i, hi, iQ.trans hn⟩
 | other => rw [gx] at hn; simp [kW] at hn; omega
 | _ =>
  rw [gx] at hn
  have h1 : n = 1 := hn.symm
  subst h1
  refine hT.one t ?_ ?_
  ·rw [gx]; rfl
  ·intro sz fl z hh; rw [gx] at hh; cases hh
variable {a : Act} {env : Env} {K : PV → List aj → Prop} {dst : Option Tmp} {ty : TypeId} {pos : String} {after : Array Edge} {guard : Option (Nat × Bool)}
theorem vF (cur vs : List Value) (o q : Nat) (hl : o + vs.length ≤ cur.length) :
  (cur.take o ++ vs ++ cur.drop (o + vs.length))[q]? = if o ≤ q ∧ q < o + vs.length then vs[q - o]? else cur[q]? := by
 have h1 : (cur.take o).length = o := by simp; omega
 by_cases ha : q < o
 ·rw [if_neg agi, aek, aeA agi, List.getElem?_take, if_pos ha]
 ·by_cases hb : q < o + vs.length
  ·rw [if_pos ⟨by omega, hb⟩, aeA ago, aeu agi, h1]
  ·rw [if_neg agi, aeu ago, afg]
   congr 1
   simp
   omega
theorem Hj (hT : di P T) (hc : Core μ h S w) (ht : ∀ t, bG μ h S w (env t) (a.tmps.getD t undef)) (t : Nat) (ad x : Operand) (hp : pop P T (.store t ad x) env h K) :
  gf P ⟨dst, .store t ad x, ty, pos, after, guard⟩ a μ h S w K := by
 have hx := bQ ht x
 have wM := bQ ht ad
 simp only [pop] at hp
 split at hp
 ·rename_i id gen i off hea
  rw [hea] at wM
  split at hp
  ·rename_i g sz n e f hg
   obtain ⟨rfl, hp⟩ := hp
   replace hp := bB (bX hp)
   obtain ⟨qq, hK⟩ := hp
   simp only [an] at qq
   obtain ⟨⟨⟨vZ, Ct⟩, hty⟩, hle⟩ := qq
   have Ct := aes Ct
   have hty := Is hty
   have hle := aes hle
   have hh := eW hg
   have hr := wM.tJ
   unfold bU at hr
   rw [hh] at hr
   obtain ⟨_, _, hr⟩ := hr
   obtain ⟨Ob, b, base, iH, Jp, hav⟩ := hr rfl
   obtain ⟨hl, kB⟩ := hc.heap id g sz n e f hh
   rw [iH] at kB
   obtain ⟨cur, pJ, vC, bp⟩ := cp.cells Jp kB
   obtain ⟨hvl, hvc⟩ := mG vZ hx
   have hso : ∀ (j : Nat) (pv : PV), (cellsOf (ev env x))[j]? = some pv → dK pv = false := fun j pv hj => Jr vZ hj
   generalize PS : cellsOf (ev env x) = cs at *
   generalize Sx : (a.eval x).cells.toList = vs at *
   have Ct : 0 < cs.length := by omega
   obtain ⟨inf, lU, p7⟩ := Q4 hT hty Ct
   have hmul : (i + 1) * sz ≤ n * sz := aer _ Ob
   rw [aex] at hmul
   have lq : (storeCells ⟨b, base + i * sz + off, none⟩ vs 0).run P w = .ok () (w.setRow b (cur.toList.take (base + i * sz + off + 0) ++ vs ++ cur.toList.drop (base + i * sz + off + 0 + vs.length)).toArray) :=
    run_storeCells_at P b (base + i * sz + off) e vs 0 cur w pJ agi (fun v hv => by
     obtain ⟨j, hj, rfl⟩ := aeP.1 hv
     have LD : j < cs.length := by omega
     obtain ⟨u, hu, hr⟩ := hvc j cs[j] (As LD)
     rw [As hj] at hu
     injection hu with hu
     rw [hu]
     exact hr.one)
   rw [aeT] at lq
   have Kz : ∀ k, (bw f i (fN (f i) off cs) k) = if k = i then fN (f i) off cs else f k := fun k => by
    unfold bw
    by_cases hk : k = i
    ·subst hk; simp
    ·have : Nat.beq k i = false := by
      cases hb : Nat.beq k i with
      | true => exact (hk (Is hb)).elim
      | false => rfl
     simp [this, hk]
   have pK := wP (w1 := w.setRow b (cur.toList.take (base + i * sz + off) ++ vs ++ cur.toList.drop (base + i * sz + off + vs.length)).toArray) hc id g g sz n n e f (bw f i (fN (f i) off cs)) hh b base
    (cur.toList.take (base + i * sz + off) ++ vs ++ cur.toList.drop (base + i * sz + off + vs.length)).toArray (aeb _) (fun _ => ⟨iH, rfl⟩)
    (.inr ⟨base, cur, iH, pJ, by simp; omega⟩) (setRow_heap w b cur _ e _ pJ) ago
    (fun b' _ rZ => setRow_other w b b' _ rZ) agk rfl rfl rfl
    (fun k hk => by
     rw [Kz]
     split
     ·rename_i xZ; subst xZ; rw [mF]; exact hl _ hk
     ·exact hl k hk)
    (fun b' rk Gh => by rw [iH] at Gh; injection Gh with Gh; injection Gh with h1 _; subst h1; exact Jp.EU)
    (fun k j pv hk hj => by
     have Jn : j < sz := by
      have h1 := (so.1 hj).1
      rw [Kz] at h1
      split at h1
      ·rw [mF, hl i Ob] at h1; exact h1
      ·rw [hl k hk] at h1; exact h1
     have Q5 : (cur.toList.take (base + i * sz + off) ++ vs ++ cur.toList.drop (base + i * sz + off + vs.length)).toArray[base + k * sz + j]? = if base + i * sz + off ≤ base + k * sz + j ∧ base + k * sz + j < base + i * sz + off + vs.length then vs[base + k * sz + j - (base + i * sz + off)]? else cur[base + k * sz + j]? := by
      have Zw := vF cur.toList vs (base + i * sz + off) (base + k * sz + j) ago
      rw [List.getElem?_toArray, Zw]
      simp only [aew]
     rw [Q5]
     rw [Kz] at hj
     by_cases xZ : k = i
     ·subst xZ
      rw [if_pos rfl, qp cs (f k) off j (by rw [hl k hk]; exact hle)] at hj
      by_cases hr : off ≤ j ∧ j < off + cs.length
      ·rw [if_pos hr] at hj
       rw [if_pos agi]
       obtain ⟨u, hu, mX⟩ := hvc _ _ hj
       exact ⟨u, by rw [← hu]; congr 1; omega, mX.k (hso _ _ hj)⟩
      ·rw [if_neg hr] at hj
       rw [if_neg agi]
       exact bp k j pv hk hj
     ·rw [if_neg xZ] at hj
      have Ol : ¬ (base + i * sz + off ≤ base + k * sz + j ∧ base + k * sz + j < base + i * sz + off + vs.length) := by
       rcases Nat.lt_or_gt_of_ne xZ with bP | C9
       ·have : (k + 1) * sz ≤ i * sz := aer _ bP
        rw [aex] at this
        omega
       ·have : (i + 1) * sz ≤ k * sz := aer _ C9
        rw [aex] at this
        omega
      rw [if_neg Ol]
      exact bp k j pv hk hj) 0 (fun k j bV n' e' f' F' hk hj => by
    rw [No]
    refine ⟨hk, ?_⟩
    rw [Kz] at hj
    by_cases xZ : k = i
    ·subst xZ
     rw [if_pos rfl, qp cs (f k) off j (by rw [hl k hk]; exact hle)] at hj
     by_cases hr : off ≤ j ∧ j < off + cs.length
     ·rw [if_pos hr] at hj
      have := hso _ _ hj
      cases this
     ·rw [if_neg hr] at hj; exact hj
    ·rw [if_neg xZ] at hj; exact hj)
   obtain ⟨lr, sG⟩ := pK
   obtain ⟨_, f', rfl, zU, hK⟩ := hK
   refine gf.rows (gf.Ky ?_ ⟨_, dO.set _ _ _ _ _ _ _ _ zU, hK⟩ sG lr)
   have e1 : (execOp a.eval ⟨dst, .store t ad x, ty, pos, after, guard⟩) = (do Instr.storeAt t (a.eval ad) (a.eval x); pure .skip : Sem Next) := rfl
   rw [e1, hav]
   have iQ : ¬ (a.eval x).cells.size ≠ inf.size := by
    rw [p7]
    simp only [ne_eq, Decidable.not_not]
    rw [← hvl, ← Sx]
    simp
   simp only [Instr.storeAt, Instr.sureAddr, storeVar, Sem.run_bind, Sem.run_pure, Result.andThen, lu lU, if_neg iQ, Sx, lq]
  ·exact afL
 ·exact afL
theorem CG (z : Array Value) (n q : Nat) (hq : q < n) (hz : 0 < z.size) : (madeCells z n)[q]? = z[q % z.size]? := by
 have h1 : q % z.size < z.size := Nat.mod_lt _ hz
 simp [madeCells, hq, h1]
theorem Q6 (i j sz : Nat) (hj : j < sz) : (i * sz + j) % sz = j := by
 rw [Nat.mul_comm, Nat.mul_add_mod]; exact Nat.mod_eq_of_lt hj
theorem lQ (w : World) (o : Obj) : cy w (w.alloc o) :=
 ⟨fun b hb => Below.heap_alloc w o b hb, by simp, rfl, rfl, rfl⟩
theorem Jv (hT : di P T) (hc : Core μ h S w) (ht : ∀ t, bG μ h S w (env t) (a.tmps.getD t undef)) (t : Nat) (l c : Operand) (hp : pop P T (.makeSlice t l c) env h K) :
  gf P ⟨dst, .makeSlice t l c, ty, pos, after, guard⟩ a μ h S w K := by
 have hl := bQ ht l
 have ig := bQ ht c
 simp only [pop] at hp
 split at hp
 ·rename_i e sz bytes zero k n k' m gx hel hec
  rw [hel] at hl
  rw [hec] at ig
  obtain ⟨⟨h0, h1, h2, h3⟩, _, f', rfl, zU, hK⟩ := hp
  obtain ⟨hu, iQ, inf, zv, lU, p7, Sz, hz, PY, PZ, Oh⟩ := hT.slice _ _ _ _ _ gx
  subst p7 Sz
  have hm : (inf.bytes : Int) * m ≤ 281474976710656 := by
   have e1 : (m.toNat : Int) = m := Int.toNat_of_nonneg agi
   have e2 : ((m.toNat * inf.bytes : Nat) : Int) ≤ 140737488355328 := by omega
   rw [Int.natCast_mul, e1, Int.mul_comm] at e2
   omega
  have lq := run_make (P := P) w t e inf zv hu lU hz k k' n m h0 h1 hm agi
  have pK := rl (w1 := w.alloc (.cells (madeCells zv.cells (m.toNat * inf.size)) e)) hc inf.size n.toNat e (fun _ => zero) (some (w.heap.size, 0))
   ⟨aeb _, _, heap_alloc_new w _, by
    rw [size_madeCells, No]
    exact aer _ agi, fun i j pv hi hj => by
    have Jn : j < inf.size := by rw [← PZ]; exact (so.1 hj).1
    have bP : 0 + i * inf.size + j < m.toNat * inf.size := by
     have : (i + 1) * inf.size ≤ m.toNat * inf.size := aer _ agi
     rw [aex] at this
     omega
    rw [CG _ _ _ bP agi, No, PY, Q6 i j _ Jn]
    have Me : j < zv.cells.size := by omega
    obtain ⟨fC, h5, _, h6⟩ := Oh j zv.cells[j] (aev Me)
    rw [hj] at h5
    injection h5 with h5
    subst h5
    exact ⟨_, aev Me, bR.j5 (h6 S w)⟩⟩ (lQ w _) (fun i hi => PZ) (fun i j pv _ hj => by
  have Me : j < zv.cells.size := by have := (so.1 hj).1; omega
  obtain ⟨fC, h5, _, h6⟩ := Oh j zv.cells[j] (aev Me)
  rw [hj] at h5; injection h5 with h5; rw [h5]; exact aT.no (h6 S w))
  obtain ⟨lr, sG⟩ := pK
  refine gf.rows (gf.jo (c8 rfl (by rw [hl.kO, ig.kO]; exact lq)) ⟨_, dO.snoc _ _ _ _ _ _ _ zU, hK⟩ ?_ sG lr)
  show bE _ _ _ _ _ _ _ _
  unfold bE
  rw [aeu (aeb _), aeU]
  refine ⟨⟨_, _, _, rfl⟩, aeb _, fun _ => ⟨by omega, ?_⟩⟩
  rw [bY]
  refine ⟨_, m.toNat, rfl, by omega, fun _ => by simp, _, e, heap_alloc_new w _, ?_⟩
  rw [size_madeCells]
  simp
 ·exact afL
theorem Hk (sz len : Nat) (place : Nat → Option (Nat × Nat)) (On : ∀ i, place i = some (i * sz, sz)) : ∀ (l : List (Nat × Operand)) (ρ : Operand → Value) (k : Nat) (cells : Array Value), yW len k l = true → cells.size = len * sz →
  (∀ p ∈ l, (ρ p.2).cells.size = sz) →
  ∃ jn, Instr.fill place cells (l.map fun p => (p.1, ρ p.2)) = some jn ∧ jn.size = len * sz ∧ (∀ q, q < k * sz → jn[q]? = cells[q]?) ∧
   ∀ (i j : Nat) (p : Nat × Operand), l[i]? = some p → j < sz → jn[(k + i) * sz + j]? = (ρ p.2).cells[j]?
 | [], ρ, k, cells, hi, hs, _ => ⟨cells, rfl, hs, fun _ _ => rfl, fun i j p hp => by simp at hp⟩
 | (i0, x) :: r, ρ, k, cells, hi, hs, hv => by
  simp only [yW, an] at hi
  have Zx := Is hi.1
  subst Zx
  have hlen : ∀ (l : List (Nat × Operand)) (k : Nat), yW len k l = true → k ≤ len := by
   intro l
   induction l with
   | nil => intro k h; exact Nat.le_of_eq (Is h)
   | cons p l ih =>
    intro k h
    obtain ⟨a, b⟩ := p
    simp only [yW, an] at h
    have := ih (k + 1) h.2
    omega
  have hk := hlen r (i0 + 1) hi.2
  have hvx := hv (i0, x) agk
  have wR : (i0 + 1) * sz ≤ len * sz := aer _ hk
  have VP := wR
  rw [aex] at VP
  obtain ⟨g1, g2⟩ := sC (ρ x) (i0 * sz) cells (by rw [hvx]; omega)
  obtain ⟨jn, h1, h2, h3, h4⟩ := Hk sz len place On r ρ (i0 + 1) _ hi.2 (g1.trans hs) (fun p hp => hv p (by simp [hp]))
  refine ⟨jn, ?_, h2, fun q hq => ?_, fun i j p hp hj => ?_⟩
  ·simp only [aeg, Instr.fill, On]
   rw [if_neg (by simp only [hvx, ne_eq, not_true_eq_false, false_or]; simp only [aeH, decide_eq_true_eq, not_or]; simp; omega)]
   exact h1
  ·rw [h3 q (by rw [aex]; omega), g2 q, if_neg agi]
  ·cases i with
   | zero =>
    simp at hp
    subst hp
    rw [aeT, h3 _ (by rw [aex]; omega), g2, hvx, if_pos agi]
    congr 1
    omega
   | succ i =>
    simp at hp
    have := h4 i j p hp hj
    rw [show i0 + 1 + i = i0 + (i + 1) from by omega] at this
    exact this
theorem ya (hT : di P T) (hc : Core μ h S w) (ht : ∀ t, bG μ h S w (env t) (a.tmps.getD t undef)) (t len : Nat) (parts : Array (Nat × Operand)) (hp : pop P T (.buildSlice t len parts) env h K) :
  gf P ⟨dst, .buildSlice t len parts, ty, pos, after, guard⟩ a μ h S w K := by
 simp only [pop] at hp
 split at hp
 ·rename_i e sz bytes zero gx
  replace hp := bB hp
  obtain ⟨qq, hK⟩ := hp
  obtain ⟨hu, iQ, inf, zv, lU, p7, Sz, hz, PY, PZ, Oh⟩ := hT.slice _ _ _ _ _ gx
  subst p7
  simp only [an] at qq
  obtain ⟨Q5, hle⟩ := qq
  have hle := aes hle
  obtain ⟨lz, hK⟩ := yX _ _ hK
  simp only [List.reverse_nil, aeS] at hK
  have kB : ∀ p ∈ parts.toList, (a.eval p.2).cells.size = inf.size ∧ (cellsOf (ev env p.2)).length = inf.size ∧
    ∀ (j : Nat) (q : PV), (cellsOf (ev env p.2))[j]? = some q → ∃ u, (a.eval p.2).cells[j]? = some u ∧ bR μ h S w q u := fun p hp => by
   obtain ⟨h1, h2⟩ := lz p hp
   have h2 := Is h2
   obtain ⟨h3, h4⟩ := mG h1 (bQ ht p.2)
   simp only [aeO, aew] at h3 h4
   exact ⟨h3.trans h2, h2, h4⟩
  obtain ⟨jn, f1, f2, _, f4⟩ := Hk inf.size len (fun i => some (i * inf.size, inf.size)) (fun _ => rfl) parts.toList a.eval 0
   ((Array.range (len * inf.size)).map (fun q => (if len * inf.size = 0 then #[] else zv.cells)[q % (if len * inf.size = 0 then #[] else zv.cells).size]!)) Q5 agk (fun p hp => (kB p hp).1)
  have hlen : parts.toList.length = len := by
   have key : ∀ (l : List (Nat × Operand)) (k : Nat), yW len k l = true → k + l.length = len := by
    intro l
    induction l with
    | nil => intro k hh; exact Is hh
    | cons p l ih =>
     intro k hh
     obtain ⟨x, y⟩ := p
     simp only [yW, an] at hh
     have := ih (k + 1) hh.2
     simp only [aea]
     omega
   have := key parts.toList 0 Q5
   omega
  have cO : ∀ i, i < len → ∃ p, parts.toList[i]? = some p ∧ p ∈ parts.toList ∧ (parts.toList.map fun p => cellsOf (ev env p.2)).getD i [] = cellsOf (ev env p.2) := fun i hi => by
   have Mh : i < parts.toList.length := by omega
   refine ⟨parts.toList[i], As Mh, aef Mh, ?_⟩
   rw [aee, aet, As Mh]
   rfl
  have pK := rl (w1 := w.alloc (.cells jn e)) hc inf.size len e (fun k => (parts.toList.map fun p => cellsOf (ev env p.2)).getD k []) (some (w.heap.size, 0))
   ⟨aeb _, jn, heap_alloc_new w _, by omega, fun i j pv hi hj => by
    obtain ⟨p, QU, Og, SA⟩ := cO i hi
    rw [SA] at hj
    obtain ⟨_, q2, q3⟩ := kB p Og
    have Jn : j < inf.size := by rw [← q2]; exact (so.1 hj).1
    have := f4 i j p QU Jn
    rw [No] at this
    obtain ⟨u, Md, FC⟩ := q3 j pv hj
    exact ⟨u, by rw [← Md, ← this, No], FC⟩⟩ (lQ w _)
   (fun i hi => by
    obtain ⟨p, QU, Og, SA⟩ := cO i hi
    rw [SA]
    exact (kB p Og).2.1) (fun i j pv hi hj => by
    obtain ⟨p, QU, Og, SA⟩ := cO i hi
    rw [SA] at hj
    exact Jr (lz p Og).1 hj)
  obtain ⟨lr, sG⟩ := pK
  obtain ⟨f', zU, hK⟩ := hK
  refine gf.rows (gf.jo (val := .slice (some ⟨w.heap.size, 0, none⟩) len len) (c8 rfl ?_) ⟨_, dO.snoc _ _ _ _ _ _ _ zU, hK⟩ ?_ sG lr)
  ·have VQ : (parts.map fun p => (p.1, a.eval p.2)).toList = parts.toList.map fun p => (p.1, a.eval p.2) := by simp
   have hn : ¬ (16777216 < len * inf.size) := by omega
   have KA : Instr.fill (fun i => some (i * inf.size, inf.size)) (Array.map (fun x => (if len * inf.size = 0 then #[] else zv.cells)[x % (if len * inf.size = 0 then #[] else zv.cells).size]!) (Array.range (len * inf.size))) (parts.map fun p => (p.1, a.eval p.2)).toList = some jn := by
    rw [VQ]; exact f1
   by_cases h0 : len * inf.size = 0
   ·simp [h0] at KA
    simp only [Instr.buildSlice, Sem.run_bind, run_underlying hu, Result.andThen, lu lU]
    simp [h0, newRow]
    rw [KA]
    rfl
   ·simp [h0] at KA
    simp only [Instr.buildSlice, Sem.run_bind, run_underlying hu, Result.andThen, lu lU]
    simp [h0, hn, newRow, zeroValue, typeInfo, lU, hz]
    rw [KA]
    rfl
  ·show bE _ _ _ _ _ _ _ _
   unfold bE
   rw [aeu (aeb _), aeU]
   refine ⟨⟨_, _, _, rfl⟩, aeb _, fun _ => ⟨by omega, ?_⟩⟩
   rw [bY]
   exact ⟨_, len, rfl, aeb _, fun _ => by simp, jn, e, heap_alloc_new w _, by rw [No, No]; omega⟩
 ·exact afL
theorem LF (hc : Core μ h S w) (ht : ∀ t, bG μ h S w (env t) (a.tmps.getD t undef)) (t : Nat) (x : Operand) (hp : pop P T (.box t x) env h K) :
  gf P ⟨dst, .box t x, ty, pos, after, guard⟩ a μ h S w K := by
 simp only [pop] at hp
 replace hp := bB (bX hp)
 obtain ⟨qq, hK⟩ := hp
 simp only [an] at qq
 obtain ⟨vZ, hlen⟩ := qq
 have hlen := Is hlen
 obtain ⟨h3, h4⟩ := mG vZ (bQ ht x)
 simp only [aeO, aew] at h3 h4
 have pK := rl (w1 := w.alloc (.cells (a.eval x).cells t)) hc (kW (T.get t)) 1 t (fun _ => cellsOf (ev env x)) (some (w.heap.size, 0))
  ⟨aeb _, _, heap_alloc_new w _, by omega, fun i j pv hi hj => by
   obtain ⟨u, hu, hr⟩ := h4 j pv hj
   have : i = 0 := by omega
   subst this
   exact ⟨u, by rw [← hu]; congr 1; omega, hr⟩⟩ (lQ w _) (fun i hi => hlen) (fun i j pv _ hj => Jr vZ hj)
 obtain ⟨lr, sG⟩ := pK
 refine gf.jo (val := .pointer (some ⟨w.heap.size, 0, none⟩)) (c8 rfl ?_) hK ?_ sG lr
 ·simp [Instr.box, newVar, newRow]
 ·show bU _ _ _ _ _ _ _ _
  unfold bU
  rw [aeu (aeb _), aeU]
  refine ⟨⟨_, rfl⟩, aeb _, fun _ => ⟨by omega, w.heap.size, 0, bY _ _ _, ⟨_, _, heap_alloc_new w _, aeE _⟩, ?_⟩⟩
  simp
theorem Hl (hT : di P T) (hc : Core μ h S w) (t : Nat) (hp : pop P T (.alloc t) env h K) :
  gf P ⟨dst, .alloc t, ty, pos, after, guard⟩ a μ h S w K := by
 simp only [pop] at hp
 split at hp
 ·rename_i z gx
  obtain ⟨i, zv, hi, hz, PY, PZ, Oh⟩ := hT.zero t z gx
  generalize iQ : kW (T.get t) = sz at *
  have pK := rl (w1 := w.alloc (.cells zv.cells t)) hc sz 1 t (fun _ => z) (some (w.heap.size, 0))
   ⟨aeb _, _, heap_alloc_new w _, by omega, fun i j pv hi hj => by
    have Me : j < zv.cells.size := by
     have := (so.1 hj).1
     omega
    obtain ⟨fC, h5, _, h6⟩ := Oh j zv.cells[j] (aev Me)
    rw [hj] at h5
    injection h5 with h5
    subst h5
    have : i = 0 := by omega
    subst this
    exact ⟨_, by rw [← aev Me]; congr 1; omega, bR.j5 (h6 S w)⟩⟩ (lQ w _) (fun i hi => PZ) (fun i j pv _ hj => by
  have Me : j < zv.cells.size := by have := (so.1 hj).1; omega
  obtain ⟨fC, h5, _, h6⟩ := Oh j zv.cells[j] (aev Me)
  rw [hj] at h5; injection h5 with h5; rw [h5]; exact aT.no (h6 S w))
  obtain ⟨lr, sG⟩ := pK
  refine gf.jo (val := .pointer (some ⟨w.heap.size, 0, none⟩)) (c8 rfl ?_) hp ?_ sG lr
  ·simp [Instr.alloc, zeroValue, typeInfo, hi, hz, newVar, newRow]
  ·show bU _ _ _ _ _ _ _ _
   unfold bU
   rw [aeu (aeb _), aeU]
   refine ⟨⟨_, rfl⟩, aeb _, fun _ => ⟨by omega, w.heap.size, 0, bY _ _ _, ⟨_, _, heap_alloc_new w _, aeE _⟩, ?_⟩⟩
   simp
 ·exact afL
end
end Go.Am
