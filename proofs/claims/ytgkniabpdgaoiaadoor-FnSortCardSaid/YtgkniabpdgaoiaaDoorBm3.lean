/- The operations that leave the world alone do what the abstract machine says of them. -/
import Derived.Test.YtgkniabpdgaoiaaDoorBm2
import Derived.WalkLawsBesides
set_option linter.unusedVariables false
set_option linter.unusedSimpArgs false
namespace Go.Am
open Go Go.RowKit
def aggD : TypeDesc → Bool
 | .struct _ => true
 | .array _ _ => true
 | _ => false
def flatFs (P : Program) : Nat → List Field → List PV → Bool
 | _, [], [] => true
 | n, f :: r, .int k _ :: z => f.name != "_" && Nat.beq f.offset n && (match P.underlying f.type with | some (.int k') => kindEq k k' | _ => false) && flatFs P (n + 1) r z
 | n, f :: r, .bool _ :: z => f.name != "_" && Nat.beq f.offset n && (match P.underlying f.type with | some .bool => true | _ => false) && flatFs P (n + 1) r z
 | n, f :: r, .str _ :: z => f.name != "_" && Nat.beq f.offset n && (match P.underlying f.type with | some .string => true | _ => false) && flatFs P (n + 1) r z
 | _, _, _ => false
def flatEq (P : Program) (t : Nat) (z : List PV) : Bool := match P.underlying t with
 | some (.struct fs) => !(P.stoodInHeld t) && !(P.eqGuardType P.depth t) && flatFs P 0 fs.toList z
 | _ => false
structure TabOk (P : Program) (T : Tab) : Prop where
 flat : ∀ t sz fl z, T.get t = .struct sz fl z → flatZ z = true → flatEq P t z = true
 int : ∀ t k, T.get t = .int k → P.underlying t = some (.int k)
 bool : ∀ t, T.get t = .bool → P.underlying t = some .bool
 str : ∀ t, T.get t = .str → P.underlying t = some .string
 ptr : ∀ t e, T.get t = .ptr e → P.underlying t = some (.pointer e)
 slice : ∀ t e sz by' z, T.get t = .slice e sz by' z → P.underlying t = some (.slice e) ∧ 0 < sz ∧ ∃ i zv, P.info? e = some i ∧ i.size = sz ∧ i.bytes = by' ∧ i.zero = some zv ∧ zv.cells.size = sz ∧ z.length = sz ∧
  ∀ (j : Nat) (u : Value), zv.cells[j]? = some u → ∃ pv : PV, z[j]? = some pv ∧ u.oneCell' = true ∧ ∀ S w, PRep S w pv u
 map : ∀ t k e z, T.get t = .map k e z → P.underlying t = some (.map k e) ∧ ∃ i zv, P.info? e = some i ∧ i.zero = some zv ∧ SRep z zv ∧ scalA z = true ∧ storable z = true
 bytes : ∀ t e sz by' z, T.get t = .slice e sz by' z → 0 < by'
 one : ∀ t, tySize (T.get t) = 1 → (∀ sz fl z, T.get t ≠ .struct sz fl z) → ∃ i, P.info? t = some i ∧ i.size = 1
 zero : ∀ t z, tyZero (T.get t) = some z → ∃ i zv, P.info? t = some i ∧ i.zero = some zv ∧ zv.cells.size = tySize (T.get t) ∧ z.length = tySize (T.get t) ∧
  ∀ (j : Nat) (u : Value), zv.cells[j]? = some u → ∃ pv : PV, z[j]? = some pv ∧ u.oneCell' = true ∧ ∀ S w, PRep S w pv u
 struct : ∀ t sz fl z, T.get t = .struct sz fl z → ∃ fs i, P.underlying t = some (.struct fs) ∧ P.info? t = some i ∧ i.size = sz ∧ fl.length = fs.size ∧
  (∃ zv, i.zero = some zv ∧ zv.cells.size = sz ∧ z.length = sz ∧ ∀ (j : Nat) (u : Value), zv.cells[j]? = some u → ∃ pv : PV, z[j]? = some pv ∧ u.oneCell' = true ∧ ∀ S w, PRep S w pv u) ∧
  ∀ (k : Nat) (off size : Nat) (ag : Bool), fl[k]? = some (off, size, ag) → ∃ f j d, fs[k]? = some f ∧ f.offset = off ∧ P.info? f.type = some j ∧ j.size = size ∧ 0 < size ∧
   P.underlying f.type = some d ∧ ag = aggD d
section
variable {P : Program} {T : Tab} {μ : Mu} {h : List AObj} {S : Nat → Prop} {w : World}
theorem VRep.int_inv {k : IntKind} {n : Int} {v : Value} (hv : VRep μ h S w (.int k n) v) : v = .int k n := by
 have hv : PRep S w (.int k n) v := hv
 cases hv; rfl
theorem VRep.bool_inv {b : Bool} {v : Value} (hv : VRep μ h S w (.bool b) v) : v = .bool b := by
 have hv : PRep S w (.bool b) v := hv
 cases hv; rfl
theorem VRep.str_inv {s : List UInt8} {v : Value} (hv : VRep μ h S w (.str s) v) : v = .string ⟨⟨s⟩⟩ := by
 have hv : PRep S w (.str s) v := hv
 cases hv; rfl
theorem VRep.nils_inv {v : Value} (hv : VRep μ h S w .nils v) : v = .slice none 0 0 := by
 have hv : PRep S w .nils v := hv
 cases hv; rfl
theorem VRep.fn_inv {f : Nat} {v : Value} (hv : VRep μ h S w (.fn f) v) : v = .func (.func f) #[] #[] := by
 have hv : PRep S w (.fn f) v := hv
 cases hv; rfl
theorem VRep.slc_inv {sz n : Nat} {f : Nat → List PV} {v : Value} (hv : VRep μ h S w (.slc sz n f) v) :
  (∃ a c, v = .slice a n c ∧ n = 0) ∨ ∃ (b off c : Nat) (vf : Nat → Nat → Value), v = .slice (some ⟨b, off, none⟩) n c ∧ S b ∧ (∀ i, i < n → (f i).length = sz) ∧ n ≤ c ∧
   (∀ (i j : Nat) (pv : PV), i < n → (f i)[j]? = some pv → w.cell? ⟨b, off + i * sz + j, none⟩ = some (vf i j)) ∧ (∀ (i j : Nat) (pv : PV), i < n → (f i)[j]? = some pv → PRep S w pv (vf i j)) := by
 have hv : PRep S w (.slc sz n f) v := hv
 cases hv with
 | slc0 _ _ a c => exact .inl ⟨a, c, rfl, rfl⟩
 | slc _ _ _ b off c vf h1 h2 h3 h4 h5 => exact .inr ⟨b, off, c, vf, rfl, h1, h2, h3, h4, h5⟩
theorem VRep.pptr_inv {cs : List PV} {v : Value} (hv : VRep μ h S w (.pptr cs) v) :
  ∃ (b off : Nat) (vf : Nat → Value), v = .pointer (some ⟨b, off, none⟩) ∧ S b ∧ (∀ (j : Nat) (pv : PV), cs[j]? = some pv → w.cell? ⟨b, off + j, none⟩ = some (vf j)) ∧ (∀ (j : Nat) (pv : PV), cs[j]? = some pv → PRep S w pv (vf j)) := by
 have hv : PRep S w (.pptr cs) v := hv
 cases hv with
 | pptr _ b off vf h1 h4 h5 => exact ⟨b, off, vf, rfl, h1, h4, h5⟩
theorem ofV1_rep {v : Value} {p : PV} (h : ofV1 v = some p) : PRep S w p v := by
 cases v with
 | int k n => cases h; exact PRep.int k n
 | bool b => cases h; exact PRep.bool b
 | string s =>
  obtain ⟨⟨l⟩⟩ := s
  cases h
  exact PRep.str l
 | slice a n c =>
  cases a with
  | none =>
   cases n with
   | zero =>
    cases c with
    | zero => cases h; exact PRep.nils
    | succ c => cases h
   | succ n => cases h
  | some a => cases h
 | _ => cases h
theorem ofVL_rep : ∀ {vs : List Value} {l : List PV}, ofVL vs = some l → vs.length = l.length ∧ ∀ (j : Nat) (pv : PV), l[j]? = some pv → ∃ u, vs[j]? = some u ∧ PRep S w pv u
 | [], l, h => by
  cases h
  exact ⟨rfl, fun j pv hj => by simp at hj⟩
 | v :: r, l, h => by
  unfold ofVL at h
  cases h1 : ofV1 v with
  | none => rw [h1] at h; cases h
  | some p =>
   cases h2 : ofVL r with
   | none => rw [h1, h2] at h; cases h
   | some q =>
    rw [h1, h2] at h
    cases h
    obtain ⟨q1, q2⟩ := ofVL_rep h2
    refine ⟨by simp [q1], fun j pv hj => ?_⟩
    cases j with
    | zero => simp at hj; subst hj; exact ⟨v, rfl, ofV1_rep h1⟩
    | succ j => obtain ⟨u, r1, r2⟩ := q2 j pv (by simpa using hj); exact ⟨u, by simpa using r1, r2⟩
theorem ofValue_rep (v : Value) : VRep μ h S w (ofValue v) v := by
 cases v with
 | int k n => exact PRep.int k n
 | bool b => exact PRep.bool b
 | string s =>
  obtain ⟨⟨l⟩⟩ := s
  exact PRep.str l
 | slice a n c =>
  cases a with
  | none =>
   cases n with
   | zero =>
    cases c with
    | zero => exact PRep.nils
    | succ c => trivial
   | succ n => trivial
  | some a => trivial
 | agg vs =>
  simp only [ofValue]
  cases hl : ofVL vs.toList with
  | none => trivial
  | some l =>
   obtain ⟨q1, q2⟩ := ofVL_rep (S := S) (w := w) hl
   exact ⟨vs, rfl, by simpa using q1, fun j pv hj => by obtain ⟨u, r1, r2⟩ := q2 j pv hj; exact ⟨u, by simpa using r1, CRep.of_pure r2⟩⟩
 | _ => trivial
theorem ev_rep {env : Env} {a : Act} (ht : ∀ t, VRep μ h S w (env t) (a.tmps.getD t undef)) (x : Operand) : VRep μ h S w (ev env x) (a.eval x) := by
 cases x with
 | tmp t => exact ht t
 | const v => exact ofValue_rep v
 | global g => trivial
 | func f => exact PRep.fn f
def Stills (P : Program) (o : Oper) (a : Act) (μ : Mu) (h : List AObj) (S : Nat → Prop) (w : World) (K : PV → Prop) : Prop :=
 ∃ v val, K v ∧ VRep μ h S w v val ∧ ∀ w', Agree w w' → (execOp a.eval o).run P w' = .ok (.value val) w'
theorem Stills.mk {o : Oper} {a : Act} {K : PV → Prop} {v : PV} {val : Value} (hK : K v) (hv : VRep μ h S w v val) (hr : ∀ w', Agree w w' → (execOp a.eval o).run P w' = .ok (.value val) w') : Stills P o a μ h S w K := ⟨v, val, hK, hv, hr⟩
variable {a : Act} {env : Env} {K : PV → Prop} {dst : Option Tmp} {ty : TypeId} {pos : String} {after : Array Edge} {guard : Option (Nat × Bool)}
theorem run_v {s : Sem Value} {w' w'' : World} {val : Value} (hs : s.run P w' = .ok val w'') : (do pure (Next.value (← s)) : Sem Next).run P w' = .ok (.value val) w'' := by
 simp [hs]
theorem toList_mk (l : List UInt8) : (ByteArray.mk ⟨l⟩).toList = l := by
 have h : (ByteArray.mk ⟨l⟩).toList = (ByteArray.mk ⟨l⟩).data.toList := by simp
 rw [h]
theorem run_bin {bo : BinOp} {t : TypeId} {x y : Operand} {u u' val : Value} {w' : World} (hg : eqGuard bo t x y u u' = pure ()) (hb : (binOp bo t u u').run P w' = .ok val w') :
  (do eqGuard bo t x y u u'; binOp bo t u u' : Sem Value).run P w' = .ok val w' := by
 rw [hg]
 simp [hb]
theorem run_part_one {P : Program} {t : TypeId} {d : TypeDesc} (hu : P.underlying t = some d) (hd : aggD d = false) (cs : Array Value) (off : Nat) (v : Value) (hc : cs[off]? = some v) (w : World) : (part t cs off).run P w = .ok v w := by
 have : (isAgg t).run P w = .ok false w := by
  unfold isAgg
  simp only [Sem.run_bind, run_underlying hu, Result.andThen]
  cases d <;> first | rfl | cases hd
 simp [part, this, hc]
theorem eqAnd_elim {g q : Bool} {o : Option Bool} {b : Bool} (h : eqAnd g q o = some b) : g = true ∧ ∃ c, o = some c ∧ b = (q && c) := by
 cases o with
 | none => cases h
 | some c => cases g with
  | true => exact ⟨rfl, c, rfl, (Option.some.inj h).symm⟩
  | false => cases h
theorem eqFields_flat {P : Program} {μ : Mu} {h : List AObj} {S : Nat → Prop} {w w' : World} {xs ys : Array Value} (d : Nat) : ∀ (fs : List Field) (z pxs pys : List PV) (n : Nat) (b : Bool), flatFs P n fs z = true →
  (∀ (j : Nat) (pv : PV), pxs[j]? = some pv → ∃ u, xs[n + j]? = some u ∧ CRep μ h S w pv u) → (∀ (j : Nat) (pv : PV), pys[j]? = some pv → ∃ u, ys[n + j]? = some u ∧ CRep μ h S w pv u) →
  eqC z pxs pys = some b → (Op.eqFields (d + 1) xs ys fs).run P w' = .ok b w'
 | [], z, pxs, pys, n, b, hf, _, _, hk => by
  cases z with
  | nil =>
   cases pxs with
   | nil => cases pys with
    | nil => cases hk; rfl
    | cons _ _ => cases hk
   | cons _ _ => cases hk
  | cons _ _ => simp [flatFs] at hf
 | f :: fs, z, pxs, pys, n, b, hf, hx, hy, hk => by
  have go : ∀ (c1 c2 : PV) (v1 v2 : Value) (q c : Bool) (dd : TypeDesc) (z r r' : List PV), pxs = c1 :: r → pys = c2 :: r' → (∀ u, CRep μ h S w c1 u → u = v1) → (∀ u, CRep μ h S w c2 u → u = v2) → f.name ≠ "_" → f.offset = n → P.underlying f.type = some dd → aggD dd = false →
    (Op.equalIn (d + 1) f.type v1 v2).run P w' = .ok q w' → flatFs P (n + 1) fs z = true → eqC z r r' = some c → (Op.eqFields (d + 1) xs ys (f :: fs)).run P w' = .ok (q && c) w' := by
   intro c1 c2 v1 v2 q c dd z r r' e1 e2 hi1 hi2 hnm hoff hu hd hq hfs hk'
   subst e1 e2
   obtain ⟨u1, hu1, hr1⟩ := hx 0 c1 rfl
   obtain ⟨u2, hu2, hr2⟩ := hy 0 c2 rfl
   obtain rfl := hi1 u1 hr1
   obtain rfl := hi2 u2 hr2
   have hrun := eqFields_flat (w' := w') d fs z r r' (n + 1) c hfs (fun j pv hj => by
     obtain ⟨u, q1, q2⟩ := hx (j + 1) pv (by simpa using hj)
     exact ⟨u, by rw [← q1]; congr 1; omega, q2⟩) (fun j pv hj => by
     obtain ⟨u, q1, q2⟩ := hy (j + 1) pv (by simpa using hj)
     exact ⟨u, by rw [← q1]; congr 1; omega, q2⟩) hk'
   have p1 := run_part_one hu hd xs f.offset u1 (by rw [hoff]; exact hu1) w'
   have p2 := run_part_one hu hd ys f.offset u2 (by rw [hoff]; exact hu2) w'
   unfold Op.eqFields
   rw [if_pos hnm]
   simp only [Sem.run_bind, p1, p2, hq, Result.andThen_ok]
   cases q with
   | true => simpa using hrun
   | false => simp
  unfold eqC at hk
  split at hk
  ·simp [flatFs] at hf
  ·rename_i k n0 z k1 a r k2 b' r'
   simp only [flatFs, Bool.and_eq_true, bne_iff_ne] at hf
   obtain ⟨⟨⟨h1, h2⟩, h3⟩, h4⟩ := hf
   have h2 := Nat.eq_of_beq_eq_true h2
   obtain ⟨hg, c, hc, rfl⟩ := eqAnd_elim hk
   simp only [Bool.and_eq_true] at hg
   obtain rfl := kindEq_elim hg.1
   obtain rfl := kindEq_elim hg.2
   split at h3
   ·rename_i k' hu
    exact go _ _ (.int k a) (.int k b') (a == b') c _ z r r' rfl rfl (fun u hu => by have hu : PRep S w (.int k a) u := hu; cases hu; rfl) (fun u hu => by have hu : PRep S w (.int k b') u := hu; cases hu; rfl) h1 h2 hu rfl (run_equalIn_int w' d _ _ _ _ _ hu) h4 hc
   ·cases h3
  ·rename_i n0 z a r b' r'
   simp only [flatFs, Bool.and_eq_true, bne_iff_ne] at hf
   obtain ⟨⟨⟨h1, h2⟩, h3⟩, h4⟩ := hf
   have h2 := Nat.eq_of_beq_eq_true h2
   obtain ⟨hg, c, hc, rfl⟩ := eqAnd_elim hk
   split at h3
   ·rename_i hu
    exact go _ _ (.bool a) (.bool b') (a == b') c _ z r r' rfl rfl (fun u hu => by have hu : PRep S w (.bool a) u := hu; cases hu; rfl) (fun u hu => by have hu : PRep S w (.bool b') u := hu; cases hu; rfl) h1 h2 hu rfl (run_equalIn_bool w' d _ _ _ hu) h4 hc
   ·cases h3
  ·rename_i n0 z a r b' r'
   simp only [flatFs, Bool.and_eq_true, bne_iff_ne] at hf
   obtain ⟨⟨⟨h1, h2⟩, h3⟩, h4⟩ := hf
   have h2 := Nat.eq_of_beq_eq_true h2
   obtain ⟨hg, c, hc, rfl⟩ := eqAnd_elim hk
   split at h3
   ·rename_i hu
    exact go _ _ (.string ⟨⟨a⟩⟩) (.string ⟨⟨b'⟩⟩) (a == b') c _ z r r' rfl rfl (fun u hu => by have hu : PRep S w (.str a) u := hu; cases hu; rfl) (fun u hu => by have hu : PRep S w (.str b') u := hu; cases hu; rfl) h1 h2 hu rfl (by
     rw [run_equalIn_string w' d _ _ _ hu, toList_mk, toList_mk]) h4 hc
   ·cases h3
  ·cases hk
theorem bin_sound (hT : TabOk P T) (bo : BinOp) (t t' : TypeId) (x y : Operand) (px py : PV) (hx : VRep μ h S w px (a.eval x)) (hy : VRep μ h S w py (a.eval y)) (hp : pbin (T.get t) bo px py K) :
  Stills P ⟨dst, .binOp bo t x y t', ty, pos, after, guard⟩ a μ h S w K := by
 have key : ∀ (v : PV) (val : Value), K v → VRep μ h S w v val → eqGuard bo t x y (a.eval x) (a.eval y) = pure () → (∀ w', (binOp bo t (a.eval x) (a.eval y)).run P w' = .ok val w') →
   Stills P ⟨dst, .binOp bo t x y t', ty, pos, after, guard⟩ a μ h S w K := fun v val hK hv hg hr => .mk hK hv fun w' _ => run_v (run_bin hg (hr w'))
 unfold pbin at hp
 split at hp
 ·rename_i k n k' n'
  have ex := hx.int_inv
  have ey := hy.int_inv
  have hg : eqGuard bo t x y (a.eval x) (a.eval y) = pure () := by rw [ex]; apply eqGuard_at_int
  cases bo <;> simp only at hp
  case shl =>
   have h0 : ¬ n' < 0 := by omega
   exact key _ _ hp.2 (PRep.int _ _) hg fun w' => by rw [ex, ey, binOp_shl]; simp only [Op.shift, if_neg h0]; rfl
  case shr =>
   have h0 : ¬ n' < 0 := by omega
   exact key _ _ hp.2 (PRep.int _ _) hg fun w' => by rw [ex, ey, binOp_shr]; simp only [Op.shift, if_neg h0]; rfl
  all_goals
   replace hp := guardB_elim hp
   obtain ⟨hk, hp⟩ := hp
   obtain rfl := kindEq_elim hk
  case and => exact key _ _ hp (PRep.int _ _) hg fun w' => by rw [ex, ey, binOp_and, intBits_and]; rfl
  case or => exact key _ _ hp (PRep.int _ _) hg fun w' => by rw [ex, ey, binOp_or, intBits_or]; rfl
  case xor => exact key _ _ hp (PRep.int _ _) hg fun w' => by rw [ex, ey, binOp_xor, intBits_xor]; rfl
  case andNot => exact key _ _ hp (PRep.int _ _) hg fun w' => by rw [ex, ey, binOp_andNot, intBits_andNot]; rfl
  case add => exact key _ _ hp (PRep.int _ _) hg fun w' => by rw [ex, ey, binOp_add]; rfl
  case sub => exact key _ _ hp (PRep.int _ _) hg fun w' => by rw [ex, ey, binOp_sub]; rfl
  case mul => exact key _ _ hp (PRep.int _ _) hg fun w' => by rw [ex, ey, binOp_mul]; rfl
  case quo => exact key _ _ hp.2 (PRep.int _ _) hg fun w' => by rw [ex, ey, binOp_quo]; simp [Op.intDiv, hp.1]
  case rem => exact key _ _ hp.2 (PRep.int _ _) hg fun w' => by rw [ex, ey, binOp_rem]; simp [Op.intDiv, hp.1]
  case eql => exact key _ _ hp (PRep.bool _) hg fun w' => by rw [ex, ey, binOp_eql]; rfl
  case neq => exact key _ _ hp (PRep.bool _) hg fun w' => by rw [ex, ey, binOp_neq]; rfl
  case lss => exact key _ _ hp (PRep.bool _) hg fun w' => by rw [ex, ey, binOp_lss]; rfl
  case leq => exact key _ _ hp (PRep.bool _) hg fun w' => by rw [ex, ey, binOp_leq]; rfl
  case gtr => exact key _ _ hp (PRep.bool _) hg fun w' => by rw [ex, ey, binOp_gtr]; rfl
  case geq => exact key _ _ hp (PRep.bool _) hg fun w' => by rw [ex, ey, binOp_geq]; rfl
 ·rename_i b b'
  have ex := hx.bool_inv
  have ey := hy.bool_inv
  have hg : eqGuard bo t x y (a.eval x) (a.eval y) = pure () := by rw [ex]; apply eqGuard_at_bool
  split at hp
  ·rename_i hti
   exact key _ _ hp (PRep.bool _) hg fun w' => by rw [ex, ey]; exact run_eql_bool w' t _ _ (hT.bool _ hti)
  ·rename_i hti
   exact key _ _ hp (PRep.bool _) hg fun w' => by rw [ex, ey]; exact run_neq_bool w' t _ _ (hT.bool _ hti)
  ·exact hp.elim
 ·rename_i s s'
  have ex := hx.str_inv
  have ey := hy.str_inv
  have hg : eqGuard bo t x y (a.eval x) (a.eval y) = pure () := by rw [ex]; apply eqGuard_at_string
  cases bo <;> simp only at hp
  case add =>
   obtain ⟨hp1, _, rfl, hp2⟩ := hp
   refine key _ _ hp2 (PRep.str _) hg fun w' => ?_
   rw [ex, ey, binOp_string_add]
   have h1 : ¬ (((ByteArray.mk ⟨s⟩).size + (ByteArray.mk ⟨s'⟩).size : Nat) : Int) > IntKind.i64.max := by
    have e1 : (ByteArray.mk ⟨s⟩).size = s.length := rfl
    have e2 : (ByteArray.mk ⟨s'⟩).size = s'.length := rfl
    rw [e1, e2, IntKind.max_i64]
    omega
   simp only [Op.stringOp, if_neg h1]
   have h2 : ByteArray.mk ⟨s⟩ ++ ByteArray.mk ⟨s'⟩ = ByteArray.mk ⟨s ++ s'⟩ := by
    apply ByteArray.ext
    simp [ByteArray.data_append]
   rw [h2]
   rfl
  case eql => exact key _ _ hp (PRep.bool _) hg fun w' => by rw [ex, ey, binOp_string_eql, toList_mk, toList_mk]; rfl
  case neq => exact key _ _ hp (PRep.bool _) hg fun w' => by rw [ex, ey, binOp_string_neq, toList_mk, toList_mk]; rfl
  case lss => exact key _ _ hp (PRep.bool _) hg fun w' => by rw [ex, ey, binOp_string_lss, toList_mk, toList_mk]; rfl
  case leq => exact key _ _ hp (PRep.bool _) hg fun w' => by rw [ex, ey, binOp_string_leq, toList_mk, toList_mk]; rfl
  case gtr => exact key _ _ hp (PRep.bool _) hg fun w' => by rw [ex, ey, binOp_string_gtr, toList_mk, toList_mk]; rfl
  case geq => exact key _ _ hp (PRep.bool _) hg fun w' => by rw [ex, ey, binOp_string_geq, toList_mk, toList_mk]; rfl
  all_goals exact hp.elim
 ·rename_i pxs pys
  split at hp
  ·rename_i sz fl z hti
   replace hp := guardB_elim hp
   obtain ⟨hz, hp⟩ := hp
   have hfl := hT.flat _ _ _ _ hti hz
   unfold flatEq at hfl
   split at hfl
   ·rename_i fs hu
    simp only [Bool.and_eq_true, Bool.not_eq_true'] at hfl
    obtain ⟨⟨h1, h2⟩, h3⟩ := hfl
    obtain ⟨xs, ex, _, hxs⟩ := hx
    obtain ⟨ys, ey, _, hys⟩ := hy
    have hfo : P.fieldsOf t = fs := by simp [Program.fieldsOf, hu]
    have hrun : ∀ b, eqC z pxs pys = some b → ∀ w', (Op.equalIn 10000 t (.agg xs) (.agg ys)).run P w' = .ok b w' := fun b hk w' => by
     rw [run_equalIn_struct w' 9999 t xs ys (by rw [hfo]; exact hu) h1, hfo]
     exact eqFields_flat (μ := μ) (h := h) (S := S) (w := w) 9998 fs.toList z pxs pys 0 b h3 (fun j pv hj => by rw [Nat.zero_add]; exact hxs j pv hj) (fun j pv hj => by rw [Nat.zero_add]; exact hys j pv hj) hk
    have key2 : ∀ (b : Bool), K (.bool b) → (∀ w', (binOp bo t (.agg xs) (.agg ys)).run P w' = .ok (.bool b) w') → Stills P ⟨dst, .binOp bo t x y t', ty, pos, after, guard⟩ a μ h S w K := fun b hK hr => .mk hK (PRep.bool b) fun w' _ => run_v (by
     rw [ex, ey]
     simp [run_eqGuard_agg w' bo t x y xs ys h2, hr w'])
    split at hp
    ·rename_i b hb
     split at hp
     ·obtain ⟨_, rfl, hK⟩ := hp
      exact key2 _ hK fun w' => by rw [run_eql_struct, hrun b hb w']; rfl
     ·obtain ⟨_, rfl, hK⟩ := hp
      exact key2 _ hK fun w' => by rw [run_neq_struct, hrun b hb w']; rfl
     ·exact hp.elim
    ·exact hp.elim
   ·cases hfl
  ·exact hp.elim
 ·exact hp.elim
theorem isAgg_of {t : TypeId} {d : TypeDesc} (hu : P.underlying t = some d) (w' : World) : (isAgg t).run P w' = .ok (aggD d) w' := by
 unfold isAgg
 simp only [Sem.run_bind, run_underlying hu, Result.andThen]
 cases d <;> rfl
def CellsAt (μ : Mu) (h : List AObj) (S : Nat → Prop) (w : World) (cells : List PV) (b off : Nat) : Prop :=
 ∀ (j : Nat) (pv : PV), cells[j]? = some pv → ∃ u, w.cell? ⟨b, off + j, none⟩ = some u ∧ CRep μ h S w pv u
theorem read_sound (hT : TabOk P T) (t : Nat) (x : Operand) (cells : List PV) (b off : Nat) (hx : a.eval x = .pointer (some ⟨b, off, none⟩)) (hc : CellsAt μ h S w cells b off) (hp : readAs T t cells K)
  (hone : ∀ pv u, pv ∈ cells → CRep μ h S w pv u → VRep μ h S w pv u) :
  Stills P ⟨dst, .load t x, ty, pos, after, guard⟩ a μ h S w K := by
 have key : ∀ (v : PV) (val : Value), K v → VRep μ h S w v val → (∀ w', Agree w w' → (loadVar t ⟨b, off, none⟩).run P w' = .ok val w') →
   Stills P ⟨dst, .load t x, ty, pos, after, guard⟩ a μ h S w K := fun v val hK hv hr => .mk hK hv fun w' ha => by
  refine run_v ?_
  rw [hx]
  simp [Instr.loadAt, Instr.sureAddr, hr w' ha]
 have one : ∀ d, P.underlying t = some d → aggD d = false → (∃ c r, cells = c :: r ∧ K c) →
   Stills P ⟨dst, .load t x, ty, pos, after, guard⟩ a μ h S w K := fun d hu hd ⟨c, r, hcs, hK⟩ => by
  obtain ⟨u, hu1, hu2⟩ := hc 0 c (by rw [hcs]; rfl)
  refine key c u hK (hone c u (by rw [hcs]; simp) hu2) fun w' ha => ?_
  have h0 := ha.cell hu1
  rw [Nat.add_zero] at h0
  unfold loadVar
  simp only [Sem.run_bind, isAgg_of hu, hd, Result.andThen]
  simp [run_load, h0]
 unfold readAs at hp
 split at hp
 ·rename_i sz fl zz hti
  obtain ⟨fs, i, hu, hi, hsz, _⟩ := hT.struct _ _ _ _ hti
  replace hp := ptake_elim _ _ _ hp
  obtain ⟨hle, hK⟩ := hp
  simp only [List.reverse_nil, List.nil_append] at hK
  have hf : ∃ f : Nat → Value, ∀ (j : Nat) (pv : PV), cells[j]? = some pv → w.cell? ⟨b, off + j, none⟩ = some (f j) ∧ CRep μ h S w pv (f j) := by
   refine ⟨fun j => (w.cell? ⟨b, off + j, none⟩).getD undef, fun j pv hj => ?_⟩
   obtain ⟨u, h1, h2⟩ := hc j pv hj
   simp only [h1, Option.getD_some]
   exact ⟨trivial, h2⟩
  obtain ⟨f, hf⟩ := hf
  refine key _ (.agg ((List.range sz).map f).toArray) hK ⟨_, rfl, by simp [Nat.min_eq_left hle], fun j pv hj => ?_⟩ fun w' ha => ?_
  ·rw [List.getElem?_take] at hj
   split at hj
   ·rename_i hjs
    obtain ⟨h1, h2⟩ := hf j pv hj
    exact ⟨f j, by simp [hjs], h2⟩
   ·cases hj
  ·unfold loadVar
   have hd : aggD (.struct fs) = true := rfl
   simp only [Sem.run_bind, isAgg_of hu, hd, Result.andThen]
   have hl := run_loadCells (P := P) w' ⟨b, off, none⟩ sz f (fun j hj => by
    rw [Addr.add_lit]
    have hj' : j < cells.length := Nat.lt_of_lt_of_le hj hle
    exact ha.cell (hf j _ (List.getElem?_eq_getElem hj')).1)
   simp [sizeOf, typeInfo, hi, hsz, hl]
 ·exact hp.elim
 ·rename_i h1 h2
  have hcs : ∃ c r, cells = c :: r ∧ K c := by
   cases cells with
   | nil => exact hp.elim
   | cons c r => exact ⟨c, r, rfl, force_elim hp⟩
  cases hti : T.get t with
  | int k => exact one _ (hT.int _ _ hti) rfl hcs
  | bool => exact one _ (hT.bool _ hti) rfl hcs
  | str => exact one _ (hT.str _ hti) rfl hcs
  | slice e sz by' z => exact one _ (hT.slice _ _ _ _ _ hti).1 rfl hcs
  | struct sz fl zz => exact (h1 _ _ _ hti).elim
  | map k e z => exact one _ (hT.map _ _ _ _ hti).1 rfl hcs
  | ptr e => exact one _ (hT.ptr _ _ hti) rfl hcs
  | other => exact (h2 hti).elim
theorem hget_some {id : Nat} {g sz n : Nat} {e : TypeId} {f : Nat → List PV} (hh : hget h id = .row g sz n e f) : h[id]? = some (AObj.row g sz n e f) := by
 unfold hget at hh
 rw [List.getD_eq_getElem?_getD] at hh
 cases ho : h[id]? with
 | none => rw [ho] at hh; cases hh
 | some o => rw [ho] at hh; simp at hh; rw [hh]
theorem VRep.own_inv {id gen off len : Nat} {v : Value} (hv : VRep μ h S w (.own id gen off len) v) : OwnRep μ h w id gen off len v := hv
theorem VRep.optr_inv {id gen i off : Nat} {v : Value} (hv : VRep μ h S w (.optr id gen i off) v) : OptrRep μ h w id gen i off v := hv
theorem VRep.omp_inv {id : Nat} {v : Value} (hv : VRep μ h S w (.omp id) v) : OmpRep μ h w id v := hv
theorem map_open (hH : HeapRep μ h S w) {id g sz n : Nat} {e : TypeId} {f : Nat → List PV} {v : Value} (hh : h[id]? = some (AObj.row g sz n e f)) (hr : OmpRep μ h w id v) :
  ∃ b base es c, μ id = some (b, base) ∧ v = .map (some b) ∧ w.heap[b]? = some (.map es c) ∧ es.size = n ∧
   ∀ i, i < n → ∃ (kp vp : PV) (en : MapEntry), f i = [kp, vp] ∧ scalA kp = true ∧ scalA vp = true ∧ es[i]? = some en ∧ SRep kp en.key ∧ SRep vp en.val := by
 unfold OmpRep at hr
 rw [hh] at hr
 obtain ⟨_, b, base, hmu, ⟨es, c, hb⟩, rfl⟩ := hr
 obtain ⟨_, ho⟩ := hH id g sz n e f hh
 rw [hmu] at ho
 obtain ⟨o, h1, h2⟩ := ho
 obtain rfl := Option.some.inj (hb.symm.trans h1)
 exact ⟨b, base, es, c, hmu, rfl, hb, h2.1, h2.2⟩
theorem eqC_scal : ∀ (z xs ys : List PV) (b : Bool), eqC z xs ys = some b → ∀ (j : Nat) (pv : PV), ys[j]? = some pv → ∀ u, SRep1 pv u → CRep μ h S w pv u
 | z, xs, ys, b, hk, j, pv, hj, u, hu => by
  unfold eqC at hk
  split at hk
  ·simp at hj
  ·obtain ⟨_, c, hc, _⟩ := eqAnd_elim hk
   cases j with
   | zero => simp at hj; subst hj; have hu : u = _ := hu; subst hu; exact PRep.int _ _
   | succ j => exact eqC_scal _ _ _ c hc j pv (by simpa using hj) u hu
  ·obtain ⟨_, c, hc, _⟩ := eqAnd_elim hk
   cases j with
   | zero => simp at hj; subst hj; have hu : u = _ := hu; subst hu; exact PRep.bool _
   | succ j => exact eqC_scal _ _ _ c hc j pv (by simpa using hj) u hu
  ·obtain ⟨_, c, hc, _⟩ := eqAnd_elim hk
   cases j with
   | zero => simp at hj; subst hj; have hu : u = _ := hu; subst hu; exact PRep.str _
   | succ j => exact eqC_scal _ _ _ c hc j pv (by simpa using hj) u hu
  ·cases hk
theorem eqC_len : ∀ (z xs ys : List PV) (b : Bool), eqC z xs ys = some b → xs.length = z.length
 | z, xs, ys, b, hk => by
  unfold eqC at hk
  split at hk
  ·rfl
  ·obtain ⟨_, c, hc, _⟩ := eqAnd_elim hk
   simp [eqC_len _ _ _ c hc]
  ·obtain ⟨_, c, hc, _⟩ := eqAnd_elim hk
   simp [eqC_len _ _ _ c hc]
  ·obtain ⟨_, c, hc, _⟩ := eqAnd_elim hk
   simp [eqC_len _ _ _ c hc]
  ·cases hk
theorem check_flat {kt : TypeId} {fs : Array Field} {z xs : List PV} {vxs : Array Value} (hu : P.underlying kt = some (.struct fs)) (hf : flatFs P 0 fs.toList z = true)
  (hx : ∀ (j : Nat) (pv : PV), xs[j]? = some pv → ∃ u, vxs[j]? = some u ∧ CRep μ h S w pv u) (hl : xs.length = z.length) (em : Bool) (w' : World) : (Instr.checkKey em 10000 kt (.agg vxs)).run P w' = .ok () w' := by
 rw [show 10000 = 9999 + 1 from rfl, Instr.checkKey]
 simp only [Sem.run_bind, run_underlying hu, Result.andThen_ok]
 rw [← Array.forIn_toList]
 replace hx : ∀ (j : Nat) (pv : PV), xs[j]? = some pv → ∃ u, vxs[0 + j]? = some u ∧ CRep μ h S w pv u := fun j pv hj => by rw [Nat.zero_add]; exact hx j pv hj
 generalize (0 : Nat) = n at hf hx
 generalize fs.toList = L at hf
 clear hu
 induction L generalizing n z xs with
 | nil => simp
 | cons f L ih =>
  cases z with
  | nil => simp [flatFs] at hf
  | cons c z =>
   cases xs with
   | nil => simp at hl
   | cons p xs =>
    have hrest : flatFs P (n + 1) L z = true → (∀ (j : Nat) (pv : PV), xs[j]? = some pv → ∃ u, vxs[n + 1 + j]? = some u ∧ CRep μ h S w pv u) := fun _ j pv hj => by
     obtain ⟨u, q1, q2⟩ := hx (j + 1) pv (by simpa using hj)
     exact ⟨u, by rw [← q1]; congr 1; omega, q2⟩
    obtain ⟨u, hu1, _⟩ := hx 0 p rfl
    have key : ∃ d, P.underlying f.type = some d ∧ aggD d = false ∧ f.name ≠ "_" ∧ f.offset = n ∧ flatFs P (n + 1) L z = true ∧ ∀ u, (Instr.checkKey em 9999 f.type u).run P w' = .ok () w' := by
     cases c with
     | int k n0 =>
      simp only [flatFs, Bool.and_eq_true, bne_iff_ne] at hf
      obtain ⟨⟨⟨h1, h2⟩, h3⟩, h4⟩ := hf
      split at h3
      ·rename_i k' hu
       exact ⟨_, hu, rfl, h1, Nat.eq_of_beq_eq_true h2, h4, fun u => by rw [show 9999 = 9998 + 1 from rfl, Instr.checkKey]; simp [run_underlying hu]⟩
      ·cases h3
     | bool b0 =>
      simp only [flatFs, Bool.and_eq_true, bne_iff_ne] at hf
      obtain ⟨⟨⟨h1, h2⟩, h3⟩, h4⟩ := hf
      split at h3
      ·rename_i hu
       exact ⟨_, hu, rfl, h1, Nat.eq_of_beq_eq_true h2, h4, fun u => by rw [show 9999 = 9998 + 1 from rfl, Instr.checkKey]; simp [run_underlying hu]⟩
      ·cases h3
     | str s0 =>
      simp only [flatFs, Bool.and_eq_true, bne_iff_ne] at hf
      obtain ⟨⟨⟨h1, h2⟩, h3⟩, h4⟩ := hf
      split at h3
      ·rename_i hu
       exact ⟨_, hu, rfl, h1, Nat.eq_of_beq_eq_true h2, h4, fun u => by rw [show 9999 = 9998 + 1 from rfl, Instr.checkKey]; simp [run_underlying hu]⟩
      ·cases h3
     | _ => simp [flatFs] at hf
    obtain ⟨d, hu, hd, hn, ho, hfs, hck⟩ := key
    have p1 := run_part_one hu hd vxs f.offset u (by rw [ho]; exact hu1) w'
    have p2 := hck u
    simp only [List.forIn_cons, Sem.run_bind, hn, ne_eq, not_false_eq_true, if_true, Result.andThen_ok, p1, p2, Sem.run_pure]
    exact ih (by simpa using hl) (n + 1) (hrest hfs) hfs
def KeyCmp (P : Program) (kt : TypeId) (d : TypeDesc) (s : Bool) (key ek : Value) (q : Bool) : Prop :=
 match s with
 | false => Instr.sameNow d key ek = some q
 | true => Instr.sameNow d key ek = none ∧ ∀ w', (Op.equal kt key ek).run P w' = .ok q w'
theorem key_cmp (hT : TabOk P T) {kt : Nat} {kv : PV} {key : Value} {q0 : Bool} (hkv : VRep μ h S w kv key) (h0 : keyEq (T.get kt) kv kv = some q0) :
  ∃ d s, P.underlying kt = some d ∧ (∀ (em : Bool) (w' : World), (Instr.checkKey em 10000 kt key).run P w' = .ok () w') ∧ ∀ (kp : PV) (ek : Value) (q : Bool), SRep kp ek → keyEq (T.get kt) kv kp = some q → KeyCmp P kt d s key ek q := by
 cases hti : T.get kt with
 | int k =>
  rw [hti] at h0
  cases kv <;> simp only [keyEq] at h0 <;> try cases h0
  rename_i k1 x
  have hu := hT.int _ _ hti
  obtain ⟨hg0, _⟩ := eqAnd_elim h0
  simp only [Bool.and_eq_true] at hg0
  obtain rfl := kindEq_elim hg0.1
  obtain rfl := hkv.int_inv
  refine ⟨_, false, hu, fun em w' => by rw [show 10000 = 9999 + 1 from rfl, Instr.checkKey]; simp [run_underlying hu], fun kp ek q hs hq => ?_⟩
  cases kp <;> simp only [keyEq] at hq <;> try cases hq
  rename_i k3 y3
  obtain ⟨hg, c, hc, rfl⟩ := eqAnd_elim hq
  injection hc with hc; subst hc
  simp only [Bool.and_eq_true] at hg
  obtain rfl := kindEq_elim hg.2
  obtain rfl : ek = _ := hs
  simp [KeyCmp, Instr.sameNow]
 | str =>
  rw [hti] at h0
  cases kv <;> simp only [keyEq] at h0 <;> try cases h0
  rename_i x
  have hu := hT.str _ hti
  obtain rfl := hkv.str_inv
  refine ⟨_, false, hu, fun em w' => by rw [show 10000 = 9999 + 1 from rfl, Instr.checkKey]; simp [run_underlying hu], fun kp ek q hs hq => ?_⟩
  cases kp <;> simp only [keyEq] at hq <;> try cases hq
  obtain rfl : ek = _ := hs
  rename_i y3
  simp only [KeyCmp, Instr.sameNow]
  congr 1
  show ((Array.mk x) == (Array.mk y3)) = (x == y3)
  rw [Bool.eq_iff_iff, beq_iff_eq, beq_iff_eq, Array.mk.injEq]
 | struct sz fl z =>
  rw [hti] at h0
  cases kv <;> simp only [keyEq] at h0 <;> try cases h0
  rename_i xs
  split at h0
  ·rename_i hz
   have hfl := hT.flat _ _ _ _ hti hz
   unfold flatEq at hfl
   split at hfl
   ·rename_i fs hu
    simp only [Bool.and_eq_true, Bool.not_eq_true'] at hfl
    obtain ⟨⟨h1, h2⟩, h3⟩ := hfl
    obtain ⟨vxs, ex, _, hxs⟩ := (show ARep μ h S w (.agg xs) key from hkv)
    subst ex
    have hfo : P.fieldsOf kt = fs := by simp [Program.fieldsOf, hu]
    refine ⟨_, true, hu, fun em w' => check_flat hu h3 hxs (eqC_len z xs xs q0 h0) em w', fun kp ek q hs hq => ?_⟩
    cases kp <;> simp only [keyEq, hz] at hq <;> try cases hq
    rename_i pys
    obtain ⟨vys, rfl, _, hys⟩ := (show ∃ vs : Array Value, ek = .agg vs ∧ vs.size = pys.length ∧ ∀ (j : Nat) (pv : PV), pys[j]? = some pv → ∃ u : Value, vs[j]? = some u ∧ SRep1 pv u from hs)
    refine ⟨rfl, fun w' => ?_⟩
    show (Op.equalIn 10000 kt (.agg vxs) (.agg vys)).run P w' = _
    rw [run_equalIn_struct w' 9999 kt vxs vys (by rw [hfo]; exact hu) h1, hfo]
    exact eqFields_flat (μ := μ) (h := h) (S := S) (w := w) 9998 fs.toList z xs pys 0 q h3 (fun j pv hj => by rw [Nat.zero_add]; exact hxs j pv hj) (fun j pv hj => by
     rw [Nat.zero_add]
     obtain ⟨u, hu, hr⟩ := hys j pv hj
     exact ⟨u, hu, eqC_scal z xs pys q hq j pv hj u hr⟩) hq
   ·cases hfl
  ·cases h0
 | _ =>
  rw [hti] at h0
  cases kv <;> simp [keyEq] at h0
theorem findNow_at {d : TypeDesc} {key : Value} : ∀ (l : List MapEntry) (i s : Nat) (en : MapEntry), (∀ j, j < i → ∀ x : MapEntry, l[j]? = some x → Instr.sameNow d key x.key = some false) → l[i]? = some en → Instr.sameNow d key en.key = some true →
  Instr.findNow d key l s = some (some (s + i, en.val))
 | [], i, s, en, _, h, _ => by simp at h
 | x :: l, 0, s, en, _, h, hq => by
  simp at h; subst h
  simp [Instr.findNow, hq]
 | x :: l, i + 1, s, en, hf, h, hq => by
  have h0 := hf 0 (by omega) x rfl
  have := findNow_at l i (s + 1) en (fun j hj y hy => hf (j + 1) (by omega) y (by simpa using hy)) (by simpa using h) hq
  simp only [Instr.findNow, h0, this]
  congr 3
  omega
theorem findNow_none {d : TypeDesc} {key : Value} : ∀ (l : List MapEntry) (s : Nat), (∀ (j : Nat) (x : MapEntry), l[j]? = some x → Instr.sameNow d key x.key = some false) → Instr.findNow d key l s = some none
 | [], s, _ => rfl
 | x :: l, s, hf => by
  have h0 := hf 0 x rfl
  simp only [Instr.findNow, h0]
  exact findNow_none l (s + 1) (fun j y hy => hf (j + 1) y (by simpa using hy))
theorem findAsk_at {kt : TypeId} {key : Value} {w' : World} : ∀ (l : List MapEntry) (i s : Nat) (en : MapEntry), (∀ j, j < i → ∀ x : MapEntry, l[j]? = some x → (Op.equal kt key x.key).run P w' = .ok false w') → l[i]? = some en → (Op.equal kt key en.key).run P w' = .ok true w' →
  (Instr.findAsking kt key l s).run P w' = .ok (some (s + i, en.val)) w'
 | [], i, s, en, _, h, _ => by simp at h
 | x :: l, 0, s, en, _, h, hq => by
  simp at h; subst h
  simp [Instr.findAsking, hq]
 | x :: l, i + 1, s, en, hf, h, hq => by
  have h0 := hf 0 (by omega) x rfl
  have := findAsk_at l i (s + 1) en (fun j hj y hy => hf (j + 1) (by omega) y (by simpa using hy)) (by simpa using h) hq
  simp only [Instr.findAsking, Sem.run_bind, h0, Result.andThen_ok, Bool.false_eq_true, if_false, this]
  congr 3
  omega
theorem findAsk_none {kt : TypeId} {key : Value} {w' : World} : ∀ (l : List MapEntry) (s : Nat), (∀ (j : Nat) (x : MapEntry), l[j]? = some x → (Op.equal kt key x.key).run P w' = .ok false w') → (Instr.findAsking kt key l s).run P w' = .ok none w'
 | [], s, _ => rfl
 | x :: l, s, hf => by
  have h0 := hf 0 x rfl
  simp only [Instr.findAsking, Sem.run_bind, h0, Result.andThen_ok, Bool.false_eq_true, if_false]
  exact findAsk_none l (s + 1) (fun j y hy => hf (j + 1) y (by simpa using hy))
theorem findKey_at {kt : TypeId} {d : TypeDesc} {s : Bool} {key : Value} {w' : World} (hu : P.underlying kt = some d) (l : List MapEntry) (i : Nat) (en : MapEntry) (hf : ∀ j, j < i → ∀ x : MapEntry, l[j]? = some x → KeyCmp P kt d s key x.key false)
  (hi : l[i]? = some en) (hq : KeyCmp P kt d s key en.key true) : (Instr.findKey kt key l).run P w' = .ok (some (i, en.val)) w' := by
 unfold Instr.findKey
 cases s with
 | false =>
  have := findNow_at l i 0 en hf hi hq
  rw [Nat.zero_add] at this
  simp [run_underlying hu, this]
 | true =>
  have h1 := findAsk_at (P := P) (w' := w') l i 0 en (fun j hj x hx => (hf j hj x hx).2 w') hi (hq.2 w')
  rw [Nat.zero_add] at h1
  have h2 : Instr.findNow d key l 0 = none := by
   cases l with
   | nil => simp at hi
   | cons x l =>
    have h3 : Instr.sameNow d key x.key = none := by
     cases i with
     | zero => simp at hi; subst hi; exact hq.1
     | succ i => exact (hf 0 (by omega) x rfl).1
    simp [Instr.findNow, h3]
  simp [run_underlying hu, h2, h1]
theorem findKey_none {kt : TypeId} {d : TypeDesc} {s : Bool} {key : Value} {w' : World} (hu : P.underlying kt = some d) (l : List MapEntry) (hf : ∀ (j : Nat) (x : MapEntry), l[j]? = some x → KeyCmp P kt d s key x.key false) :
  (Instr.findKey kt key l).run P w' = .ok none w' := by
 unfold Instr.findKey
 cases s with
 | false => simp [run_underlying hu, findNow_none l 0 hf]
 | true =>
  have h1 := findAsk_none (P := P) (w' := w') (kt := kt) (key := key) l 0 (fun j x hx => (hf j x hx).2 w')
  cases l with
  | nil => simp [run_underlying hu, Instr.findNow]
  | cons x l =>
   have h3 : Instr.sameNow d key x.key = none := (hf 0 x rfl).1
   simp [run_underlying hu, Instr.findNow, h3, h1]
theorem CRep.v {pv : PV} {u : Value} (hc : CRep μ h S w pv u) : VRep μ h S w pv u := by
 cases pv <;> first | exact (show False from hc).elim | trivial | exact hc
theorem load_sound (hT : TabOk P T) (hH : HeapRep μ h S w) (t : Nat) (x : Operand) (px : PV) (hx : VRep μ h S w px (a.eval x)) (hp : pload T t px h K) :
  Stills P ⟨dst, .load t x, ty, pos, after, guard⟩ a μ h S w K := by
 unfold pload at hp
 split at hp
 ·rename_i cells
  obtain ⟨b, off, vf, e1, _, h2, h3⟩ := hx.pptr_inv
  exact read_sound hT t x cells b off e1 (fun j pv hj => ⟨vf j, h2 j pv hj, CRep.of_pure (h3 j pv hj)⟩) hp fun pv u _ hc => hc.v
 ·rename_i id gen i off
  split at hp
  ·rename_i g sz n e f hg
   obtain ⟨rfl, _, rfl, hp⟩ := hp
   have hh := hget_some hg
   have hr := hx.optr_inv
   unfold OptrRep at hr
   rw [hh] at hr
   obtain ⟨_, _, hr⟩ := hr
   obtain ⟨hin, b, base, hmu, hcp, hv⟩ := hr rfl
   obtain ⟨hl, hc⟩ := hH id g sz n e f hh
   rw [hmu] at hc
   obtain ⟨cur, hb, hsz, hcell⟩ := HeapRep.cells hcp hc
   refine read_sound hT t x _ b (base + i * sz + off) hv (fun j pv hj => ?_) hp fun pv u _ hc => hc.v
   rw [List.getElem?_drop] at hj
   obtain ⟨v, h1, h2⟩ := hcell i (off + j) pv hin hj
   refine ⟨v, ?_, h2⟩
   rw [cell_of_row w b (base + i * sz + off + j) cur e (0, 0) hb, ← h1]
   congr 1
   omega
  ·exact hp.elim
 ·exact hp.elim
theorem size_of {e : TypeId} {i : TypeInfo} (hi : P.info? e = some i) (w' : World) : (sizeOf e).run P w' = .ok i.size w' := by
 simp [sizeOf, typeInfo, hi]
theorem run_indexAt {t e : TypeId} {i : TypeInfo} (hu : P.underlying t = some (.slice e)) (hi : P.info? e = some i) (a : Addr) (n c : Nat) (k : IntKind) (x : Int) (h0 : 0 ≤ x) (h1 : x < n) (w' : World) :
  (Instr.indexAt t (.slice (some a) n c) (.int k x)).run P w' = .ok (.pointer (some (a.add (x.toNat * i.size)))) w' := by
 have he : P.elem t = e := by simp [Program.elem, hu]
 rw [run_indexAt_slice w' t a n c k x (by rw [he]; exact hu), if_pos ⟨h0, h1⟩, he, size_of hi]
 rfl
theorem index_sound (hT : TabOk P T) (hH : HeapRep μ h S w) (ht : ∀ t, VRep μ h S w (env t) (a.tmps.getD t undef)) (t : Nat) (x i : Operand) (hp : spop T (.indexAddr t x i) env h K) :
  Stills P ⟨dst, .indexAddr t x i, ty, pos, after, guard⟩ a μ h S w K := by
 have hx := ev_rep ht x
 have hi := ev_rep ht i
 unfold spop at hp
 simp only at hp
 split at hp
 ·rename_i e sz bt z sz' n f k ix hti hex hei
  rw [hex] at hx
  rw [hei] at hi
  replace hp := guardB_elim hp
  obtain ⟨hse, ⟨h0, h1⟩, _, rfl, hK⟩ := hp
  obtain rfl := Nat.eq_of_beq_eq_true hse
  have ei := hi.int_inv
  obtain ⟨hu, _, inf, zv, hinf, hisz, _⟩ := hT.slice _ _ _ _ _ hti
  rcases hx.slc_inv with ⟨_, _, _, rfl⟩ | ⟨b, off, c, vf, ex, hS, hl, hc, hcell, hrep⟩
  ·omega
  ·have hix : ix.toNat < n := by omega
   refine .mk hK (PRep.pptr (f ix.toNat) b (off + ix.toNat * sz) (vf ix.toNat) hS (fun j pv hj => hcell _ j pv hix hj) (fun j pv hj => hrep _ j pv hix hj)) fun w' _ => run_v ?_
   rw [ex, ei, run_indexAt hu hinf _ _ _ _ _ h0 h1, hisz, Addr.add_lit]
 ·rename_i e sz bt z id gen off len k ix hti hex hei
  rw [hex] at hx
  rw [hei] at hi
  have ei := hi.int_inv
  obtain ⟨hu, _, inf, zv, hinf, hisz, _⟩ := hT.slice _ _ _ _ _ hti
  split at hp
  ·rename_i g sz' n e' f hgt
   obtain ⟨rfl, hp⟩ := hp
   replace hp := guardB_elim hp
   obtain ⟨hse, ⟨h0, h1⟩, _, rfl, hK⟩ := hp
   obtain rfl := Nat.eq_of_beq_eq_true hse
   have hh := hget_some hgt
   have hr := hx.own_inv
   unfold OwnRep at hr
   rw [hh] at hr
   obtain ⟨_, _, hr⟩ := hr
   obtain ⟨hle, hr⟩ := hr rfl
   cases hmu : μ id with
   | none =>
    rw [hmu] at hr
    obtain ⟨_, hz⟩ := hH id _ _ _ _ _ hh
    rw [hmu] at hz
    have hz : n = 0 := hz
    omega
   | some p =>
    obtain ⟨b, base⟩ := p
    rw [hmu] at hr
    obtain ⟨ad, cap, ex, hlc, had, hcp⟩ := hr
    have had := had (by omega)
    subst had
    refine .mk hK (v := .optr id g (off + ix.toNat) 0) (val := .pointer (some ⟨b, base + (off + ix.toNat) * sz + 0, none⟩)) ?_ fun w' _ => run_v ?_
    ·show OptrRep μ h w id g (off + ix.toNat) 0 _
     unfold OptrRep
     rw [hh]
     exact ⟨⟨_, rfl⟩, Nat.le_refl _, fun _ => ⟨by omega, b, base, hmu, hcp.least, rfl⟩⟩
    ·rw [ex, ei, run_indexAt hu hinf _ _ _ _ _ h0 h1, hisz, Addr.add_lit]
     have : base + off * sz + ix.toNat * sz = base + (off + ix.toNat) * sz + 0 := by rw [Nat.add_mul]; omega
     rw [this]
  ·exact hp.elim
 ·exact hp.elim
theorem strindex_sound (hT : TabOk P T) (ht : ∀ t, VRep μ h S w (env t) (a.tmps.getD t undef)) (t : Nat) (x i : Operand) (hp : spop T (.index t x i) env h K) :
  Stills P ⟨dst, .index t x i, ty, pos, after, guard⟩ a μ h S w K := by
 have hx := ev_rep ht x
 have hi := ev_rep ht i
 unfold spop at hp
 simp only at hp
 split at hp
 ·rename_i s k ix hti hex hei
  rw [hex] at hx
  rw [hei] at hi
  obtain ⟨⟨h0, h1⟩, _, rfl, hK⟩ := hp
  have ei := hi.int_inv
  have ex := hx.str_inv
  have hu := hT.str _ hti
  refine .mk hK (PRep.int _ _) fun w' _ => run_v ?_
  rw [ex, ei]
  have hb : (ByteArray.mk ⟨s⟩)[ix.toNat]? = some (s.getD ix.toNat 0) := by
   have hlt : ix.toNat < s.length := by omega
   rw [List.getD_eq_getElem?_getD, List.getElem?_eq_getElem hlt]
   rw [getElem?_pos (ByteArray.mk ⟨s⟩) ix.toNat hlt]
   rfl
  simp only [Instr.index, asIntOf, Sem.run_bind, Sem.run_pure, Result.andThen, run_underlying hu, if_pos h0, hb]
 ·exact hp.elim
theorem len_sound (hT : TabOk P T) (hH : HeapRep μ h S w) (ht : ∀ t, VRep μ h S w (env t) (a.tmps.getD t undef)) (args : Array Operand) (ts : Array TypeId) (hp : spop T (.call ⟨.builtin .len, args, ts⟩) env h K) :
  Stills P ⟨dst, .call ⟨.builtin .len, args, ts⟩, ty, pos, after, guard⟩ a μ h S w K := by
 obtain ⟨args⟩ := args
 obtain ⟨ts⟩ := ts
 unfold spop at hp
 simp only at hp
 split at hp
 ·rename_i x t
  have hx := ev_rep ht x
  have fin : ∀ (n : Int) (val : Value), a.eval x = val → K (.int .i64 n) → (∀ w', (Builtin.len_ #[t] ty #[val]).run P w' = .ok (goInt n) w') →
    Stills P ⟨dst, .call ⟨.builtin .len, #[x], #[t]⟩, ty, pos, after, guard⟩ a μ h S w K := fun n val hval hK hr => .mk hK (PRep.int _ _) fun w' _ => by
   simp only [execOp, resolve, invoke, builtin, Sem.run_bind, Sem.run_pure, Result.andThen_ok, List.map_toArray, List.map_cons, List.map_nil, hval, hr]
   rfl
  split at hp
  ·rename_i e sz bt z sz' n f hti hex
   rw [hex] at hx
   obtain ⟨hu, _⟩ := hT.slice _ _ _ _ _ hti
   have he : P.elem t = e := by simp [Program.elem, hu]
   rcases hx.slc_inv with ⟨aa, c, ex, rfl⟩ | ⟨b, off, c, vf, ex, _⟩
   ·exact fin _ _ ex hp fun w' => run_len_slice w' t ty _ _ _ (by rw [he]; exact hu)
   ·exact fin _ _ ex hp fun w' => run_len_slice w' t ty _ _ _ (by rw [he]; exact hu)
  ·rename_i e sz bt z hti hex
   rw [hex] at hx
   obtain ⟨hu, _⟩ := hT.slice _ _ _ _ _ hti
   have he : P.elem t = e := by simp [Program.elem, hu]
   exact fin _ _ hx.nils_inv hp fun w' => run_len_slice w' t ty _ _ _ (by rw [he]; exact hu)
  ·rename_i e sz bt z id gen off n hti hex
   rw [hex] at hx
   obtain ⟨hu, _⟩ := hT.slice _ _ _ _ _ hti
   have he : P.elem t = e := by simp [Program.elem, hu]
   split at hp
   ·rename_i g sz' n' e' f hgt
    obtain ⟨rfl, hK⟩ := hp
    have hh := hget_some hgt
    have hr := hx.own_inv
    unfold OwnRep at hr
    rw [hh] at hr
    obtain ⟨_, _, hr⟩ := hr
    obtain ⟨hle, hr⟩ := hr rfl
    have hval : ∃ aa c, a.eval x = .slice aa n c := by
     cases hmu : μ id with
     | none =>
      rw [hmu] at hr
      obtain ⟨_, hz⟩ := hH id _ _ _ _ _ hh
      rw [hmu] at hz
      have hz : n' = 0 := hz
      have : n = 0 := by omega
      subst this
      exact ⟨_, _, hr⟩
     | some p =>
      rw [hmu] at hr
      obtain ⟨ad, cap, ex, _⟩ := hr
      exact ⟨_, _, ex⟩
    obtain ⟨aa, c, ex⟩ := hval
    exact fin _ _ ex hK fun w' => run_len_slice w' t ty _ _ _ (by rw [he]; exact hu)
   ·exact hp.elim
  ·rename_i s hti hex
   rw [hex] at hx
   have hu := hT.str _ hti
   refine fin _ _ hx.str_inv hp fun w' => ?_
   simp [Builtin.len_, run_underlying hu]
   rfl
  ·rename_i k0 e0 z0 id hti hex
   rw [hex] at hx
   obtain ⟨hu, _⟩ := hT.map _ _ _ _ hti
   split at hp
   ·rename_i g sz n e f hgt
    obtain ⟨b, base, es, c, hmu, ex, hb, hn, _⟩ := map_open hH (hget_some hgt) hx.omp_inv
    refine .mk hp (PRep.int _ _) fun w' ha => ?_
    have hb' : w'.heap[b]? = some (.map es c) := (ha.blocks b (Array.getElem?_eq_some_iff.1 hb).1).trans hb
    simp only [execOp, resolve, invoke, builtin, Sem.run_bind, Sem.run_pure, Result.andThen_ok, List.map_toArray, List.map_cons, List.map_nil, ex]
    rw [show (Builtin.len_ #[t] ty #[.map (some b)]).run P w' = .ok (goInt es.size) w' by simp [Builtin.len_, run_underlying hu, run_getObj_map w' b es c hb']]
    rw [hn]
    rfl
   ·exact hp.elim
  ·exact hp.elim
 ·exact hp.elim
theorem str_extract (s : List UInt8) (l m : Nat) : (ByteArray.mk ⟨s⟩).extract l m = ByteArray.mk ⟨(s.take m).drop l⟩ := by
 apply ByteArray.ext
 rw [ByteArray.data_extract]
 apply Array.ext'
 rw [List.drop_take]
 simp [Array.toList_extract, List.extract]
theorem slice_own (hT : TabOk P T) (hH : HeapRep μ h S w) (id g off len sz n : Nat) (e : TypeId) (f : Nat → List PV) (hh : h[id]? = some (AObj.row g sz n e f)) (v : Value) (hv : VRep μ h S w (.own id g off len) v) (l m : Nat) (hl : l ≤ m) (hm : m ≤ len) :
  ∃ aa c, v = .slice aa len c ∧ len ≤ c ∧ ∀ (mx : Nat), m ≤ mx → mx ≤ c → VRep μ h S w (.own id g (off + l) (m - l)) (.slice (if mx = l then aa else aa.map (·.add (l * sz))) (m - l) (mx - l)) := by
 have hr := hv.own_inv
 unfold OwnRep at hr
 rw [hh] at hr
 obtain ⟨_, _, hr⟩ := hr
 obtain ⟨hle, hr⟩ := hr rfl
 cases hmu : μ id with
 | none =>
  rw [hmu] at hr
  obtain ⟨_, hz⟩ := hH id _ _ _ _ _ hh
  rw [hmu] at hz
  have hz : n = 0 := hz
  have h0 : len = 0 := by omega
  subst h0
  have hr : v = .slice none 0 0 := hr
  refine ⟨none, 0, hr, Nat.le_refl _, fun mx h1 h2 => ?_⟩
  have hm0 : m = 0 := by omega
  have hl0 : l = 0 := by omega
  have hx0 : mx = 0 := by omega
  subst hm0
  subst hl0
  subst hx0
  show OwnRep μ h w id g (off + 0) (0 - 0) _
  unfold OwnRep
  rw [hh]
  refine ⟨⟨_, _, _, rfl⟩, Nat.le_refl _, fun _ => ⟨by omega, ?_⟩⟩
  rw [hmu]
  rfl
 | some p =>
  obtain ⟨b, base⟩ := p
  rw [hmu] at hr
  obtain ⟨ad, cap, ex, hlc, had, hcap⟩ := hr
  refine ⟨some ad, cap, ex, hlc, fun mx h1 h2 => ?_⟩
  show OwnRep μ h w id g (off + l) (m - l) _
  unfold OwnRep
  rw [hh]
  refine ⟨⟨_, _, _, rfl⟩, Nat.le_refl _, fun _ => ⟨by omega, ?_⟩⟩
  rw [hmu]
  by_cases hml : mx = l
  ·refine ⟨ad, 0, by rw [if_pos hml]; subst hml; simp, by omega, fun h => absurd h (by omega), ?_⟩
   obtain ⟨cur, e', q1, q2⟩ := hcap
   refine ⟨cur, e', q1, Nat.le_trans ?_ q2⟩
   have : (off + l + 0) * sz ≤ (off + cap) * sz := Nat.mul_le_mul_right _ (by omega)
   omega
  ·have had := had (by omega)
   subst had
   refine ⟨⟨b, base + (off + l) * sz, none⟩, mx - l, ?_, by omega, fun _ => rfl, ?_⟩
   ·rw [if_neg hml, Option.map_some, Addr.add_lit, Nat.add_mul, Nat.add_assoc]
   ·obtain ⟨cur, e', q1, q2⟩ := hcap
    refine ⟨cur, e', q1, Nat.le_trans ?_ q2⟩
    have : (off + l + (mx - l)) * sz ≤ (off + cap) * sz := Nat.mul_le_mul_right _ (by omega)
    omega
theorem slice_slc (sz n : Nat) (f : Nat → List PV) (v : Value) (hv : VRep μ h S w (.slc sz n f) v) (l m : Nat) (hl : l ≤ m) (hm : m ≤ n) :
  ∃ aa c, v = .slice aa n c ∧ ((n ≤ c ∨ n = 0) ∧ ∀ (mx : Nat), m ≤ mx → (mx ≤ c ∨ m = 0) → VRep μ h S w (.slc sz (m - l) (fun i => f (l + i))) (.slice (if mx = l then aa else aa.map (·.add (l * sz))) (m - l) (mx - l))) := by
 rcases hv.slc_inv with ⟨aa, c, ex, rfl⟩ | ⟨b, off, c, vf, ex, hS, hlen, hc, hcell, hrep⟩
 ·have hm0 : m = 0 := by omega
  subst hm0
  have hl0 : l = 0 := by omega
  subst hl0
  exact ⟨aa, c, ex, .inr rfl, fun mx _ _ => PRep.slc0 _ _ _ _⟩
 ·refine ⟨_, c, ex, .inl hc, fun mx h1 h2 => ?_⟩
  by_cases hml : m = l
  ·subst hml
   rw [Nat.sub_self]
   exact PRep.slc0 _ _ _ _
  ·rw [if_neg (by omega), Option.map_some, Addr.add_lit]
   refine PRep.slc sz (m - l) _ b (off + l * sz) (mx - l) (fun i j => vf (l + i) j) hS (fun i hi => hlen _ (by omega)) (by omega) (fun i j pv hi hj => ?_) (fun i j pv hi hj => hrep _ j pv (by omega) hj)
   have := hcell (l + i) j pv (by omega) hj
   rw [Nat.add_mul] at this
   rw [← this]
   congr 2
   omega
theorem run_v_of {o : Oper} {s : Sem Value} {val : Value} {w' w'' : World} (he : execOp a.eval o = (do pure (Next.value (← s)) : Sem Next)) (hs : s.run P w' = .ok val w'') : (execOp a.eval o).run P w' = .ok (.value val) w'' := by
 rw [he]; exact run_v hs
theorem opt_map_ev (hx : ∀ x, VRep μ h S w (ev env x) (a.eval x)) {lo : Option Operand} : (lo.map (ev env) = none → lo.map a.eval = none) ∧ ∀ k n, lo.map (ev env) = some (.int k n) → lo.map a.eval = some (.int k n) := by
 cases lo with
 | none => exact ⟨fun _ => rfl, fun k n h => (by cases h)⟩
 | some x =>
  refine ⟨fun h => (by cases h), fun k n hh => ?_⟩
  have hh : ev env x = .int k n := by injection hh
  have := hx x
  rw [hh] at this
  show some (a.eval x) = _
  rw [this.int_inv]
theorem run_sliced {t e : TypeId} {i : TypeInfo} (hu : P.underlying t = some (.slice e)) (hi : P.info? e = some i) (aa : Option Addr) (n c : Nat) (hc : n ≤ c) (w' : World) :
  ((Instr.sliceAt t (.slice aa n c) none none none).run P w' = .ok (sliced aa 0 n c i.size) w') ∧
  (∀ (k : IntKind) (l : Int), 0 ≤ l → l ≤ n → (Instr.sliceAt t (.slice aa n c) (some (.int k l)) none none).run P w' = .ok (sliced aa l.toNat n c i.size) w') ∧
  (∀ (k : IntKind) (m : Int), 0 ≤ m → m ≤ n → (Instr.sliceAt t (.slice aa n c) none (some (.int k m)) none).run P w' = .ok (sliced aa 0 m.toNat c i.size) w') ∧
  (∀ (k : IntKind) (l : Int) (k' : IntKind) (m : Int), 0 ≤ l → l ≤ m → m ≤ n → (Instr.sliceAt t (.slice aa n c) (some (.int k l)) (some (.int k' m)) none).run P w' = .ok (sliced aa l.toNat m.toNat c i.size) w') ∧
  (∀ (k : IntKind) (m : Int) (k' : IntKind) (q : Int), 0 ≤ m → m ≤ q → q ≤ n → (Instr.sliceAt t (.slice aa n c) none (some (.int k m)) (some (.int k' q))).run P w' = .ok (sliced aa 0 m.toNat q.toNat i.size) w') ∧
  (∀ (k : IntKind) (l : Int) (k' : IntKind) (m : Int) (k'' : IntKind) (q : Int), 0 ≤ l → l ≤ m → m ≤ q → q ≤ n → (Instr.sliceAt t (.slice aa n c) (some (.int k l)) (some (.int k' m)) (some (.int k'' q))).run P w' = .ok (sliced aa l.toNat m.toNat q.toNat i.size) w') := by
 have he : P.elem t = e := by simp [Program.elem, hu]
 have hu' : P.underlying t = some (.slice (P.elem t)) := by rw [he]; exact hu
 have hcc : (n : Int) ≤ c := by omega
 refine ⟨?_, fun k l h0 h1 => ?_, fun k m h0 h1 => ?_, fun k l k' m h0 h1 h2 => ?_, fun k m k' q h0 h1 h2 => ?_, fun k l k' m k'' q h0 h1 h2 h3 => ?_⟩ <;> rw [run_sliceAt_slice w' _ _ _ _ _ hu']
 ·rw [run_slice_all w' t aa n c hu', he, size_of hi]; rfl
 ·rw [run_slice_l w' t aa n c hu' k l h0 h1, he, size_of hi]; rfl
 ·rw [run_slice_h w' t aa n c hu' k m h0 (by omega), he, size_of hi]; rfl
 ·rw [run_slice_lh w' t aa n c hu' k k' l m h0 h1 (by omega), he, size_of hi]; rfl
 ·rw [run_slice_hm w' t aa n c hu' k k' m q h0 h1 (by omega), he, size_of hi]; rfl
 ·rw [run_slice_lhm w' t aa n c hu' k k' k'' l m q h0 h1 h2 (by omega), he, size_of hi]; rfl
theorem Stills.choose {o : Oper} (hs : Stills P o a μ h S w (slcK K)) : Stills P o a μ h S w K := by
 obtain ⟨v, val, hK, hv, hr⟩ := hs
 cases v with
 | slc sz n f =>
  obtain ⟨n', f', rfl, hf, hK⟩ := hK
  refine ⟨_, val, hK, ?_, hr⟩
  rcases hv.slc_inv with ⟨a, c, rfl, rfl⟩ | ⟨b, off, c, vf, rfl, h1, h2, h3, h4, h5⟩
  ·exact PRep.slc0 _ _ _ _
  ·exact PRep.slc sz n' f' b off c vf h1 (fun i hi => by rw [hf i hi]; exact h2 i hi) h3 (fun i j pv hi hj => h4 i j pv hi (by rw [← hf i hi]; exact hj)) (fun i j pv hi hj => h5 i j pv hi (by rw [← hf i hi]; exact hj))
 | str s =>
  obtain ⟨_, rfl, hK⟩ := hK
  exact ⟨_, val, hK, hv, hr⟩
 | own id g off n =>
  obtain ⟨_, _, rfl, rfl, hK⟩ := hK
  exact ⟨_, val, hK, hv, hr⟩
 | _ => exact ⟨_, val, hK, hv, hr⟩
theorem slice_sound (hT : TabOk P T) (hH : HeapRep μ h S w) (ht : ∀ t, VRep μ h S w (env t) (a.tmps.getD t undef)) (t : Nat) (x : Operand) (lo hi mx : Option Operand) (hp : spop T (.slice t x lo hi mx) env h K) :
  Stills P ⟨dst, .slice t x lo hi mx, ty, pos, after, guard⟩ a μ h S w K := by
 have hx := ev_rep ht x
 have hlo := opt_map_ev (fun x => ev_rep ht x) (lo := lo)
 have hhi := opt_map_ev (fun x => ev_rep ht x) (lo := hi)
 have hmx := opt_map_ev (fun x => ev_rep ht x) (lo := mx)
 unfold spop at hp
 simp only at hp
 have key : ∀ (K : PV → Prop) (e : TypeId) (i : TypeInfo) (sz n : Nat) (aa : Option Addr) (c : Nat) (R : Nat → Nat → PV), P.underlying t = some (.slice e) → P.info? e = some i → i.size = sz → a.eval x = .slice aa n c → n ≤ c →
   (∀ l m mx, l ≤ m → m ≤ n → m ≤ mx → mx ≤ c → VRep μ h S w (R l m) (.slice (if mx = l then aa else aa.map (·.add (l * sz))) (m - l) (mx - l))) → pmax n (hi.map (ev env)) (mx.map (ev env)) →
   (match lo.map (ev env), hi.map (ev env) with
    | none, none => K (R 0 n)
    | some (.int _ l), none => (0 ≤ l ∧ l ≤ n) ∧ K (R l.toNat n)
    | none, some (.int _ m) => (0 ≤ m ∧ m ≤ n) ∧ K (R 0 m.toNat)
    | some (.int _ l), some (.int _ m) => (0 ≤ l ∧ l ≤ m ∧ m ≤ n) ∧ K (R l.toNat m.toNat)
    | _, _ => False) → Stills P ⟨dst, .slice t x lo hi mx, ty, pos, after, guard⟩ a μ h S w K := by
  intro K e i sz n aa c R hu hinf hisz ex hc hR hm hp
  subst hisz
  have hrun := fun w' => run_sliced (P := P) hu hinf aa n c hc w'
  have fin : ∀ (l m q : Nat), l ≤ m → m ≤ n → m ≤ q → q ≤ c → K (R l m) → (∀ w', (Instr.sliceAt t (.slice aa n c) (lo.map a.eval) (hi.map a.eval) (mx.map a.eval)).run P w' = .ok (sliced aa l m q i.size) w') →
    Stills P ⟨dst, .slice t x lo hi mx, ty, pos, after, guard⟩ a μ h S w K := fun l m q h1 h2 h3 h4 hK hr => .mk hK (hR l m q h1 h2 h3 h4) fun w' _ => run_v_of rfl (by rw [ex]; exact hr w')
  unfold pmax at hm
  split at hm
  ·rename_i e3
   have e3 := hmx.1 e3
   split at hp
   ·rename_i e1 e2
    exact fin 0 n c (by omega) (by omega) hc (by omega) hp fun w' => by rw [hlo.1 e1, hhi.1 e2, e3]; exact (hrun w').1
   ·rename_i k l e1 e2
    obtain ⟨⟨h0, h1⟩, hp⟩ := hp
    exact fin l.toNat n c (by omega) (by omega) hc (by omega) hp fun w' => by rw [hlo.2 _ _ e1, hhi.1 e2, e3]; exact (hrun w').2.1 _ _ h0 h1
   ·rename_i k m e1 e2
    obtain ⟨⟨h0, h1⟩, hp⟩ := hp
    exact fin 0 m.toNat c (by omega) (by omega) (by omega) (by omega) hp fun w' => by rw [hlo.1 e1, hhi.2 _ _ e2, e3]; exact (hrun w').2.2.1 _ _ h0 h1
   ·rename_i k l k' m e1 e2
    obtain ⟨⟨h0, h1, h2⟩, hp⟩ := hp
    exact fin l.toNat m.toNat c (by omega) (by omega) (by omega) (by omega) hp fun w' => by rw [hlo.2 _ _ e1, hhi.2 _ _ e2, e3]; exact (hrun w').2.2.2.1 _ _ _ _ h0 h1 h2
   ·exact hp.elim
  ·rename_i k'' q e3
   have e3 := hmx.2 _ _ e3
   split at hm
   ·rename_i k3 m e2'
    obtain ⟨hm1, hm2⟩ := hm
    rw [e2'] at hp
    split at hp
    ·rename_i e1 e2
     cases e2
    ·rename_i e1 e2
     cases e2
    ·rename_i k m' e1 e2
     injection e2 with e2
     injection e2 with ea eb
     subst ea
     subst eb
     obtain ⟨⟨h0, h1⟩, hp⟩ := hp
     exact fin 0 m.toNat q.toNat (by omega) (by omega) (by omega) (by omega) hp fun w' => by rw [hlo.1 e1, hhi.2 _ _ e2', e3]; exact (hrun w').2.2.2.2.1 _ _ _ _ h0 hm1 hm2
    ·rename_i k l k' m' e1 e2
     injection e2 with e2
     injection e2 with ea eb
     subst ea
     subst eb
     obtain ⟨⟨h0, h1, h2⟩, hp⟩ := hp
     exact fin l.toNat m.toNat q.toNat (by omega) (by omega) (by omega) (by omega) hp fun w' => by rw [hlo.2 _ _ e1, hhi.2 _ _ e2', e3]; exact (hrun w').2.2.2.2.2 _ _ _ _ _ _ h0 h1 hm1 hm2
    ·exact hp.elim
   ·exact hm.elim
  ·exact hm.elim
 split at hp
 ·rename_i e sz bt z sz' n f hti hex
  rw [hex] at hx
  replace hp := guardB_elim hp
  obtain ⟨hse, hm, hp⟩ := hp
  obtain rfl := Nat.eq_of_beq_eq_true hse
  obtain ⟨hu, _, inf, zv, hinf, hisz, _⟩ := hT.slice _ _ _ _ _ hti
  have e0 : (fun i => f (0 + i)) = f := by funext i; rw [Nat.zero_add]
  have hsl := fun l m (h1 : l ≤ m) (h2 : m ≤ n) => slice_slc sz n f _ hx l m h1 h2
  obtain ⟨aa, c, ex, hc, _⟩ := hsl 0 0 (Nat.le_refl _) (Nat.zero_le _)
  have hc : n ≤ c := by rcases hc with hc | hc <;> omega
  refine Stills.choose ?_
  refine key (slcK K) e inf sz n aa c (fun l m => .slc sz (m - l) (fun i => f (l + i))) hu hinf hisz ex hc (fun l m q h1 h2 h3 h4 => ?_) hm ?_
  ·obtain ⟨aa', c', ex', _, hR⟩ := hsl l m h1 h2
   rw [ex] at ex'
   injection ex' with e1 e2 e3
   subst e1
   subst e3
   exact hR q h3 (.inl h4)
  ·simp only [e0, Nat.sub_zero]
   exact hp
 ·rename_i e sz bt z id gen off len hti hex
  rw [hex] at hx
  obtain ⟨hu, _, inf, zv, hinf, hisz, _⟩ := hT.slice _ _ _ _ _ hti
  split at hp
  ·rename_i g sz' n' e' f hgt
   obtain ⟨rfl, hp⟩ := hp
   replace hp := guardB_elim hp
   obtain ⟨hse, hm, hp⟩ := hp
   obtain rfl := Nat.eq_of_beq_eq_true hse
   have hh := hget_some hgt
   have hsl := fun l m (h1 : l ≤ m) (h2 : m ≤ len) => slice_own hT hH id g off len sz n' e' f hh _ hx l m h1 h2
   obtain ⟨aa, c, ex, hc, _⟩ := hsl 0 0 (Nat.le_refl _) (Nat.zero_le _)
   refine Stills.choose ?_
   refine key (slcK K) e inf sz len aa c (fun l m => .own id g (off + l) (m - l)) hu hinf hisz ex hc (fun l m q h1 h2 h3 h4 => ?_) hm ?_
   ·obtain ⟨aa', c', ex', _, hR⟩ := hsl l m h1 h2
    rw [ex] at ex'
    injection ex' with e1 e2 e3
    subst e1
    subst e3
    exact hR q h3 h4
   ·exact hp
  ·exact hp.elim
 ·rename_i s hti hex
  rw [hex] at hx
  replace hp := guardB_elim hp
  obtain ⟨hmn, hp⟩ := hp
  obtain rfl : mx = none := by simpa using hmn
  refine Stills.choose ?_
  generalize slcK K = K at *
  have ex := hx.str_inv
  have hu := hT.str _ hti
  have hsz : (ByteArray.mk ⟨s⟩).size = s.length := rfl
  have fin : ∀ (l m : Nat) (s' : List UInt8), s' = (s.take m).drop l → K (.str s') → (∀ w', (Instr.sliceAt t (.string ⟨⟨s⟩⟩) (lo.map a.eval) (hi.map a.eval) none).run P w' = .ok (.string ((ByteArray.mk ⟨s⟩).extract l m)) w') →
    Stills P ⟨dst, .slice t x lo hi none, ty, pos, after, guard⟩ a μ h S w K := fun l m s' hs hK hr => .mk hK (PRep.str _) fun w' _ => run_v_of rfl (by rw [ex, hs, ← str_extract]; exact hr w')
  simp only [pslice] at hp
  split at hp
  ·rename_i e1 e2
   exact fin 0 s.length s (by simp) hp fun w' => by rw [hlo.1 e1, hhi.1 e2, run_sliceAt_string w' _ _ _ _ _ hu, run_slice_string_all w' t ⟨⟨s⟩⟩ hu]; rfl
  ·rename_i k l e1 e2
   obtain ⟨⟨h0, h1⟩, hp⟩ := hp
   exact fin l.toNat s.length _ (by simp) hp fun w' => by rw [hlo.2 _ _ e1, hhi.1 e2, run_sliceAt_string w' _ _ _ _ _ hu, run_slice_string_l w' t ⟨⟨s⟩⟩ hu k l h0 h1]; rfl
  ·rename_i k m e1 e2
   obtain ⟨⟨h0, h1⟩, hp⟩ := hp
   exact fin 0 m.toNat _ (by simp) hp fun w' => by rw [hlo.1 e1, hhi.2 _ _ e2, run_sliceAt_string w' _ _ _ _ _ hu, run_slice_string_h w' t ⟨⟨s⟩⟩ hu k m h0 h1]
  ·rename_i k l k' m e1 e2
   obtain ⟨⟨h0, h1, h2⟩, hp⟩ := hp
   exact fin l.toNat m.toNat _ rfl hp fun w' => by rw [hlo.2 _ _ e1, hhi.2 _ _ e2, run_sliceAt_string w' _ _ _ _ _ hu, run_slice_string w' t ⟨⟨s⟩⟩ k k' l m hu h0 h1 h2]
  ·exact hp.elim
 ·exact hp.elim
theorem listSet_get : ∀ (cs l : List PV) (off j : Nat), off + cs.length ≤ l.length → (listSet l off cs)[j]? = if off ≤ j ∧ j < off + cs.length then cs[j - off]? else l[j]?
 | [], l, off, j, _ => by
  simp only [listSet, List.length_nil, Nat.add_zero]
  rw [if_neg (by omega)]
 | c :: r, l, off, j, hl => by
  simp only [listSet, List.length_cons] at hl ⊢
  rw [listSet_get r (l.set off c) (off + 1) j (by simp; omega)]
  by_cases h1 : j = off
  ·subst h1
   rw [if_neg (by omega), if_pos (by omega), Nat.sub_self, List.getElem?_set_self (by omega)]
   rfl
  ·rw [List.getElem?_set_ne (by omega)]
   by_cases h2 : off + 1 ≤ j ∧ j < off + 1 + r.length
   ·rw [if_pos h2, if_pos (by omega)]
    have : j - off = (j - (off + 1)) + 1 := by omega
    rw [this, List.getElem?_cons_succ]
   ·rw [if_neg h2, if_neg (by omega)]
theorem listSet_length : ∀ (cs l : List PV) (off : Nat), (listSet l off cs).length = l.length
 | [], _, _ => rfl
 | c :: r, l, off => by simp only [listSet]; rw [listSet_length r]; simp
theorem storable_cells {pv : PV} {v : Value} (hs : storable pv = true) (hv : VRep μ h S w pv v) :
  v.cells.toList.length = (cellsOf pv).length ∧ ∀ (j : Nat) (p : PV), (cellsOf pv)[j]? = some p → ∃ u, v.cells.toList[j]? = some u ∧ CRep μ h S w p u := by
 have one : ∀ (hc : CRep μ h S w pv v), cellsOf pv = [pv] → v.cells.toList.length = (cellsOf pv).length ∧ ∀ (j : Nat) (p : PV), (cellsOf pv)[j]? = some p → ∃ u, v.cells.toList[j]? = some u ∧ CRep μ h S w p u := by
  intro hc he
  have h1 := hc.one
  have h2 : v.cells = #[v] := by cases v <;> first | rfl | cases h1
  rw [h2, he]
  refine ⟨rfl, fun j p hj => ?_⟩
  cases j with
  | zero =>
   simp at hj
   subst hj
   exact ⟨v, rfl, hc⟩
  | succ j => simp at hj
 cases pv with
 | agg cs =>
  obtain ⟨vs, rfl, h2, h3⟩ := hv
  refine ⟨by simpa [Value.cells, cellsOf] using h2, fun j p hj => ?_⟩
  obtain ⟨u, hu, hr⟩ := h3 j p hj
  exact ⟨u, by simpa [Value.cells] using hu, hr⟩
 | tup vs => cases hs
 | junk => cases hs
 | omp id => exact one hv rfl
 | clo f caps => exact one hv rfl
 | int k n => exact one hv rfl
 | bool b => exact one hv rfl
 | str s => exact one hv rfl
 | nils => exact one hv rfl
 | slc sz n f => exact one hv rfl
 | pptr cs => exact one hv rfl
 | own id gen off len => exact one hv rfl
 | optr id gen i off => exact one hv rfl
 | fn f => exact one hv rfl
theorem foldl_set : ∀ (l : List Value) (s off : Nat) (cs : Array Value), off + s + l.length ≤ cs.size →
  ((l.zipIdx s).foldl (fun (cs : Array Value) (p : Value × Nat) => cs.setIfInBounds (off + p.2) p.1) cs).size = cs.size ∧
  ∀ q, ((l.zipIdx s).foldl (fun (cs : Array Value) (p : Value × Nat) => cs.setIfInBounds (off + p.2) p.1) cs)[q]? = if off + s ≤ q ∧ q < off + s + l.length then l[q - (off + s)]? else cs[q]?
 | [], s, off, cs, _ => by
  refine ⟨rfl, fun q => ?_⟩
  simp only [List.zipIdx_nil, List.foldl_nil, List.length_nil, Nat.add_zero]
  rw [if_neg (by omega)]
 | v :: r, s, off, cs, hl => by
  simp only [List.length_cons] at hl
  obtain ⟨h1, h2⟩ := foldl_set r (s + 1) off (cs.setIfInBounds (off + s) v) (by simp; omega)
  simp only [List.zipIdx_cons, List.foldl_cons, List.length_cons]
  refine ⟨by rw [h1]; simp, fun q => ?_⟩
  rw [h2 q]
  by_cases hq : q = off + s
  ·subst hq
   rw [if_neg (by omega), if_pos (by omega), Nat.sub_self]
   simp [Array.getElem?_setIfInBounds, show off + s < cs.size from by omega]
  ·by_cases hr : off + (s + 1) ≤ q ∧ q < off + (s + 1) + r.length
   ·rw [if_pos hr, if_pos (by omega)]
    have : q - (off + s) = (q - (off + (s + 1))) + 1 := by omega
    rw [this, List.getElem?_cons_succ]
   ·rw [if_neg hr, if_neg (by omega), Array.getElem?_setIfInBounds_ne (by omega)]
theorem foldl_set_array (v : Value) (off : Nat) (cs : Array Value) (hl : off + v.cells.size ≤ cs.size) :
  (v.cells.zipIdx.foldl (fun (cs : Array Value) (p : Value × Nat) => cs.setIfInBounds (off + p.2) p.1) cs).size = cs.size ∧
  ∀ q, (v.cells.zipIdx.foldl (fun (cs : Array Value) (p : Value × Nat) => cs.setIfInBounds (off + p.2) p.1) cs)[q]? = if off ≤ q ∧ q < off + v.cells.size then v.cells[q - off]? else cs[q]? := by
 have h := foldl_set v.cells.toList 0 off cs (by simpa using hl)
 rw [← Array.foldl_toList]
 simp only [Array.toList_zipIdx, Nat.add_zero, Array.length_toList, Array.getElem?_toList] at h ⊢
 exact h
theorem isByte_inv {l : List PV} (hb : isByte l = true) : ∃ v, l = [.int .u8 v] := by
 unfold isByte at hb
 split at hb
 ·exact ⟨_, rfl⟩
 ·cases hb
theorem bytes_told {g : Nat → List PV} {s : List UInt8} {n : Nat} (hl : s.length = n) (hf : ∀ i, i < n → g i = [.int .u8 (s.getD i 0).toNat]) : (∀ i, i < n → isByte (g i) = true) ∧ (List.range n).map (fun i => byteOf (g i)) = s := by
 refine ⟨fun i hi => by rw [hf i hi]; rfl, ?_⟩
 apply List.ext_getElem (by simp [hl])
 intro i h1 h2
 simp only [List.length_map, List.length_range] at h1
 rw [List.getElem_map, List.getElem_range, hf i h1]
 simp [byteOf, List.getD_eq_getElem?_getD, List.getElem?_eq_getElem h2]
theorem convert_sound (hT : TabOk P T) (hH : HeapRep μ h S w) (ht : ∀ t, VRep μ h S w (env t) (a.tmps.getD t undef)) (s d : Nat) (x : Operand) (hp : spop T (.convert s d x) env h K) :
  Stills P ⟨dst, .convert s d x, ty, pos, after, guard⟩ a μ h S w K := by
 have hx := ev_rep ht x
 unfold spop at hp
 simp only at hp
 split at hp
 ·rename_i k0 k k1 n hs hd hex
  rw [hex] at hx
  exact .mk hp (PRep.int _ _) fun w' _ => run_v_of rfl (by
   rw [hx.int_inv]
   simp [convert, run_underlying (hT.int _ _ hs), run_underlying (hT.int _ _ hd), Conv.intToInt])
 ·rename_i e sz bt z hs hd
  split at hp
  ·rename_i hte
   have hu := (hT.slice _ _ _ _ _ hs).1
   have hue := hT.int _ _ hte
   have hud := hT.str _ hd
   have key : ∀ (b off c n : Nat) (g : Nat → List PV), a.eval x = .slice (some ⟨b, off, none⟩) n c → (∀ i, i < n → isByte (g i) = true) → K (.str ((List.range n).map fun i => byteOf (g i))) →
     (∀ i v, i < n → g i = [.int .u8 v] → w.cell? ⟨b, off + i, none⟩ = some (.int .u8 v)) → Stills P ⟨dst, .convert s d x, ty, pos, after, guard⟩ a μ h S w K := by
    intro b off c n g ex hb hK hcell
    have num : ∀ i, i < n → ∃ v, g i = [.int .u8 v] := fun i hi => isByte_inv (hb i hi)
    let val : Nat → Int := fun i => match g i with | [.int _ v] => v | _ => 0
    have hval : ∀ i, i < n → g i = [.int .u8 (val i)] := fun i hi => by
     obtain ⟨v, hv⟩ := num i hi
     simp only [val, hv]
    refine .mk hK (PRep.str _) fun w' ha => run_v_of rfl ?_
    rw [ex, run_convert_bytes_arg w' s e hu hue b off n c ((List.range n).map val) (by simp) (fun i hi => ?_) d hud]
    ·congr 2
     simp only [strOfNums]
     have : ((List.range n).map val).map (fun q => UInt8.ofNat q.toNat) = (List.range n).map fun i => byteOf (g i) := by
      rw [List.map_map]
      apply List.map_congr_left
      intro i hi
      rw [hval i (List.mem_range.1 hi)]
      rfl
     rw [this]
    ·rw [ha.cell (hcell i _ hi (hval i hi))]
     simp [List.getD_eq_getElem?_getD, hi]
   unfold pbytes at hp
   split at hp
   ·rename_i hex
    rw [hex] at hx
    refine .mk hp (PRep.str _) fun w' _ => run_v_of rfl ?_
    rw [hx.nils_inv, run_convert_bytes_nil w' s e hu hue 0 0 d hud]
    rfl
   ·rename_i sz' n f hex
    rw [hex] at hx
    replace hp := guardB_elim hp
    obtain ⟨h1, s0, hl0, hf0, hK⟩ := hp
    obtain ⟨hb, hs0⟩ := bytes_told hl0 hf0
    replace hK : K (.str s0) := hK
    rw [← hs0] at hK
    clear hl0 hf0 hs0
    obtain rfl := Nat.eq_of_beq_eq_true h1
    rcases hx.slc_inv with ⟨aa, c, ex, rfl⟩ | ⟨b, off, c, vf, ex, hS, hl, hc, hcell, hrep⟩
    ·cases aa with
     | none =>
      refine .mk hK (PRep.str _) fun w' _ => run_v_of rfl ?_
      rw [ex, run_convert_bytes_nil w' s e hu hue 0 c d hud]
      rfl
     | some ad =>
      refine .mk hK (PRep.str _) fun w' _ => run_v_of rfl ?_
      rw [ex, run_convert_bytes_string w' s d e _ 0 c hu hue hud, run_bytesToString w' ad 0 c [] (by simp [loadCells, loadCellsFrom])]
      rfl
    ·refine key b off c n f ex hb hK fun i v hi hv => ?_
     have q1 := hcell i 0 (.int .u8 v) hi (by rw [hv]; rfl)
     have q2 := hrep i 0 (.int .u8 v) hi (by rw [hv]; rfl)
     rw [Nat.mul_one, Nat.add_zero] at q1
     rw [q1]
     generalize vf i 0 = u at q2
     cases q2
     rfl
   ·rename_i id gen off n hex
    rw [hex] at hx
    split at hp
    ·rename_i g sz' n' e' f hgt
     obtain ⟨rfl, hp⟩ := hp
     replace hp := guardB_elim hp
     obtain ⟨h1, s0, hl0, hf0, hK⟩ := hp
     obtain ⟨hb, hs0⟩ := bytes_told (g := fun i => f (off + i)) hl0 hf0
     replace hK : K (.str s0) := hK
     rw [← hs0] at hK
     clear hl0 hf0 hs0
     obtain rfl := Nat.eq_of_beq_eq_true h1
     have hh := hget_some hgt
     have hr := hx.own_inv
     unfold OwnRep at hr
     rw [hh] at hr
     obtain ⟨⟨a0, l0, c0, e0⟩, _, hr⟩ := hr
     obtain ⟨hln, hr⟩ := hr rfl
     obtain ⟨hl, hc⟩ := hH id g 1 n' e' f hh
     cases hm : μ id with
     | none =>
      rw [hm] at hr hc
      have hn0 : n = 0 := by omega
      subst hn0
      refine .mk hK (PRep.str _) fun w' _ => run_v_of rfl ?_
      rw [show a.eval x = .slice none 0 0 from hr, run_convert_bytes_nil w' s e hu hue 0 0 d hud]
      rfl
     | some p =>
      obtain ⟨b, base⟩ := p
      rw [hm] at hr hc
      obtain ⟨ad, cap, ex, hcap, had, hcp⟩ := hr
      obtain ⟨cur, hb', hfit, hcell⟩ := HeapRep.cells hcp hc
      rcases Nat.eq_zero_or_pos n with h0 | h0
      ·subst h0
       refine .mk hK (PRep.str _) fun w' _ => run_v_of rfl ?_
       rw [ex, run_convert_bytes_string w' s d e _ 0 cap hu hue hud, run_bytesToString w' ad 0 cap [] (by simp [loadCells, loadCellsFrom])]
       rfl
      ·rw [had (by omega), Nat.mul_one] at ex
       refine key b (base + off) cap n (fun i => f (off + i)) ex hb hK fun i v hi hv => ?_
       obtain ⟨u, q1, q2⟩ := hcell (off + i) 0 (.int .u8 v) (by omega) (by rw [hv]; rfl)
       have q2 : PRep S w (.int .u8 v) u := q2
       cases q2
       rw [cell_of_row w b (base + off + i) cur e' (0, 0) hb', ← q1]
       congr 1
       omega
    ·exact hp.elim
   ·exact hp.elim
  ·exact hp.elim
 ·exact hp.elim
theorem nilCheck_sound (ht : ∀ t, VRep μ h S w (env t) (a.tmps.getD t undef)) (x : Operand) (hp : spop T (.nilCheck x) env h K) :
  Stills P ⟨dst, .nilCheck x, ty, pos, after, guard⟩ a μ h S w K := by
 have hx := ev_rep ht x
 unfold spop at hp
 simp only at hp
 split at hp
 ·rename_i cs hex
  rw [hex] at hx
  obtain ⟨b, off, vf, ex, _⟩ := hx.pptr_inv
  exact .mk hp hx fun w' _ => by simp [execOp, ex]
 ·rename_i id gen i off hex
  rw [hex] at hx
  split at hp
  ·rename_i g sz n e f hgt
   obtain ⟨rfl, hp⟩ := hp
   have hh := hget_some hgt
   have hr := hx.optr_inv
   unfold OptrRep at hr
   rw [hh] at hr
   obtain ⟨_, _, hr⟩ := hr
   obtain ⟨hin, b, base, hmu, hcp, hv⟩ := hr rfl
   exact .mk hp hx fun w' _ => by simp [execOp, hv]
  ·exact hp.elim
 ·exact hp.elim
theorem run_fieldAt (hT : TabOk P T) {s sz k o size : Nat} {fl : List (Nat × Nat × Bool)} {z : List PV} {ag : Bool} (hti : T.get s = .struct sz fl z) (hk : fl[k]? = some (o, size, ag)) (b off : Nat) (w' : World) :
  (Instr.fieldAt s (.pointer (some ⟨b, off, none⟩)) k).run P w' = .ok (.pointer (some ⟨b, off + o, none⟩)) w' := by
 obtain ⟨fs, i, hu, hi, hsz, hfl, _, hf⟩ := hT.struct _ _ _ _ hti
 obtain ⟨f, j, d, h1, h2, h3, h4, h5, h6, h7⟩ := hf k o size ag hk
 have h0 : ¬ j.size = 0 := by omega
 simp [Instr.fieldAt, run_underlying hu, h1, Instr.sureAddr, fieldPlace, size_of h3, h0, Addr.add_lit, h2]
theorem fieldAddr_sound (hT : TabOk P T) (ht : ∀ t, VRep μ h S w (env t) (a.tmps.getD t undef)) (s : Nat) (x : Operand) (k : Nat) (hp : spop T (.fieldAddr s x k) env h K) :
  Stills P ⟨dst, .fieldAddr s x k, ty, pos, after, guard⟩ a μ h S w K := by
 have hx := ev_rep ht x
 unfold spop at hp
 simp only at hp
 split at hp
 ·rename_i sz fl z hti
  split at hp
  ·rename_i o size ag hk
   split at hp
   ·rename_i cs hex
    rw [hex] at hx
    obtain ⟨b, off, vf, ex, hS, hcell, hrep⟩ := hx.pptr_inv
    refine .mk hp (PRep.pptr (cs.drop o) b (off + o) (fun j => vf (o + j)) hS (fun j pv hj => ?_) (fun j pv hj => ?_)) fun w' _ => run_v_of rfl (by rw [ex]; exact run_fieldAt hT hti hk b off w')
    ·rw [List.getElem?_drop] at hj
     rw [Nat.add_assoc]
     exact hcell _ _ hj
    ·rw [List.getElem?_drop] at hj
     exact hrep _ _ hj
   ·rename_i id gen i off hex
    rw [hex] at hx
    split at hp
    ·rename_i g sz' n e f hgt
     obtain ⟨rfl, hp⟩ := hp
     have hh := hget_some hgt
     have hr := hx.optr_inv
     unfold OptrRep at hr
     rw [hh] at hr
     obtain ⟨_, _, hr⟩ := hr
     obtain ⟨hin, b, base, hmu, hcp, hv⟩ := hr rfl
     refine .mk hp ?_ fun w' _ => run_v_of rfl (by rw [hv]; exact run_fieldAt hT hti hk b _ w')
     show OptrRep _ _ _ _ _ _ _ _
     unfold OptrRep
     rw [hh]
     exact ⟨⟨_, rfl⟩, Nat.le_refl _, fun _ => ⟨hin, b, base, hmu, hcp, by simp only [Nat.add_assoc]⟩⟩
    ·exact hp.elim
   ·exact hp.elim
  ·exact hp.elim
 ·exact hp.elim
theorem pbuild_sound (ht : ∀ t, VRep μ h S w (env t) (a.tmps.getD t undef)) (sz : Nat) (fl : List (Nat × Nat × Bool)) (place : Nat → Option (Nat × Nat)) (hpl : ∀ (k o size : Nat) (ag : Bool), fl[k]? = some (o, size, ag) → place k = some (o, size)) {K : List PV → Prop} :
  ∀ (l : List (Nat × Operand)) (acc : List PV) (cells : Array Value), pbuild env sz fl K l acc → cells.size = sz → acc.length = sz → (∀ (j : Nat) (pv : PV), acc[j]? = some pv → ∃ u, cells[j]? = some u ∧ CRep μ h S w pv u) →
  ∃ acc' cells', K acc' ∧ Instr.fill place cells (l.map fun p => (p.1, a.eval p.2)) = some cells' ∧ cells'.size = sz ∧ acc'.length = sz ∧ ∀ (j : Nat) (pv : PV), acc'[j]? = some pv → ∃ u, cells'[j]? = some u ∧ CRep μ h S w pv u
 | [], acc, cells, hp, hs, hl, hr => ⟨acc, cells, hp, rfl, hs, hl, hr⟩
 | (k, x) :: r, acc, cells, hp, hs, hl, hr => by
  unfold pbuild at hp
  split at hp
  ·rename_i o size ag hk
   replace hp := guardB_elim (force_elim hp)
   obtain ⟨hcond, hp⟩ := hp
   simp only [Bool.and_eq_true] at hcond
   obtain ⟨⟨hst, hlen⟩, hfit⟩ := hcond
   have hlen := Nat.eq_of_beq_eq_true hlen
   have hfit := Nat.le_of_ble_eq_true hfit
   obtain ⟨h3, h4⟩ := storable_cells hst (ev_rep ht x)
   simp only [Array.length_toList, Array.getElem?_toList] at h3 h4
   have hvs : (a.eval x).cells.size = size := h3.trans hlen
   obtain ⟨g1, g2⟩ := foldl_set_array (a.eval x) o cells (by omega)
   obtain ⟨acc', cells', q1, q2, q3⟩ := pbuild_sound ht sz fl place hpl r (listSet acc o (cellsOf (ev env x))) ((a.eval x).cells.zipIdx.foldl (fun (cs : Array Value) (p : Value × Nat) => cs.setIfInBounds (o + p.2) p.1) cells) hp (g1.trans hs) (by rw [listSet_length]; exact hl)
    (fun j pv hj => by
     rw [listSet_get _ _ _ _ (by omega)] at hj
     rw [g2 j]
     by_cases hc : o ≤ j ∧ j < o + size
     ·rw [if_pos (by omega)] at hj
      rw [if_pos (by omega)]
      exact h4 _ _ hj
     ·rw [if_neg (by omega)] at hj
      rw [if_neg (by omega)]
      exact hr j pv hj)
   refine ⟨acc', cells', q1, ?_, q3⟩
   simp only [List.map_cons, Instr.fill, hpl k o size ag hk]
   rw [if_neg (by simp only [hvs, ne_eq, not_true_eq_false, false_or]; simp only [Bool.or_eq_true, decide_eq_true_eq, not_or]; simp; omega)]
   exact q2
  ·exact hp.elim
theorem places_of : ∀ (fs : List Field) (n : Nat) (fl : List (Nat × Nat × Bool)), fl.length = fs.length →
  (∀ (k o size : Nat) (ag : Bool), fl[k]? = some (o, size, ag) → ∃ f j, fs[k]? = some f ∧ f.offset = o ∧ P.info? f.type = some j ∧ j.size = size) →
  fs.mapM (fun f => (P.info? f.type).map fun i => (f.offset, i.size)) = some (fl.map fun q => (q.1, q.2.1))
 | [], n, [], _, _ => rfl
 | f :: fs, n, (o, size, ag) :: fl, hl, hf => by
  obtain ⟨f', j, h1, h2, h3, h4⟩ := hf 0 o size ag rfl
  simp at h1
  subst h1
  have ih := places_of fs n fl (by simpa using hl) (fun k o size ag hk => by
   obtain ⟨f, j, q⟩ := hf (k + 1) o size ag (by simpa using hk)
   exact ⟨f, j, by simpa using q⟩)
  simp only [List.mapM_cons, List.map_cons, h3, Option.map_some, Option.bind_eq_bind, Option.bind_some, ih, h2, h4]
  rfl
theorem build_sound (hT : TabOk P T) (ht : ∀ t, VRep μ h S w (env t) (a.tmps.getD t undef)) (t : Nat) (parts : Array (Nat × Operand)) (hp : spop T (.build t parts) env h K) :
  Stills P ⟨dst, .build t parts, ty, pos, after, guard⟩ a μ h S w K := by
 unfold spop at hp
 simp only at hp
 split at hp
 ·rename_i sz fl z hti
  obtain ⟨fs, i, hu, hi, hsz, hfl, ⟨zv, hz, hzs, hzl, hzc⟩, hf⟩ := hT.struct _ _ _ _ hti
  have hpl := places_of (P := P) fs.toList 0 fl (by simpa using hfl) (fun k o size ag hk => by
   obtain ⟨f, j, d, h1, h2, h3, h4, _⟩ := hf k o size ag hk
   exact ⟨f, j, by simpa using h1, h2, h3, h4⟩)
  obtain ⟨acc', cells', q1, q2, q3, q4, q5⟩ := pbuild_sound (a := a) (μ := μ) (h := h) (S := S) (w := w) ht sz fl ((fl.map fun q => (q.1, q.2.1)).toArray[·]?) (fun k o size ag hk => by simp [hk]) parts.toList z zv.cells hp hzs hzl (fun j pv hj => by
   have hjz : j < zv.cells.size := by
    have := (List.getElem?_eq_some_iff.1 hj).1
    omega
   obtain ⟨pv', h5, _, h6⟩ := hzc j zv.cells[j] (Array.getElem?_eq_getElem hjz)
   rw [hj] at h5
   injection h5 with h5
   subst h5
   exact ⟨_, Array.getElem?_eq_getElem hjz, CRep.of_pure (h6 S w)⟩)
  refine .mk q1 ⟨cells', rfl, by omega, q5⟩ fun w' _ => run_v_of rfl (run_build w' t _ cells' ?_)
  unfold Program.built
  simp only [hi, hu, hz, hpl]
  have : (parts.map fun p => (p.1, a.eval p.2)).toList = parts.toList.map fun p => (p.1, a.eval p.2) := by simp
  rw [this]
  exact q2
 ·exact hp.elim
theorem run_part {P : Program} {t : TypeId} {d : TypeDesc} {j : TypeInfo} (hu : P.underlying t = some d) (hi : P.info? t = some j) (cs : Array Value) (off : Nat) (w : World) :
  (part t cs off).run P w = if aggD d then .ok (.agg (cs.extract off (off + j.size))) w else match cs[off]? with | some v => .ok v w | none => (part t cs off).run P w := by
 cases hd : aggD d with
 | true => simp [part, isAgg_of hu, hd, size_of hi]
 | false =>
  simp only [Bool.false_eq_true, if_false]
  cases hc : cs[off]? with
  | none => rfl
  | some v => simp [part, isAgg_of hu, hd, hc]
theorem field_sound (hT : TabOk P T) (ht : ∀ t, VRep μ h S w (env t) (a.tmps.getD t undef)) (s : Nat) (x : Operand) (k : Nat) (hp : spop T (.field s x k) env h K) :
  Stills P ⟨dst, .field s x k, ty, pos, after, guard⟩ a μ h S w K := by
 have hx := ev_rep ht x
 unfold spop at hp
 simp only at hp
 split at hp
 ·rename_i sz fl z hti
  split at hp
  ·rename_i o size ag hk
   split at hp
   ·rename_i cs hex
    rw [hex] at hx
    obtain ⟨vs, ex, hsz, hv⟩ := hx
    obtain ⟨fs, i, hu, hi, hisz, hfl, _, hf⟩ := hT.struct _ _ _ _ hti
    obtain ⟨f, j, d, h1, h2, h3, h4, h5, h6, h7⟩ := hf k o size ag hk
    have hrun : ∀ w' v, (part f.type vs f.offset).run P w' = .ok v w' → (execOp a.eval ⟨dst, .field s x k, ty, pos, after, guard⟩).run P w' = .ok (.value v) w' := fun w' v hr => run_v_of rfl (by
     rw [ex]
     simp [Instr.field, run_underlying hu, h1, hr, asAgg])
    split at hp
    ·obtain ⟨hle, hK⟩ := ptake_elim _ _ _ hp
     simp only [List.reverse_nil, List.nil_append, List.length_drop] at hK hle
     refine .mk hK (val := .agg (vs.extract o (o + size))) ⟨_, rfl, by simp; omega, fun q pv hq => ?_⟩ fun w' _ => hrun w' _ (by rw [run_part h6 h3, ← h7, if_pos rfl, h2, h4])
     rw [List.getElem?_take] at hq
     split at hq
     ·rename_i hlt
      rw [List.getElem?_drop] at hq
      obtain ⟨u, hu1, hu2⟩ := hv _ _ hq
      refine ⟨u, ?_, hu2⟩
      rw [Array.getElem?_extract]
      have : o + q < vs.size := (Array.getElem?_eq_some_iff.1 hu1).1
      rw [if_pos (by omega)]
      exact hu1
     ·cases hq
    ·split at hp
     ·rename_i c r hd
      have h0 : cs[o]? = some c := by
       have := congrArg (·[0]?) hd
       simpa using this
      obtain ⟨u, hu1, hu2⟩ := hv _ _ h0
      exact .mk (force_elim hp) hu2.v fun w' _ => hrun w' _ (by rw [run_part h6 h3, ← h7, h2]; simp [hu1])
     ·exact hp.elim
   ·exact hp.elim
  ·exact hp.elim
 ·exact hp.elim
theorem SRep.arep {pv : PV} {v : Value} (hs : scalA pv = true) (hr : SRep pv v) : VRep μ h S w pv v := by
 have one : ∀ (pv : PV) (v : Value), scal1 pv = true → SRep1 pv v → CRep μ h S w pv v := fun pv v hs hr => by
  cases pv <;> first | (cases hs; done) | (have hr : v = _ := hr; subst hr; first | exact PRep.int _ _ | exact PRep.bool _ | exact PRep.str _) | exact hr
 cases pv with
 | agg cs =>
  obtain ⟨vs, h1, h2, h3⟩ := hr
  exact ⟨vs, h1, h2, fun j pv hj => let ⟨u, hu, hc⟩ := h3 j pv hj; ⟨u, hu, one pv u (List.all_eq_true.1 hs _ (List.mem_of_getElem? hj)) hc⟩⟩
 | junk => trivial
 | int k n => exact one (.int k n) v rfl hr
 | bool b => exact one (.bool b) v rfl hr
 | str s => exact one (.str s) v rfl hr
 | _ => cases hs
theorem SRep.arepA {pv : PV} {v : Value} (hs : scalA pv = true) (hr : SRep pv v) : ARep μ h S w pv v := by
 have := SRep.arep (μ := μ) (h := h) (S := S) (w := w) hs hr
 cases pv with
 | tup _ => cases hs
 | _ => exact this
theorem lookup_sound (hT : TabOk P T) (hH : HeapRep μ h S w) (ht : ∀ t, VRep μ h S w (env t) (a.tmps.getD t undef)) (t : Nat) (x i : Operand) (ok : Bool) (hp : spop T (.lookup t x i ok) env h K) :
  Stills P ⟨dst, .lookup t x i ok, ty, pos, after, guard⟩ a μ h S w K := by
 have hx := ev_rep ht x
 have hi := ev_rep ht i
 simp only [spop] at hp
 split at hp
 ·rename_i kt et zv id hti hex
  rw [hex] at hx
  split at hp
  ·rename_i g sz n e f hgt
   replace hp := guardB_elim (force_elim hp)
   obtain ⟨hk, r, b, hm, hK⟩ := hp
   obtain ⟨hu, inf, z, hinf, hz, hsz, hsc, hst⟩ := hT.map _ _ _ _ hti
   obtain ⟨bl, base, es, c, hmu, ex, hb, hn, hent⟩ := map_open hH (hget_some hgt) hx.omp_inv
   obtain ⟨q0, h0⟩ := Option.isSome_iff_exists.1 hk
   obtain ⟨d, s, hd, hck, hcmp⟩ := key_cmp hT hi h0
   have none_of : ∀ m, m ≤ n → MNone (T.get kt) f m (ev env i) → ∀ j, j < m → ∀ y : MapEntry, es.toList[j]? = some y → KeyCmp P kt d s (a.eval i) y.key false := fun m hmn hM j hj y hy => by
    obtain ⟨kp, vp, h1, h2⟩ := hM j hj
    obtain ⟨kp', vp', en, h3, _, _, h4, h5, _⟩ := hent j (by omega)
    rw [h1] at h3
    injection h3 with e1 e2
    subst e1
    have : y = en := by rw [Array.getElem?_toList] at hy; exact Option.some.inj (hy.symm.trans h4)
    subst this
    exact hcmp kp y.key false h5 h2
   have run : ∃ val, SRep r val ∧ scalA r = true ∧ ∀ w', Agree w w' → (Instr.lookup t (.map (some bl)) (a.eval i) ok).run P w' = .ok (if ok then .tuple #[val, .bool b] else val) w' := by
    rcases hm with ⟨rfl, i0, hi0, hM, kp, hf, hq⟩ | ⟨rfl, rfl, hM⟩
    ·obtain ⟨kp', vp', en, h3, _, h6, h4, h5, h7⟩ := hent i0 hi0
     rw [hf] at h3
     injection h3 with e1 e2
     injection e2 with e2 _
     subst e1 e2
     refine ⟨en.val, h7, h6, fun w' ha => ?_⟩
     have hb' : w'.heap[bl]? = some (.map es c) := (ha.blocks bl (Array.getElem?_eq_some_iff.1 hb).1).trans hb
     have hfind := findKey_at (P := P) (w' := w') hd es.toList i0 en (none_of i0 (by omega) hM) (by rw [Array.getElem?_toList]; exact h4) (hcmp kp en.key true h5 hq)
     simp [Instr.lookup, run_underlying hu, run_getObj_map w' bl es c hb', hck, hfind]
    ·refine ⟨z, hsz, hsc, fun w' ha => ?_⟩
     have hb' : w'.heap[bl]? = some (.map es c) := (ha.blocks bl (Array.getElem?_eq_some_iff.1 hb).1).trans hb
     have hfind := findKey_none (P := P) (w' := w') hd es.toList (fun j y hy => none_of n (Nat.le_refl _) hM j (by
      have := (List.getElem?_eq_some_iff.1 hy).1
      rw [← hn]; simpa using this) y hy)
     simp [Instr.lookup, run_underlying hu, run_getObj_map w' bl es c hb', hck, hfind, zeroValue, typeInfo, hinf, hz]
   obtain ⟨val, hrv, hrs, hrun⟩ := run
   cases ok with
   | true =>
    refine .mk hK ?_ fun w' ha => run_v_of rfl (by rw [ex]; exact hrun w' ha)
    exact ⟨_, rfl, rfl, fun j pv hj => by
     rcases j with _ | _ | j
     ·cases hj; exact ⟨_, rfl, hrv.arepA hrs⟩
     ·cases hj; exact ⟨_, rfl, PRep.bool _⟩
     ·simp at hj⟩
   | false => exact .mk (force_elim hK) (hrv.arep hrs) fun w' ha => run_v_of rfl (by rw [ex]; exact hrun w' ha)
  ·exact hp.elim
 ·exact hp.elim
theorem pcaps_elim {env : Env} {K : List (Nat × Nat) → Prop} : ∀ (l : List Operand) (acc : List (Nat × Nat)), pcaps env K l acc → ∃ caps, K (acc.reverse ++ caps) ∧ caps.length = l.length ∧ ∀ (j : Nat) (x : Operand) (p : Nat × Nat), l[j]? = some x → caps[j]? = some p → ev env x = .optr p.1 p.2 0 0
 | [], acc, h => ⟨[], by rw [List.append_nil]; exact h, rfl, fun j x p hx => by simp at hx⟩
 | x :: r, acc, h => by
  unfold pcaps at h
  split at h
  ·rename_i id gen he
   obtain ⟨caps, h1, h2, h3⟩ := pcaps_elim r _ h
   refine ⟨(id, gen) :: caps, by simpa using h1, by simp [h2], fun j y p hy hp => ?_⟩
   cases j with
   | zero => simp at hy hp; subst hy; subst hp; exact he
   | succ j => exact h3 j y p (by simpa using hy) (by simpa using hp)
  ·exact h.elim
theorem makeFunc_sound (ht : ∀ t, VRep μ h S w (env t) (a.tmps.getD t undef)) (fn : Fn) (first captured : Array Operand) (hp : spop T (.makeFunc fn first captured) env h K) :
  Stills P ⟨dst, .makeFunc fn first captured, ty, pos, after, guard⟩ a μ h S w K := by
 simp only [spop] at hp
 split at hp
 ·rename_i f
  obtain ⟨hf, hp⟩ := guardB_elim hp
  obtain ⟨caps, hK, hl, hc⟩ := pcaps_elim _ _ hp
  have hf0 : first = #[] := by simpa [Array.isEmpty] using hf
  subst hf0
  refine .mk (val := .func (.func f) #[] (captured.map a.eval)) (by simpa using hK) ?_ fun w' ha => by first | rfl | simp [execOp, Instr.makeFunc]
  show CloRep μ h w f caps _
  refine ⟨_, rfl, by simpa using hl.symm, fun j p hj => ?_⟩
  have hlt : j < captured.toList.length := by rw [← hl]; exact (List.getElem?_eq_some_iff.1 hj).1
  have hx := List.getElem?_eq_getElem hlt
  refine ⟨a.eval captured.toList[j], by rw [Array.getElem?_map, ← Array.getElem?_toList, hx]; rfl, ?_⟩
  have he := hc j _ p hx hj
  have hv := ev_rep ht captured.toList[j]
  rw [he] at hv
  exact hv
 ·exact hp.elim
theorem spop_sound (hT : TabOk P T) (hH : HeapRep μ h S w) (ht : ∀ t, VRep μ h S w (env t) (a.tmps.getD t undef)) {op : Op} (hp : spop T op env h K) :
  Stills P ⟨dst, op, ty, pos, after, guard⟩ a μ h S w K := by
 cases op with
 | lookup t x i ok => exact lookup_sound hT hH ht t x i ok hp
 | makeFunc fn first captured => exact makeFunc_sound ht fn first captured hp
 | move x => exact .mk (force_elim hp) (ev_rep ht x) fun _ _ => rfl
 | assign x => exact .mk (force_elim hp) (ev_rep ht x) fun _ _ => rfl
 | pick c x y =>
  have hc := ev_rep ht c
  simp only [spop] at hp
  split at hp
  ·rename_i b hex
   rw [hex] at hc
   have ec := hc.bool_inv
   obtain ⟨h1, h2⟩ := splitB_elim hp
   cases b with
   | true => exact .mk (force_elim (h1 rfl)) (ev_rep ht x) fun w' _ => by simp [execOp, ec, asBool]
   | false => exact .mk (force_elim (h2 rfl)) (ev_rep ht y) fun w' _ => by simp [execOp, ec, asBool]
  ·exact hp.elim
 | binOp bo t x y t' => exact bin_sound hT bo t t' x y _ _ (ev_rep ht x) (ev_rep ht y) hp
 | unOp u t x =>
  have hx := ev_rep ht x
  simp only [spop] at hp
  split at hp
  ·rename_i b hex
   rw [hex] at hx
   exact .mk hp (PRep.bool _) fun w' _ => run_v_of rfl (by rw [hx.bool_inv, unary_not]; rfl)
  ·rename_i k n hex
   rw [hex] at hx
   exact .mk hp (PRep.int _ _) fun w' _ => run_v_of rfl (by rw [hx.int_inv, unary_neg]; rfl)
  ·exact hp.elim
 | load t x => exact load_sound hT hH t x _ (ev_rep ht x) hp
 | convert s d x => exact convert_sound hT hH ht s d x hp
 | nilCheck x => exact nilCheck_sound ht x hp
 | fieldAddr s x k => exact fieldAddr_sound hT ht s x k hp
 | build t parts => exact build_sound hT ht t parts hp
 | field s x k => exact field_sound hT ht s x k hp
 | indexAddr t x i => exact index_sound hT hH ht t x i hp
 | index t x i => exact strindex_sound hT ht t x i hp
 | extract x i =>
  have hx := ev_rep ht x
  simp only [spop] at hp
  split at hp
  ·rename_i vs hex
   rw [hex] at hx
   split at hp
   ·rename_i v hv
    obtain ⟨us, e1, e2, e3⟩ := hx
    obtain ⟨u, hu, hr⟩ := e3 i v hv
    have hr' : VRep μ h S w v u := by
     cases v with
     | tup ps => exact (show False from hr).elim
     | _ => exact hr
    exact .mk (force_elim hp) hr' fun w' _ => run_v_of rfl (by rw [e1]; simp [Instr.extract, hu])
   ·exact hp.elim
  ·exact hp.elim
 | slice t x lo hi mx => exact slice_sound hT hH ht t x lo hi mx hp
 | call c =>
  obtain ⟨cal, args, ts⟩ := c
  cases cal with
  | builtin b => cases b with
   | len => exact len_sound hT hH ht args ts hp
   | _ => exact (show False from hp).elim
  | _ => exact (show False from hp).elim
 | _ => exact (show False from hp).elim
end
end Go.Am
