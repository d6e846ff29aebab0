/- Texts of the proof, joined and shortened. -/
import Derived.Test.YtiigfbapjeefbaaGreatDoorPk2
set_option linter.unusedVariables false
set_option linter.unusedSimpArgs false
namespace Go.Am
open Go Go.RowKit
section
variable {P : Program} {T : lu} {μ : Mu} {h η : List ak} {k : List Nat} {S : Nat → Prop} {w : World} {C : Start} {env : Env} {a : Act}
theorem kk.agree (hs : kk C μ h S env a w) {w' : World} (ha : bF w w') : kk C μ h S env a w' :=
 ⟨⟨hs.core.heap.agree ha hs.core.ok, hs.core.ok.agree ha⟩, hs.fr.trans (Fr.rq ha), fun t => (hs.tmps t).fr (Fr.rq ha) hs.core.ok, hs.size, hs.far, hs.defers⟩
theorem wm {pv : PV} {v : Value} {w w' : World} {μ μ' : Mu} {h h' : List ak} {S S' : Nat → Prop} (hs : rp pv = true) (hv : aZ μ h S w pv v) : aZ μ' h' S' w' pv v ∧ ∀ v' : Value, aZ μ' h' S' w' pv v' → v' = v := by
 cases pv with
 | int k n => obtain rfl := hv.ji; exact ⟨aE.int _ _, fun v' h' => h'.ji⟩
 | bool b => obtain rfl := hv.j3; exact ⟨aE.bool _, fun v' h' => h'.j3⟩
 | str s => obtain rfl := hv.j9; exact ⟨aE.str _, fun v' h' => h'.j9⟩
 | bf => obtain rfl := hv.mU; exact ⟨aE.bf, fun v' h' => h'.mU⟩
 | _ => cases hs
def yh : PV → Value
 | .int k n => .int k n
 | .bool b => .bool b
 | .str s => .string ⟨⟨s⟩⟩
 | .bf => .slice none 0 0
 | _ => undef
theorem mI {pv : PV} {w : World} {μ : Mu} {h : List ak} {S : Nat → Prop} (hs : rp pv = true) : aZ μ h S w pv (yh pv) := by
 cases pv with
 | int k n => exact aE.int _ _
 | bool b => exact aE.bool _
 | str s => exact aE.str _
 | bf => exact aE.bf
 | _ => cases hs
theorem Dt {P : Program} {K : Env → Prop} (all : List Oper) (o : Oper) (rest : List Oper) (env : Env) (h : List ak) {j : Nat} {want : Bool} (hg : o.guard = some (j, want)) :
  qP P T all h K (o :: rest) env = (match (all[j]?).bind (·.dst) with
     | some t => match env t with
      | .bool b => ez b
        (match (generalizing := false) want with
         | true => qop P T o.op (lZ env t (.bool true)) h (fun v => qP P T all h K rest (cp (lZ env t (.bool true)) o.dst v))
         | false => qP P T all h K rest (cp (lZ env t (.bool true)) o.dst (.aV [])))
        (match (generalizing := false) want with
         | true => qP P T all h K rest (cp (lZ env t (.bool false)) o.dst (.aV []))
         | false => qop P T o.op (lZ env t (.bool false)) h (fun v => qP P T all h K rest (cp (lZ env t (.bool false)) o.dst v)))
      | .aV [] => qP P T all h K rest (cp env o.dst (.aV []))
      | _ => False
     | none => False) := by
 obtain ⟨dst, op, ty, pos, after, guard⟩ := o
 have hg : guard = some (j, want) := hg
 rw [hg]
 rfl
theorem nS (hT : cd P T) (ops : Array Oper) {K : Env → Prop} {Q : Act → Prop} (h : List ak) (w : World) (μ : Mu) (S : Nat → Prop) (hK : ∀ env a, K env → kk C μ h S env a w → Q a) :
  ∀ (l : List Oper) (env : Env) (a : Act), qP P T ops.toList h K l env → (∀ o ∈ l, kn C.nt o = true) → kk C μ h S env a w → wpQuiet P ops (bF w) Q l a
 | [], env, a, hp, _, hs => hK env a hp hs
 | o :: rest, env, a, hp, hd, hs => by
  have Qp : ∀ t, o.dst = some t → t < C.nt := fun t ht => by
   have := hd o atw
   unfold kn at this
   rw [ht] at this
   simpa using this
  have hdr : ∀ o ∈ rest, kn C.nt o = true := fun o ho => hd o (by simp [ho])
  have run : ∀ env', kk C μ h S env' a w → qop P T o.op env' h (fun v => qP P T ops.toList h K rest (cp env' o.dst v)) → o.quiet P a (bF w) (wpQuiet P ops (bF w) Q rest) := fun env' iv uf => by
   obtain ⟨dst, op, ty, pos, after, guard⟩ := o
   have still : bE T op env' h (fun v => qP P T ops.toList h K rest (cp env' dst v)) → Oper.quiet P ⟨dst, op, ty, pos, after, guard⟩ a (bF w) (wpQuiet P ops (bF w) Q rest) := fun uf => by
    obtain ⟨v, val, Qq, hv, hr⟩ := ky (P := P) (env := env') hT iv.core.heap iv.tmps (dst := dst) (ty := ty) (pos := pos) (after := after) (guard := guard) uf
    refine ⟨val, fun w' hw' => ?_, nS hT ops h w μ S hK rest _ _ Qq hdr (iv.put Fr.refl iv.core hv Qp)⟩
    unfold Oper.quietAt
    rw [hr w' hw']
    exact ⟨rfl, rfl⟩
   cases op with
   | call c =>
    obtain ⟨cal, args, ts⟩ := c
    cases cal with
    | value fo =>
     have CH := bh iv.tmps fo
     change MV P (ev env' fo) (args.toList.map (ev env')) h _ at uf
     unfold MV at uf
     split at uf
     ·rename_i f hef
      rw [hef] at CH
      replace uf := aR uf
      obtain ⟨U1, jQ, v, hz, aqy, ⟨⟨fn, c, N3, BN, r7⟩, hA⟩, Qq⟩ := uf
      obtain ⟨T1, Qq⟩ := aR Qq
      refine ⟨yh v, fun w' hw' => ?_, nS hT ops h w μ S hK rest _ _ Qq hdr (iv.put Fr.refl iv.core (mI T1) Qp)⟩
      have hs2 := iv.agree hw'
      obtain ⟨hl, hzz⟩ := uq.get _ _ hz
      have mP := (sj (k := []) (η := []) (m := 0) hs2.core trivial rfl).1
      have BO := hA w' (args.map a.eval) (jK μ h []) (yg μ h [] S) mP.heap mP.ok (by simpa using hl.symm) (fun j ef hj => by
       have B6 : j < args.toList.length := by have := (At.1 hj).1; simpa [hl] using this
       have hx : (args.toList.map (ev env'))[j]? = some (ev env' args.toList[j]) := by rw [arl, Of B6]; rfl
       refine ⟨a.eval args.toList[j], by rw [ass]; have := Of B6; simp only [arp] at this; rw [this]; rfl, ?_⟩
       have hv := (pn (k := []) (η := []) (m := 0) hs2.core trivial (hzz j _ ef hx hj)).2.2 _ (bh hs2.tmps args.toList[j])
       have nq := (aqX.1 aqy) ef (ari hj)
       cases ef with
       | aV ps => cases nq
       | _ => exact hv)
      have jx : (execOp a.eval ⟨dst, .call ⟨.value fo, args, ts⟩, ty, pos, after, guard⟩).run P w' = .ok (.enter f (args.map a.eval)) w' := by
       simp only [execOp, resolve, CH.KM, Deferred.ofValue, invoke, callFunc, Sem.run_bind, Sem.run_pure, Result.andThen_ok, Array.append_empty, ast]
       have vY : ¬ fn.name = "runtime.NumGoroutine" := by simpa using r7
       simp [program, Sem.run, Result.andThen, N3, vY, BN]
      unfold Oper.quietAt
      rw [jx]
      refine ⟨rfl, BO.mono fun e KO ⟨u, res, h', μ', S', he, hR, hv, hH, hM, hF⟩ => ?_⟩
      subst hR
      have hu := (wm (w' := w) (μ' := μ) (h' := h) (S' := S) T1 (mI (w := KO) (μ := μ') (h := h') (S := S') T1)).1
      have sR := (wm (w' := KO) (μ' := μ') (h' := h') (S' := S') T1 (mI (w := w) (μ := μ) (h := h) (S := S) T1)).2 u hv
      refine ⟨by rw [he, sR], hw'.trans ⟨fun b hb => hF.blocks b hb jg, hF.size, hF.os, hF.tape, hF.output⟩⟩
     ·exact uf.elim
    | _ => exact still uf
   | _ => exact still uf
  have skip : ∀ env', kk C μ h S env' a w → qP P T ops.toList h K rest (cp env' o.dst (.aV [])) → wpQuiet P ops (bF w) Q rest (a.put o.dst undef) := fun env' iv uf =>
   nS hT ops h w μ S hK rest _ _ uf hdr (iv.put Fr.refl iv.core qL Qp)
  unfold wpQuiet
  cases hg : o.guard with
  | none =>
   have hp : qop P T o.op env h (fun v => qP P T ops.toList h K rest (cp env o.dst v)) := by
    exact asU
   rw [if_pos (by simp [Region.wanted, hg])]
   exact run env hs hp
  | some p =>
   obtain ⟨j, want⟩ := p
   rw [Dt ops.toList o rest env h hg] at hp
   split at hp
   ·rename_i t hj
    split at hp
    ·rename_i b he
     have hy := qK hs hj he
     obtain ⟨ht, hf⟩ := iX hp
     have iv := hs.wg he
     cases b with
     | true =>
      have hp := ht rfl
      cases want with
      | true => rw [if_pos atB]; exact run _ iv hp
      | false => rw [if_neg atB]; exact skip _ iv hp
     | false =>
      have hp := hf rfl
      cases want with
      | true => rw [if_neg atB]; exact skip _ iv hp
      | false => rw [if_pos atB]; exact run _ iv hp
    ·rename_i he
     rw [if_neg atQ]
     exact skip _ hs hp
    ·exact asZ
   ·exact asZ
theorem tm : ∀ (σ : List (Nat × PV)) (t : Nat), Ez h η k env σ → (∃ v, Fz h η k (env t) v ∧ tn kG σ t = v) ∨ tn kG σ t = .fP
 | [], t, _ => .inr rfl
 | (t', v) :: r, t, hh => by
  obtain ⟨h1, h2⟩ := hh
  by_cases htt : t = t'
  ·subst htt
   exact .inl ⟨v, h1, by simp [tn, we]⟩
  ·simp only [tn]
   rw [zO _ _ htt]
   exact tm r t h2
theorem tq (hs : kk C μ h S env a w) {σ : List (Nat × PV)} (ht : pf C.h.length env h σ η) : ∃ μ' S', kk C μ' η S' (tn kG σ) a w := by
 obtain ⟨k, hk, hm, he, hh⟩ := ht
 obtain ⟨mP, _, _⟩ := sj hs.core hh hk
 refine ⟨jK μ h k, yg μ h k S, mP, U2 hs.core hs.fr hh hk hm, fun t => ?_, hs.size, fun t cD => ?_, hs.defers⟩
 ·rcases tm σ t he with ⟨v, h1, h2⟩ | h1
  ·rw [h2]; exact (pn hs.core hh h1).2.2 _ (hs.tmps t)
  ·rw [h1]; trivial
 ·rcases tm σ t he with ⟨v, h1, h2⟩ | h1
  ·rw [hs.far t cD] at h1
   rw [h2]
   cases h1
   rfl
  ·exact h1
theorem tl.mono {Q Q' : XQ} {e : Exit} {w : World} (hq : ∀ env h, Q e env h → Q' e env h) (hl : tl C Q e a w) : tl C Q' e a w := by
 obtain ⟨μ, h, S, env, hs, hQ⟩ := hl
 exact ⟨μ, h, S, env, hs, hq env h hQ⟩
theorem jD : ∀ (l : List Nat) (x : Nat), iH l x = true → x ∈ l
 | [], _, h => by cases h
 | a :: r, x, h => by
  unfold iH at h
  split at h
  ·rename_i hb
   have := No hb
   simp [this]
  ·exact arh _ (jD r x h)
theorem BT : ∀ (l : List Nat) (F : Nat → Prop), aa0 l F → ∀ i ∈ l, F i
 | [], _, _, i, hi => by simp at hi
 | [j], F, h, i, hi => by simp at hi; subst hi; exact h
 | j :: k :: r, F, h, i, hi => by
  obtain ⟨h1, h2⟩ := h
  simp only [aqZ] at hi
  rcases hi with rfl | hi
  ·exact h1
  ·exact BT (k :: r) F h2 i (by simpa using hi)
theorem jc (hT : cd P T) (ops : Array Oper) {K : Env → List ak → Prop} {Q : Exit → Act → World → Prop} {next : Act → World → Prop} (hK : ∀ env h a w μ S, K env h → kk C μ h S env a w → next a w) (i : Nat) (o : Oper) (ho : ops[i]? = some o)
  (hd : kn C.nt o = true) (env : Env) (h : List ak) (a : Act) (w : World) (μ : Mu) (S : Nat → Prop) (hp : mH P T ops.toList K [o] env h) (hs : kk C μ h S env a w) : wpOp P ops Q i next a w := by
 have Qp : ∀ t, o.dst = some t → t < C.nt := fun t ht => by
  unfold kn at hd
  rw [ht] at hd
  simpa using hd
 have run : ∀ env', kk C μ h S env' a w → pop P T o.op env' h (fun v h' => K (cp env' o.dst v) h') → o.wp P a w next Q := fun env' iv uf => by
  obtain ⟨dst, op, ty, pos, after, guard⟩ := o
  refine ye (env := env') hT iv.core iv.tmps uf _ _ fun v val h' μ' S' w' Qq hv hc hf => ?_
  exact hK _ h' _ w' μ' S' Qq (iv.put hf hc hv Qp)
 have skip : ∀ env', kk C μ h S env' a w → K (cp env' o.dst (.aV [])) h → next (a.put o.dst undef) w := fun env' iv uf =>
  hK _ h _ w μ S uf (iv.put Fr.refl iv.core qL Qp)
 unfold wpOp
 simp only [ho]
 cases hg : o.guard with
 | none =>
  have hp : pop P T o.op env h (fun v h' => K (cp env o.dst v) h') := by
   exact asU
  rw [if_pos (by simp [Region.wanted, hg])]
  exact .inl (run env hs hp)
 | some p =>
  obtain ⟨j, want⟩ := p
  rw [qM ops.toList o [] env h hg] at hp
  split at hp
  ·rename_i t hj
   split at hp
   ·rename_i b he
    have hy := qK hs hj he
    obtain ⟨ht, hf⟩ := iX hp
    have iv := hs.wg he
    cases b with
    | true =>
     have hp := ht rfl
     cases want with
     | true => rw [if_pos atB]; exact .inl (run _ iv hp)
     | false => rw [if_neg atB]; exact skip _ iv hp
    | false =>
     have hp := hf rfl
     cases want with
     | true => rw [if_neg atB]; exact skip _ iv hp
     | false => rw [if_pos atB]; exact .inl (run _ iv hp)
   ·rename_i he
    rw [if_neg atQ]
    exact skip _ hs hp
   ·exact asZ
  ·exact asZ
theorem wo (hT : cd P T) (ops : Array Oper) {K : Env → List ak → Prop} {Q : Exit → Act → World → Prop} (hK : ∀ env h a w μ S, K env h → kk C μ h S env a w → Q .normal a w) (hd : ∀ o ∈ ops.toList, kn C.nt o = true) :
  ∀ (f : Nat) (listed : Array Bool) (done : List Nat) (env : Env) (h : List ak) (a : Act) (w : World) (μ : Mu) (S : Nat → Prop), MW ops f listed done = true → aa1 P T ops.toList K f done env h → kk C μ h S env a w →
   wpAny P .any ops Q f listed a w
 | 0, listed, done, env, h, a, w, μ, S, hc, hp, hs => by
  refine ⟨?_, hK env h a w μ S hp hs⟩
  simpa [MW] using hc
 | f + 1, listed, done, env, h, a, w, μ, S, hc, hp, hs => by
  simp only [MW, As, aqX] at hc
  obtain ⟨nq, hc⟩ := hc
  refine ⟨fun h0 => by rw [h0] at nq; simp at nq, fun i hi => ?_⟩
  obtain ⟨OZ, TX⟩ := hc i hi
  have MX := BT _ _ hp i (jD _ _ OZ)
  split at MX
  ·rename_i o ho
   have Ha : ops[i]? = some o := by simpa using ho
   exact jc hT ops (fun env' h' a' w' μ' S' hk iv => wo hT ops hK hd f _ (i :: done) env' h' a' w' μ' S' TX hk iv) i o Ha (hd o (by have := (At.1 ho); obtain ⟨h1, h2⟩ := this; rw [← h2]; exact arc h1)) env h a w μ S MX hs
  ·exact MX.elim
theorem MY {op : Op} {env : Env} {h : List ak} {G : PV → List ak → Prop} (hs : bE T op env h (fun v => G v h)) : pop P T op env h G := by
 cases op with
 | store t a x => exact hs.elim
 | box t x => exact hs.elim
 | alloc t => exact hs.elim
 | makeSlice t l c => exact hs.elim
 | buildSlice t len parts => exact hs.elim
 | convert s d x =>
  simp only [pop]
  split
  ·rename_i e1 e2 e3
   simp only [bE, e1, e2, e3] at hs
  ·exact hs
 | binOp bo t x y ty =>
  simp only [pop]
  split
  ·rename_i e1 e2 e3
   simp only [bE, Fk, e1, e2, e3] at hs
  ·exact hs
 | makeMap t r => exact hs.elim
 | mapUpdate t m k x => exact hs.elim
 | call c =>
  obtain ⟨callee, args, ts⟩ := c
  cases callee with
  | value fo => exact hs.elim
  | builtin b => cases b with
   | append => exact hs.elim
   | copy => exact hs.elim
   | _ => (simp only [pop]; exact hs)
  | _ => (simp only [pop]; exact hs)
 | _ => (simp only [pop]; exact hs)
theorem wq {st : Bool} {op : Op} {env : Env} {h : List ak} {G : PV → List ak → Prop} (hs : xq P T st op env h G) : pop P T op env h G := by
 cases st with
 | true => exact MY hs
 | false => exact hs
theorem nT {all : List Oper} {st : Bool} {o : Oper} {K : Env → List ak → Prop} {env : Env} {h : List ak} (hp : fs P T all st o (fun v h' => K (cp env o.dst v) h') env h) : mH P T all K [o] env h := by
 unfold fs at hp
 cases hg : o.guard with
 | none =>
  rw [hg] at hp
  obtain ⟨dst, op, ty, pos, after, guard⟩ := o
  have hg : guard = none := hg
  subst hg
  exact wq hp
 | some q =>
  obtain ⟨j, want⟩ := q
  rw [hg] at hp
  rw [qM all o [] env h hg]
  simp only at hp ⊢
  generalize (all[j]?).bind (·.dst) = d at hp ⊢
  cases d with
  | none => exact hp.elim
  | some t =>
   simp only at hp ⊢
   generalize hv : env t = v at hp ⊢
   cases v with
   | bool b =>
    simp only at hp ⊢
    cases b with
    | true =>
     refine .mk (fun _ => ?_) (fun hc => by cases hc)
     rw [uH hv]
     cases want with
     | true => exact wq hp
     | false => exact hp
    | false =>
     refine .mk (fun hc => by cases hc) (fun _ => ?_)
     rw [uH hv]
     cases want with
     | true => exact hp
     | false => exact wq hp
   | aV l => cases l with
    | nil => exact hp
    | cons a r => exact hp.elim
   | _ => exact hp.elim
inductive zP (all : List Oper) : Nat → Nat → Prop
 | base {x i : Nat} (h : x ∈ bc all i) : zP all x i
 | step {x d i : Nat} (h : d ∈ bc all i) (hx : zP all x d) : zP all x i
theorem zQ : ∀ (l acc : List Nat) (x : Nat), x ∈ ddL l acc → x ∈ l ∨ x ∈ acc
 | [], acc, x, h => .inr h
 | a :: r, acc, x, h => by
  unfold ddL at h
  cases hi : iH acc a with
  | true => rw [hi] at h; exact (zQ r acc x h).imp (arh _) id
  | false =>
   rw [hi] at h
   rcases zQ r (a :: acc) x h with h | h
   ·exact .inl (arh _ h)
   ·simp only [aqZ] at h
    rcases h with rfl | h
    ·exact .inl atw
    ·exact .inr h
theorem pJ : ∀ (l : List Nat) (x : Nat), x ∈ l → iH l x = true
 | a :: r, x, h => by
  unfold iH
  cases hb : Nat.beq a x with
  | true => rfl
  | false =>
   simp only [aqZ] at h
   rcases h with rfl | h
   ·rw [arZ] at hb; cases hb
   ·exact pJ r x h
theorem pK {all : List Oper} : ∀ (ord : List (Nat × Bool)) (t : List (Nat × List Nat)), (∀ i x, iH (b8 t i) x = true → zP all x i) → ∀ i x, iH (b8 (p4 all ord t) i) x = true → zP all x i
 | [], t, hg => hg
 | (j, b) :: r, t, hg => pK r _ (fun i x hx => by
  unfold b8 at hx
  cases hb : Nat.beq j i with
  | false => rw [hb] at hx; exact hg i x hx
  | true =>
   rw [hb] at hx
   have := No hb
   subst this
   rcases zQ _ _ _ (jD _ _ hx) with hm | hm
   ·rw [aqW, List.mem_flatMap] at hm
    rcases hm with hm | ⟨d, hd, hm⟩
    ·exact .base hm
    ·exact .step hd (hg d x (pJ _ _ hm))
   ·simp at hm)
theorem fX {ops : Array Oper} {t : List (Nat × List Nat)} {p : Nat × Bool} : ∀ (l1 l2 : List (Nat × Bool)), bp ops t (l1 ++ p :: l2) = true → (∀ o, o ∈ l1 → di ops t o p = true) ∧ bp ops t (l1 ++ l2) = true
 | [], l2, h => by
  simp only [aqR, bp, As] at h
  exact ⟨fun o ho => by simp at ho, h.2⟩
 | a :: l1, l2, h => by
  simp only [aqS, bp, As, aqX] at h ⊢
  obtain ⟨h1, h2⟩ := fX l1 l2 h.2
  refine ⟨fun o ho => ?_, fun q hq => h.1 q (by simp only [aqW, aqZ] at hq ⊢; exact hq.imp id .inr), h2⟩
  simp only [aqZ] at ho
  rcases ho with rfl | ho
  ·exact h.1 p atw
  ·exact h1 o ho
theorem kC {ops : Array Oper} {i : Nat} {o : Oper} (ho : ops[i]? = some o) {d : Nat} : d ∈ bc ops.toList i ↔ ∃ e, e ∈ o.after ∧ Region.binds .any e = true ∧ e.on = d := by
 unfold bc
 have : ops.toList[i]? = some o := by simpa using ho
 rw [this]
 unfold MZ
 rw [List.mem_filterMap]
 constructor
 ·rintro ⟨e, he, hx⟩
  cases hb : Region.binds .any e with
  | true => rw [hb] at hx; exact ⟨e, by simpa using he, hb, by simpa using hx⟩
  | false => rw [hb] at hx; cases hx
 ·rintro ⟨e, he, hb, hx⟩
  exact ⟨e, by simpa using he, by rw [hb]; simp [hx]⟩
theorem sn (hT : cd P T) (ops : Array Oper) {t : List (Nat × List Nat)} (fY : ∀ i x, iH (b8 t i) x = true → zP ops.toList x i) (jU : ∀ i, i < ops.size → ∀ d, d ∈ bc ops.toList i → d < ops.size ∧ d ≠ i)
  {K : Env → List ak → Prop} {Q : Exit → Act → World → Prop} (hK : ∀ env h a w μ S, K env h → kk C μ h S env a w → Q .normal a w) (hd : ∀ o ∈ ops.toList, kn C.nt o = true) :
  ∀ (n : Nat) (l : List (Nat × Bool)) (a6 : List (Nat × List Nat)) (listed : Array Bool) (env : Env) (h : List ak) (a : Act) (w : World) (μ : Mu) (S : Nat → Prop), l.length = n → bp ops t l = true → (∀ p, p ∈ l → p.1 < ops.size) → listed.size = ops.size →
   (∀ j, j < ops.size → (listed.getD j true = false ↔ j ∈ l.map (·.1))) → (∀ j, j < ops.size → j ∉ l.map (·.1) → ∀ d, d ∈ bc ops.toList j → d ∉ l.map (·.1)) → xr P T ops.toList t K l a6 env h → kk C μ h S env a w → wpAny P .any ops Q n listed a w
 | 0, l, a6, listed, env, h, a, w, μ, S, hn, _, _, fv, sy, _, hf, hs => by
  obtain rfl : l = [] := List.length_eq_zero_iff.1 hn
  refine ⟨?_, hK env h a w μ S hf hs⟩
  cases hr : Region.ready .any ops listed with
  | nil => rfl
  | cons j r =>
   have hj : j ∈ Region.ready .any ops listed := by rw [hr]; simp
   rw [mem_ready] at hj
   obtain ⟨h1, o, ho, _⟩ := hj
   have := (sy j (aqU.1 ho).1).1 h1
   simp at this
 | n + 1, l, a6, listed, env, h, a, w, μ, S, hn, hpo, cD, fv, sy, yi, hf, hs => by
  have U5 : ∀ d, d < ops.size → (listed.getD d false = true ↔ d ∉ l.map (·.1)) := fun d MT => by
   have := sy d MT
   have e : listed.getD d false = listed.getD d true := by simp [Array.getD, fv, MT]
   rw [e, ← this]
   cases listed.getD d true <;> simp
  refine ⟨fun h0 => ?_, fun i hi => ?_⟩
  ·exfalso
   cases l with
   | nil => simp at hn
   | cons p r =>
    have hp := cD p atw
    have ho := arn hp
    have : p.1 ∈ Region.ready .any ops listed := by
     rw [mem_ready]
     refine ⟨(sy p.1 hp).2 atw, _, ho, fun e he hb => ?_⟩
     have hm : e.on ∈ bc ops.toList p.1 := (kC ho).2 ⟨e, he, hb, rfl⟩
     obtain ⟨d1, d2⟩ := jU p.1 hp _ hm
     rw [U5 _ d1]
     intro hc
     simp only [adr, aqZ, ark] at hc
     rcases hc with hc | ⟨q, hq, hc⟩
     ·exact d2 hc
     ·simp only [bp, As, aqX] at hpo
      have := hpo.1 q hq
      unfold di at this
      simp only [As, arF] at this
      rw [hc, pJ _ _ hm] at this
      exact absurd this.1.2 atw
    rw [h0] at this
    simp at this
  ·rw [mem_ready] at hi
   obtain ⟨h1, oi, qX, BU⟩ := hi
   have pG := (aqU.1 qX).1
   have uz : ∀ d, d ∈ bc ops.toList i → d ∉ l.map (·.1) := fun d qc => by
    exact asW
   have qQ : ∀ x, zP ops.toList x i → x ∉ l.map (·.1) := by
    have gen : ∀ x j, zP ops.toList x j → j < ops.size → (∀ d, d ∈ bc ops.toList j → d ∉ l.map (·.1)) → x ∉ l.map (·.1) := fun x j ha => by
     induction ha with
     | base hx => exact fun _ hj => hj _ hx
     | step qc _ ih => exact fun hj hjd => ih (jU _ hj _ qc).1 (yi _ (jU _ hj _ qc).1 (hjd _ qc))
    exact fun x ha => gen x i ha pG uz
   obtain ⟨p, hp, U6⟩ := ark.1 ((sy i pG).1 h1)
   obtain ⟨l1, l2, rfl⟩ := asC hp
   obtain ⟨i', st⟩ := p
   simp only at U6
   subst U6
   obtain ⟨U7, aqz⟩ := fX l1 l2 hpo
   have uA : ops.toList[i']? = some oi := by simpa using qX
   have GV := sq (P := P) (T := T) (ops := ops) (t := t) (K := K) uA l1 l2 a6 env h (fun q hq => by
    have hk := U7 q hq
    unfold di at hk
    simp only [As, arD, arF] at hk
    have hqm : q.1 ∈ (l1 ++ (i', st) :: l2).map (·.1) := ark.2 ⟨q, by simp [hq], rfl⟩
    have hna : iH (b8 t i') q.1 = false := by
     cases hb : iH (b8 t i') q.1 with
     | false => rfl
     | true => exact absurd hqm (qQ _ (fY _ _ hb))
    rcases hk.2 with pW | ⟨DN, ns⟩
    ·exact absurd hqm (uz _ (jD _ _ pW))
    ·refine ⟨?_, hna, DN⟩
     rcases ns with ns | ns
     ·exact ns
     ·rw [hna] at ns; cases ns) hf
   have nq : ∀ q, q ∈ l1 ++ l2 → q.1 ≠ i' := fun q hq => by
    rw [aqW] at hq
    rcases hq with hq | hq
    ·have hk := U7 q hq
     unfold di at hk
     simp only [As, arF] at hk
     intro he
     have this : Nat.beq q.1 i' = false := hk.1.1
     rw [he, arZ] at this
     cases this
    ·have : ∀ (l1 : List (Nat × Bool)), bp ops t (l1 ++ (i', st) :: l2) = true → di ops t (i', st) q = true := fun l1 => by
      induction l1 with
      | nil => intro hh; simp only [aqR, bp, As, aqX] at hh; exact hh.1 q hq
      | cons b r ih => intro hh; simp only [aqS, bp, As] at hh; exact ih hh.2
     have hk := this l1 hpo
     unfold di at hk
     simp only [As, arF] at hk
     intro he
     have := hk.1.1
     rw [he] at this
     rw [arZ] at this
     cases this
   have zR : ∀ j, j ∈ (l1 ++ (i', st) :: l2).map (·.1) ↔ j = i' ∨ j ∈ (l1 ++ l2).map (·.1) := fun j => by
    simp only [ary, adr, aqW, aqZ]
    constructor
    ·rintro (h | h | h)
     ·exact atn
     ·exact .inl h
     ·exact .inr (.inr h)
    ·rintro (h | h | h)
     ·exact atn
     ·exact .inl h
     ·exact .inr (.inr h)
   have Du : i' ∉ (l1 ++ l2).map (·.1) := fun hm => by
    obtain ⟨q, hq, he⟩ := ark.1 hm
    exact nq q hq he
   have nd : mH P T ops.toList (fun env' h' => xr P T ops.toList t K (l1 ++ l2) a6 env' h') [oi] env h := nT (cn (fun v h' hk => hk.2.2) GV)
   refine jc hT ops (fun env' h' a' w' μ' S' hk iv => sn hT ops fY jU hK hd n (l1 ++ l2) a6 _ env' h' a' w' μ' S' (by simp at hn ⊢; omega) aqz (fun q hq => cD q (by rw [aqW] at hq ⊢; exact hq.imp id (arh _))) atV (fun j hj => ?_) (fun j hj hjn dd x6 => ?_) hk iv) i' oi qX (hd oi (by have := (At.1 uA); obtain ⟨h1, h2⟩ := this; rw [← h2]; exact arc h1)) env h a w μ S nd hs
   ·by_cases gH : j = i'
    ·subst gH
     constructor
     ·intro hc
      have : (listed.setIfInBounds j true).getD j true = true := by simp [Array.getD, fv, hj]
      rw [this] at hc; cases hc
     ·intro hc; exact absurd hc Du
    ·have e : (listed.setIfInBounds i' true).getD j true = listed.getD j true := getD_set_ne true (asb gH)
     rw [e, sy j hj, zR j]
     constructor
     ·rintro (h | h)
      ·exact absurd h gH
      ·exact h
     ·exact .inr
   ·by_cases gH : j = i'
    ·subst gH
     exact fun hm => uz dd x6 ((zR dd).2 (.inr hm))
    ·exact fun hm => yi j hj (fun hc => by rcases (zR j).1 hc with hc | hc; exact gH hc; exact hjn hc) dd x6 ((zR dd).2 (.inr hm))
theorem nf {ops : Array Oper} {listed : Array Bool} {i : Nat} {L L' : List Nat} (zR : ∀ j, j ∈ L ↔ j = i ∨ j ∈ L') (Du : i ∉ L') (fv : listed.size = ops.size) (sy : ∀ j, j < ops.size → (listed.getD j true = false ↔ j ∈ L))
  (yi : ∀ j, j < ops.size → j ∉ L → ∀ d, d ∈ bc ops.toList j → d ∉ L) (uz : ∀ d, d ∈ bc ops.toList i → d ∉ L) :
  (∀ j, j < ops.size → ((listed.setIfInBounds i true).getD j true = false ↔ j ∈ L')) ∧ ∀ j, j < ops.size → j ∉ L' → ∀ d, d ∈ bc ops.toList j → d ∉ L' := by
 refine ⟨fun j hj => ?_, fun j hj hjn d x6 hm => ?_⟩
 ·by_cases gH : j = i
  ·subst gH
   constructor
   ·intro hc
    have : (listed.setIfInBounds j true).getD j true = true := by simp [Array.getD, fv, hj]
    rw [this] at hc; cases hc
   ·intro hc; exact absurd hc Du
  ·have e : (listed.setIfInBounds i true).getD j true = listed.getD j true := getD_set_ne true (asb gH)
   rw [e, sy j hj, zR j]
   exact ⟨fun h => h.resolve_left gH, .inr⟩
 ·by_cases gH : j = i
  ·subst gH
   exact uz d x6 ((zR d).2 (.inr hm))
  ·exact yi j hj (fun hc => by rcases (zR j).1 hc with hc | hc; exact gH hc; exact hjn hc) d x6 ((zR d).2 (.inr hm))
theorem ig {ops : Array Oper} {t : List (Nat × List Nat)} {p q : Nat × Bool} (h : di ops t p q = true) : p.1 ≠ q.1 := by
 unfold di at h
 simp only [As, arF] at h
 intro he
 have := h.1.1
 rw [he, arZ] at this
 cases this
theorem wu {ops : Array Oper} {t : List (Nat × List Nat)} {p q : Nat × Bool} (h : di ops t p q = true) : q.1 ∉ bc ops.toList p.1 := by
 unfold di at h
 simp only [As, arF] at h
 intro hm
 have := h.1.2
 rw [pJ _ _ hm] at this
 cases this
theorem gF {ops : Array Oper} {t : List (Nat × List Nat)} {p q : Nat × Bool} : ∀ (l1 l2 : List (Nat × Bool)), bp ops t (l1 ++ p :: l2) = true → q ∈ l2 → di ops t p q = true
 | [], l2, h, hq => by simp only [aqR, bp, As, aqX] at h; exact h.1 q hq
 | _ :: l1, l2, h, hq => by simp only [aqS, bp, As] at h; exact gF l1 l2 h.2 hq
theorem ng {ops : Array Oper} {t : List (Nat × List Nat)} (fY : ∀ i x, iH (b8 t i) x = true → zP ops.toList x i) {L : List Nat} {q : Nat × Bool} {i : Nat} {st : Bool} (hk : di ops t q (i, st) = true) (hqL : q.1 ∈ L) (uz : ∀ d, d ∈ bc ops.toList i → d ∉ L) (qQ : ∀ x, zP ops.toList x i → x ∉ L) :
  q.2 = true ∧ iH (b8 t i) q.1 = false ∧ mq ops q.1 i = true := by
 unfold di at hk
 simp only [As, arD, arF] at hk
 have hna : iH (b8 t i) q.1 = false := by
  cases hb : iH (b8 t i) q.1 with
  | false => rfl
  | true => exact absurd hqL (qQ _ (fY _ _ hb))
 rcases hk.2 with pW | ⟨DN, ns⟩
 ·exact absurd hqL (uz _ (jD _ _ pW))
 ·refine ⟨?_, hna, DN⟩
  rcases ns with ns | ns
  ·exact ns
  ·rw [hna] at ns; cases ns
theorem qd (hT : cd P T) (ops : Array Oper) {t : List (Nat × List Nat)} (fY : ∀ i x, iH (b8 t i) x = true → zP ops.toList x i) (jU : ∀ i, i < ops.size → ∀ d, d ∈ bc ops.toList i → d < ops.size ∧ d ≠ i) {x y : Nat} {ra rb : List (Nat × Bool)}
  (hlen : rb.length = ra.length) (Qs : ∀ j, j ∈ ((x, false) :: ra).map (·.1) ↔ j ∈ ((y, false) :: rb).map (·.1)) (hxA : ∀ d, d ∈ bc ops.toList x → d ∉ ((x, false) :: ra).map (·.1)) (U8 : x ∉ ra.map (·.1)) (U9 : y ∉ rb.map (·.1))
  (zS : ∀ p, p ∈ ra → p.1 = y ∨ iH (b8 t p.1) x = true ∨ iH (b8 t p.1) y = true)
  {K : Env → List ak → Prop} {Q : Exit → Act → World → Prop} (hK : ∀ env h a w μ S, K env h → kk C μ h S env a w → Q .normal a w) (hd : ∀ o ∈ ops.toList, kn C.nt o = true)
  (n : Nat) (l : List (Nat × Bool)) (a6 : List (Nat × List Nat)) (listed : Array Bool) (env : Env) (h : List ak) (a : Act) (w : World) (μ : Mu) (S : Nat → Prop) (hn : l.length = n) (M0 : bp ops t (l ++ ra) = true) (Va : bp ops t (l ++ rb) = true)
  (z7 : ∀ p, p ∈ l → di ops t p (x, false) = true ∧ di ops t p (y, false) = true ∧ ∀ d, d ∈ bc ops.toList p.1 → d ∉ ((x, false) :: ra).map (·.1))
  (cD : ∀ p, p ∈ l ++ (x, false) :: ra → p.1 < ops.size) (fv : listed.size = ops.size)
  (sy : ∀ j, j < ops.size → (listed.getD j true = false ↔ j ∈ (l ++ (x, false) :: ra).map (·.1))) (yi : ∀ j, j < ops.size → j ∉ (l ++ (x, false) :: ra).map (·.1) → ∀ d, d ∈ bc ops.toList j → d ∉ (l ++ (x, false) :: ra).map (·.1))
  (hf : tr P T ops.toList t ((x, false) :: ra) ((y, false) :: rb) K l a6 env h) (hs : kk C μ h S env a w)
  (ih : ∀ m, m + 1 = n → ∀ (l : List (Nat × Bool)) (a6 : List (Nat × List Nat)) (listed : Array Bool) (env : Env) (h : List ak) (a : Act) (w : World) (μ : Mu) (S : Nat → Prop), l.length = m → bp ops t (l ++ ra) = true → bp ops t (l ++ rb) = true →
   (∀ p, p ∈ l → di ops t p (x, false) = true ∧ di ops t p (y, false) = true ∧ ∀ d, d ∈ bc ops.toList p.1 → d ∉ ((x, false) :: ra).map (·.1)) →
   (∀ p, p ∈ l ++ (x, false) :: ra → p.1 < ops.size) → listed.size = ops.size →
   (∀ j, j < ops.size → (listed.getD j true = false ↔ j ∈ (l ++ (x, false) :: ra).map (·.1))) → (∀ j, j < ops.size → j ∉ (l ++ (x, false) :: ra).map (·.1) → ∀ d, d ∈ bc ops.toList j → d ∉ (l ++ (x, false) :: ra).map (·.1)) →
   tr P T ops.toList t ((x, false) :: ra) ((y, false) :: rb) K l a6 env h → kk C μ h S env a w → wpAny P .any ops Q (m + (ra.length + 1)) listed a w) : wpAny P .any ops Q (n + (ra.length + 1)) listed a w := by
 have U5 : ∀ d, d < ops.size → (listed.getD d false = true ↔ d ∉ (l ++ (x, false) :: ra).map (·.1)) := fun d MT => by
  have := sy d MT
  have e : listed.getD d false = listed.getD d true := by simp [Array.getD, fv, MT]
  rw [e, ← this]
  cases listed.getD d true <;> simp
 have hx := cD (x, false) atw
 refine ⟨fun h0 => ?_, fun i hi => ?_⟩
 ·exfalso
  have first : ∃ p, p < ops.size ∧ p ∈ (l ++ (x, false) :: ra).map (·.1) ∧ ∀ d, d ∈ bc ops.toList p → d ∉ (l ++ (x, false) :: ra).map (·.1) := by
   cases l with
   | nil => exact ⟨x, hx, by simp, fun d x6 hm => hxA d x6 (by simpa using hm)⟩
   | cons p r =>
    have hp := cD p atw
    refine ⟨p.1, hp, by simp, fun d x6 hm => ?_⟩
    rw [ary, aqW] at hm
    rcases hm with hm | hm
    ·simp only [adr, aqZ, ark] at hm
     rcases hm with rfl | ⟨q, hq, rfl⟩
     ·exact (jU _ hp _ x6).2 rfl
     ·exact wu (gF [] _ M0 (asa _ hq)) x6
    ·exact (z7 p atw).2.2 d x6 hm
  obtain ⟨p, hp, hpm, hpd⟩ := first
  have ho := arn hp
  have : p ∈ Region.ready .any ops listed := by
   rw [mem_ready]
   refine ⟨(sy p hp).2 hpm, _, ho, fun e he hb => ?_⟩
   have hm : e.on ∈ bc ops.toList p := (kC ho).2 ⟨e, he, hb, rfl⟩
   rw [U5 _ (jU p hp _ hm).1]
   exact hpd _ hm
  rw [h0] at this
  simp at this
 ·rw [mem_ready] at hi
  obtain ⟨h1, oi, qX, BU⟩ := hi
  have pG := (aqU.1 qX).1
  have uA : ops.toList[i]? = some oi := by simpa using qX
  have Dv : kn C.nt oi = true := hd oi auc
  have uz : ∀ d, d ∈ bc ops.toList i → d ∉ (l ++ (x, false) :: ra).map (·.1) := fun d qc => by
   exact asW
  have qQ : ∀ z, zP ops.toList z i → z ∉ (l ++ (x, false) :: ra).map (·.1) := by
   have gen : ∀ z j, zP ops.toList z j → j < ops.size → (∀ d, d ∈ bc ops.toList j → d ∉ (l ++ (x, false) :: ra).map (·.1)) → z ∉ (l ++ (x, false) :: ra).map (·.1) := fun z j ha => by
    induction ha with
    | base hx => exact fun _ hj => hj _ hx
    | step qc _ ih => exact fun hj hjd => ih (jU _ hj _ qc).1 (yi _ (jU _ hj _ qc).1 (hjd _ qc))
   exact fun z ha => gen z i ha pG uz
  have hyA : y ∈ ((x, false) :: ra).map (·.1) := (Qs y).2 atw
  have zT := (sy i pG).1 h1
  rw [ary, aqW] at zT
  have split : i ∈ l.map (·.1) ∨ i = x ∨ i = y := by
   rcases zT with zT | zT
   ·exact .inl zT
   ·simp only [adr, aqZ, ark] at zT
    rcases zT with rfl | ⟨q, hq, rfl⟩
    ·exact .inr (.inl rfl)
    ·rcases zS q hq with h2 | h2 | h2
     ·exact .inr (.inr h2)
     ·exact absurd (by simp : x ∈ (l ++ (x, false) :: ra).map (·.1)) (qQ _ (fY _ _ h2))
     ·exact absurd (by rw [ary, aqW]; exact .inr hyA) (qQ _ (fY _ _ h2))
  rcases split with zT | rfl | rfl
  ·-- one of those ahead
   obtain ⟨p, hp, U6⟩ := ark.1 zT
   obtain ⟨l1, l2, rfl⟩ := asC hp
   obtain ⟨i', st⟩ := p
   simp only at U6
   subst U6
   have e1 : l1 ++ (i', st) :: l2 ++ ra = l1 ++ (i', st) :: (l2 ++ ra) := by simp
   have e2 : l1 ++ (i', st) :: l2 ++ rb = l1 ++ (i', st) :: (l2 ++ rb) := by simp
   rw [e1] at M0
   rw [e2] at Va
   obtain ⟨U7, aqA⟩ := fX l1 _ M0
   obtain ⟨_, aqB⟩ := fX l1 _ Va
   have GV := yj (P := P) (T := T) (ops := ops) (t := t) (A0 := (x, false) :: ra) (B0 := (y, false) :: rb) (K := K) uA l1 l2 a6 env h (fun q hq => ng fY (U7 q hq) (by rw [ary, aqW]; exact .inl (ark.2 ⟨q, asa _ hq, rfl⟩)) uz qQ) hf
   have Du : i' ∉ ((l1 ++ l2) ++ (x, false) :: ra).map (·.1) := fun hm => by
    simp only [ary, adr, aqW, aqZ, ark] at hm
    rcases hm with (⟨q, hq, he⟩ | ⟨q, hq, he⟩) | he | ⟨q, hq, he⟩
    ·exact ig (U7 q hq) he
    ·exact ig (gF l1 _ M0 (asa _ hq)) he.symm
    ·exact ig (z7 (i', st) atw).1 he
    ·exact ig (gF l1 _ M0 (List.mem_append_right _ hq)) he.symm
   obtain ⟨r1, r2⟩ := nf (L' := ((l1 ++ l2) ++ (x, false) :: ra).map (·.1)) (fun j => by
    simp only [ary, adr, aqW, aqZ]
    constructor
    ·rintro ((h | h | h) | h)
     ·exact .inr (.inl (.inl h))
     ·exact .inl h
     ·exact .inr (.inl (.inr h))
     ·exact .inr (.inr h)
    ·rintro (h | (h | h) | h)
     ·exact .inl (.inr (.inl h))
     ·exact .inl (.inl h)
     ·exact .inl (.inr (.inr h))
     ·exact .inr h) Du fv sy yi uz
   have nd : mH P T ops.toList (fun env' h' => tr P T ops.toList t ((x, false) :: ra) ((y, false) :: rb) K (l1 ++ l2) a6 env' h') [oi] env h := nT (cn (fun v h' hk => hk.2.2) GV)
   obtain ⟨m, rfl⟩ : ∃ m, n = m + 1 := ⟨n - 1, by simp at hn; omega⟩
   rw [show (m + 1).add ra.length = m + (ra.length + 1) from (by show m + 1 + ra.length = _; omega)]
   refine jc hT ops (fun env' h' a' w' μ' S' hk iv => ih m rfl (l1 ++ l2) a6 _ env' h' a' w' μ' S' (by simp at hn ⊢; omega) (by rw [amb]; exact aqA) (by rw [amb]; exact aqB) (fun q hq => z7 q (by
    simp only [aqW, aqZ] at hq ⊢
    exact hq.imp id .inr)) (fun q hq => cD q (by
    simp only [aqW, aqZ] at hq ⊢
    rcases hq with (h | h) | h
    ·exact .inl (.inl h)
    ·exact .inl (.inr (.inr h))
    ·exact .inr h)) atV r1 r2 hk iv) i' oi qX Dv env h a w μ S nd hs
  ·-- the first of the two
   have oB : xr P T ops.toList t K (l ++ (i, false) :: ra) a6 env h := Dw l a6 env h hf
   have GV := sq (P := P) (T := T) (ops := ops) (t := t) (K := K) uA l ra a6 env h (fun q hq => ng fY (z7 q hq).1 atZ uz qQ) oB
   have Du : i ∉ (l ++ ra).map (·.1) := fun hm => by
    simp only [ary, aqW] at hm
    rcases hm with hm | hm
    ·obtain ⟨q, hq, he⟩ := ark.1 hm
     exact ig (z7 q hq).1 he
    ·exact U8 hm
   obtain ⟨r1, r2⟩ := nf (L' := (l ++ ra).map (·.1)) (fun j => by
    simp only [ary, adr, aqW, aqZ]
    constructor
    ·rintro (h | h | h)
     ·exact atn
     ·exact .inl h
     ·exact .inr (.inr h)
    ·rintro (h | h | h)
     ·exact atn
     ·exact .inl h
     ·exact .inr (.inr h)) Du fv sy yi uz
   have nd : mH P T ops.toList (fun env' h' => xr P T ops.toList t K (l ++ ra) a6 env' h') [oi] env h := nT (cn (fun v h' hk => hk.2.2) GV)
   refine jc hT ops (fun env' h' a' w' μ' S' hk iv => sn hT ops fY jU hK hd (n + ra.length) (l ++ ra) a6 _ env' h' a' w' μ' S' (by simp [hn]) M0 (fun q hq => cD q (by
    simp only [aqW, aqZ] at hq ⊢
    exact hq.imp id .inr)) atV r1 r2 hk iv) i oi qX Dv env h a w μ S nd hs
  ·-- the second
   have oB : xr P T ops.toList t K (l ++ (i, false) :: rb) a6 env h := Dx l a6 env h hf
   have GV := sq (P := P) (T := T) (ops := ops) (t := t) (K := K) uA l rb a6 env h (fun q hq => ng fY (z7 q hq).2.1 atZ uz qQ) oB
   have Du : i ∉ (l ++ rb).map (·.1) := fun hm => by
    simp only [ary, aqW] at hm
    rcases hm with hm | hm
    ·obtain ⟨q, hq, he⟩ := ark.1 hm
     exact ig (z7 q hq).2.1 he
    ·exact U9 hm
   obtain ⟨r1, r2⟩ := nf (L' := (l ++ rb).map (·.1)) (fun j => by
    rw [ary, aqW, Qs j, ary]
    simp only [adr, aqW, aqZ]
    constructor
    ·rintro (h | h | h)
     ·exact atn
     ·exact .inl h
     ·exact .inr (.inr h)
    ·rintro (h | h | h)
     ·exact atn
     ·exact .inl h
     ·exact .inr (.inr h)) Du fv sy yi uz
   have nd : mH P T ops.toList (fun env' h' => xr P T ops.toList t K (l ++ rb) a6 env' h') [oi] env h := nT (cn (fun v h' hk => hk.2.2) GV)
   refine jc hT ops (fun env' h' a' w' μ' S' hk iv => sn hT ops fY jU hK hd (n + ra.length) (l ++ rb) a6 _ env' h' a' w' μ' S' (by simp [hn, hlen]) Va (fun q hq => by
    rw [aqW] at hq
    rcases hq with h | h
    ·exact cD q (asa _ h)
    ·have : q.1 ∈ ((x, false) :: ra).map (·.1) := (Qs q.1).2 (arh _ (ark.2 ⟨q, h, rfl⟩))
     obtain ⟨p, hp, he⟩ := ark.1 this
     rw [← he]
     exact cD p (List.mem_append_right _ hp)) atV r1 r2 hk iv) i oi qX Dv env h a w μ S nd hs
theorem M1 (hT : cd P T) (ops : Array Oper) {t : List (Nat × List Nat)} (fY : ∀ i x, iH (b8 t i) x = true → zP ops.toList x i) (jU : ∀ i, i < ops.size → ∀ d, d ∈ bc ops.toList i → d < ops.size ∧ d ≠ i) {x y : Nat} {ra rb : List (Nat × Bool)}
  (hlen : rb.length = ra.length) (Qs : ∀ j, j ∈ ((x, false) :: ra).map (·.1) ↔ j ∈ ((y, false) :: rb).map (·.1)) (hxA : ∀ d, d ∈ bc ops.toList x → d ∉ ((x, false) :: ra).map (·.1)) (U8 : x ∉ ra.map (·.1)) (U9 : y ∉ rb.map (·.1))
  (zS : ∀ p, p ∈ ra → p.1 = y ∨ iH (b8 t p.1) x = true ∨ iH (b8 t p.1) y = true)
  {K : Env → List ak → Prop} {Q : Exit → Act → World → Prop} (hK : ∀ env h a w μ S, K env h → kk C μ h S env a w → Q .normal a w) (hd : ∀ o ∈ ops.toList, kn C.nt o = true)
  (n : Nat) (l : List (Nat × Bool)) (a6 : List (Nat × List Nat)) (listed : Array Bool) (env : Env) (h : List ak) (a : Act) (w : World) (μ : Mu) (S : Nat → Prop) (hn : l.length = n) (M0 : bp ops t (l ++ ra) = true) (Va : bp ops t (l ++ rb) = true)
  (z7 : ∀ p, p ∈ l → di ops t p (x, false) = true ∧ di ops t p (y, false) = true ∧ ∀ d, d ∈ bc ops.toList p.1 → d ∉ ((x, false) :: ra).map (·.1))
  (cD : ∀ p, p ∈ l ++ (x, false) :: ra → p.1 < ops.size) (fv : listed.size = ops.size)
  (sy : ∀ j, j < ops.size → (listed.getD j true = false ↔ j ∈ (l ++ (x, false) :: ra).map (·.1))) (yi : ∀ j, j < ops.size → j ∉ (l ++ (x, false) :: ra).map (·.1) → ∀ d, d ∈ bc ops.toList j → d ∉ (l ++ (x, false) :: ra).map (·.1))
  (hf : tr P T ops.toList t ((x, false) :: ra) ((y, false) :: rb) K l a6 env h) (hs : kk C μ h S env a w) : wpAny P .any ops Q (n + (ra.length + 1)) listed a w := by
 induction n generalizing l a6 listed env h a w μ S with
 | zero => exact qd hT ops fY jU hlen Qs hxA U8 U9 zS hK hd 0 l a6 listed env h a w μ S hn M0 Va z7 cD fv sy yi hf hs (fun m hm => absurd hm (Nat.succ_ne_zero m))
 | succ n ih => exact qd hT ops fY jU hlen Qs hxA U8 U9 zS hK hd (n + 1) l a6 listed env h a w μ S hn M0 Va z7 cD fv sy yi hf hs (fun m hm => by (obtain rfl : m = n := Nat.succ.inj hm); exact ih)
def Left (ops : Array Oper) (l : List (Nat × Bool)) (R : List Nat) (listed : Array Bool) : Prop :=
 listed.size = ops.size ∧ (∀ j, j < ops.size → (listed.getD j true = false ↔ j ∈ l.map (·.1) ++ R)) ∧ ∀ j, j < ops.size → j ∉ l.map (·.1) ++ R → ∀ d, d ∈ bc ops.toList j → d ∉ l.map (·.1) ++ R
def Snd (P : Program) (T : lu) (C : Start) (ops : Array Oper) (t : List (Nat × List Nat)) (Q : Exit → Act → World → Prop) (E : List (Nat × List Nat) → Env → List ak → Prop) (R : List Nat) (c : List (Nat × Bool) → Prop) : Prop :=
 ∀ (l : List (Nat × Bool)) (a6 : List (Nat × List Nat)) (listed : Array Bool) (env : Env) (h : List ak) (a : Act) (w : World) (μ : Mu) (S : Nat → Prop), c l → (∀ p, p ∈ l → p.1 < ops.size) → Left ops l R listed →
  kD P T ops.toList t E l a6 env h → kk C μ h S env a w → wpAny P .any ops Q (l.length + R.length) listed a w
theorem zU (hT : cd P T) (ops : Array Oper) {t : List (Nat × List Nat)} (fY : ∀ i x, iH (b8 t i) x = true → zP ops.toList x i) (jU : ∀ i, i < ops.size → ∀ d, d ∈ bc ops.toList i → d < ops.size ∧ d ≠ i)
  {K : Env → List ak → Prop} {Q : Exit → Act → World → Prop} (hK : ∀ env h a w μ S, K env h → kk C μ h S env a w → Q .normal a w) (hd : ∀ o ∈ ops.toList, kn C.nt o = true) (A : List (Nat × Bool)) (hA : ∀ p, p ∈ A → p.1 < ops.size) :
  Snd P T C ops t Q (fun a6 env h => xr P T ops.toList t K A a6 env h) (A.map (·.1)) (fun l => bp ops t (l ++ A) = true) := by
 intro l a6 listed env h a w μ S hc cD hL hf hs
 obtain ⟨fv, sy, yi⟩ := hL
 rw [show l.length + (A.map (·.1)).length = (l ++ A).length from by simp]
 rw [← ary] at sy yi
 exact sn hT ops fY jU hK hd _ (l ++ A) a6 listed env h a w μ S rfl hc (fun p hp => by rcases aqW.1 hp with q | q; exact cD p q; exact hA p q) fv sy yi (po l a6 env h hf) hs
theorem Qt {ops : Array Oper} {t : List (Nat × List Nat)} {Q : Exit → Act → World → Prop} {E : List (Nat × List Nat) → Env → List ak → Prop} {R : List Nat} {c : List (Nat × Bool) → Prop} (hE : Snd P T C ops t Q E R c) (o1 : List (Nat × Bool)) (h1 : ∀ p, p ∈ o1 → p.1 < ops.size) :
  Snd P T C ops t Q (fun a6 env h => kD P T ops.toList t E o1 a6 env h) (o1.map (·.1) ++ R) (fun l => c (l ++ o1)) := by
 intro l a6 listed env h a w μ S hc cD hL hf hs
 have e : (l ++ o1).map (·.1) ++ R = l.map (·.1) ++ (o1.map (·.1) ++ R) := by simp
 have := hE (l ++ o1) a6 listed env h a w μ S hc (fun p hp => by rcases aqW.1 hp with q | q; exact cD p q; exact h1 p q) (by unfold Left; rw [e]; exact hL) (pq l a6 env h hf) hs
 rw [show l.length + (o1.map (·.1) ++ R).length = (l ++ o1).length + R.length from by simp; omega]
 exact this
structure BrC (ops : Array Oper) (t : List (Nat × List Nat)) (x y : Nat) (R : List Nat) (cX cY : List (Nat × Bool) → Prop) (l : List (Nat × Bool)) : Prop where
 pw : bp ops t l = true
 hd : ∀ p, p ∈ l → di ops t p (x, false) = true ∧ di ops t p (y, false) = true ∧ (∀ d, d ∈ bc ops.toList p.1 → d ∉ R) ∧ p.1 ∉ R
 x : cX l
 y : cY l
theorem M3 (hT : cd P T) (ops : Array Oper) {t : List (Nat × List Nat)} (fY : ∀ i x, iH (b8 t i) x = true → zP ops.toList x i) (jU : ∀ i, i < ops.size → ∀ d, d ∈ bc ops.toList i → d < ops.size ∧ d ≠ i)
  {Q : Exit → Act → World → Prop} (hd : ∀ o ∈ ops.toList, kn C.nt o = true) {x y : Nat} {RX RY : List Nat} {EX EY : List (Nat × List Nat) → Env → List ak → Prop} {cX cY : List (Nat × Bool) → Prop} (hEX : pr EX) (hEY : pr EY)
  (hX : Snd P T C ops t Q EX RX cX) (hY : Snd P T C ops t Q EY RY cY) (hcX : ∀ l1 p l2, cX (l1 ++ p :: l2) → cX (l1 ++ l2)) (hcY : ∀ l1 p l2, cY (l1 ++ p :: l2) → cY (l1 ++ l2))
  (hlen : RX.length = RY.length) (Qs : ∀ j, j ∈ x :: RX ↔ j ∈ y :: RY) (hxs : x < ops.size) (hxd : ∀ d, d ∈ bc ops.toList x → d ∉ x :: RX) (U8 : x ∉ RX) (U9 : y ∉ RY) (zS : ∀ j, j ∈ RX → j = y ∨ iH (b8 t j) x = true ∨ iH (b8 t j) y = true) :
  Snd P T C ops t Q (fun a6 env h => kD P T ops.toList t EX [(x, false)] a6 env h ∧ kD P T ops.toList t EY [(y, false)] a6 env h) (x :: RX) (BrC ops t x y (x :: RX) cX cY) := by
 have hE : pr (fun a6 env h => kD P T ops.toList t EX [(x, false)] a6 env h ∧ kD P T ops.toList t EY [(y, false)] a6 env h) := yk (lQ hEX _) (lQ hEY _)
 intro l
 generalize hn : l.length = n
 induction n generalizing l with
 | zero => ?z
 | succ n ih => ?s
 all_goals
  intro a6 listed env h a w μ S hc cD hL hf hs
  obtain ⟨fv, sy, yi⟩ := hL
  have U5 : ∀ d, d < ops.size → (listed.getD d false = true ↔ d ∉ l.map (·.1) ++ x :: RX) := fun d MT => by
   have := sy d MT
   have e : listed.getD d false = listed.getD d true := by simp [Array.getD, fv, MT]
   rw [e, ← this]
   cases listed.getD d true <;> simp
  refine ⟨fun h0 => ?_, fun i hi => ?_⟩
 case z.refine_1 | s.refine_1 =>
  exfalso
  have first : ∃ p, p < ops.size ∧ p ∈ l.map (·.1) ++ x :: RX ∧ ∀ d, d ∈ bc ops.toList p → d ∉ l.map (·.1) ++ x :: RX := by
   cases l with
   | nil => exact ⟨x, hxs, by simp, fun d x6 hm => hxd d x6 (by simpa using hm)⟩
   | cons p r =>
    have hp := cD p atw
    refine ⟨p.1, hp, by simp, fun d x6 hm => ?_⟩
    rw [aqW] at hm
    rcases hm with hm | hm
    ·simp only [adr, aqZ, ark] at hm
     rcases hm with rfl | ⟨q, hq, rfl⟩
     ·exact (jU _ hp _ x6).2 rfl
     ·exact wu (gF [] _ hc.pw hq) x6
    ·exact (hc.hd p atw).2.2.1 d x6 hm
  obtain ⟨p, hp, hpm, hpd⟩ := first
  have ho := arn hp
  have : p ∈ Region.ready .any ops listed := by
   rw [mem_ready]
   refine ⟨(sy p hp).2 hpm, _, ho, fun e he hb => ?_⟩
   have hm : e.on ∈ bc ops.toList p := (kC ho).2 ⟨e, he, hb, rfl⟩
   rw [U5 _ (jU p hp _ hm).1]
   exact hpd _ hm
  rw [h0] at this
  simp at this
 all_goals
  rw [mem_ready] at hi
  obtain ⟨h1, oi, qX, BU⟩ := hi
  have pG := (aqU.1 qX).1
  have uA : ops.toList[i]? = some oi := by simpa using qX
  have Dv : kn C.nt oi = true := hd oi auc
  have uz : ∀ d, d ∈ bc ops.toList i → d ∉ l.map (·.1) ++ x :: RX := fun d qc => by
   exact asW
  have qQ : ∀ z, zP ops.toList z i → z ∉ l.map (·.1) ++ x :: RX := by
   have gen : ∀ z j, zP ops.toList z j → j < ops.size → (∀ d, d ∈ bc ops.toList j → d ∉ l.map (·.1) ++ x :: RX) → z ∉ l.map (·.1) ++ x :: RX := fun z j ha => by
    induction ha with
    | base hx => exact fun _ hj => hj _ hx
    | step qc _ ih => exact fun hj hjd => ih (jU _ hj _ qc).1 (yi _ (jU _ hj _ qc).1 (hjd _ qc))
   exact fun z ha => gen z i ha pG uz
  have hyA : y ∈ x :: RX := (Qs y).2 atw
  have zT := (sy i pG).1 h1
  rw [aqW] at zT
  have split : i ∈ l.map (·.1) ∨ i = x ∨ i = y := by
   rcases zT with zT | zT
   ·exact .inl zT
   ·rcases aqZ.1 zT with rfl | hq
    ·exact .inr (.inl rfl)
    ·rcases zS i hq with h2 | h2 | h2
     ·exact .inr (.inr h2)
     ·exact absurd (by simp : x ∈ l.map (·.1) ++ x :: RX) (qQ _ (fY _ _ h2))
     ·exact absurd (by rw [aqW]; exact .inr hyA) (qQ _ (fY _ _ h2))
  have aqC : ∀ q, q ∈ l → q.1 ∉ x :: RX := fun q hq => (hc.hd q hq).2.2.2
  rcases split with zT | rfl | rfl
 case z.refine_2.inl => obtain rfl := List.length_eq_zero_iff.1 hn; simp at zT
 case s.refine_2.inl =>
  obtain ⟨p, hp, U6⟩ := ark.1 zT
  obtain ⟨l1, l2, rfl⟩ := asC hp
  obtain ⟨i', st⟩ := p
  simp only at U6
  subst U6
  obtain ⟨U7, hpw⟩ := fX l1 _ hc.pw
  have GV := pL hE (P := P) (T := T) (ops := ops) (t := t) uA l1 l2 a6 env h (fun q hq => ng fY (U7 q hq) (by rw [aqW]; exact .inl (ark.2 ⟨q, asa _ hq, rfl⟩)) uz qQ) hf
  have Du : i' ∉ (l1 ++ l2).map (·.1) ++ x :: RX := fun hm => by
   rw [aqW] at hm
   rcases hm with hm | hm
   ·obtain ⟨q, hq, he⟩ := ark.1 hm
    rcases aqW.1 hq with hq | hq
    ·exact ig (U7 q hq) he
    ·exact ig (gF l1 _ hc.pw hq) he.symm
   ·exact aqC (i', st) atw hm
  obtain ⟨r1, r2⟩ := nf (L' := (l1 ++ l2).map (·.1) ++ x :: RX) (fun j => by
   simp only [ary, adr, aqW, aqZ]
   constructor
   ·rintro ((h | h | h) | h)
    ·exact .inr (.inl (.inl h))
    ·exact .inl h
    ·exact .inr (.inl (.inr h))
    ·exact .inr (.inr h)
   ·rintro (h | (h | h) | h)
    ·exact .inl (.inr (.inl h))
    ·exact .inl (.inl h)
    ·exact .inl (.inr (.inr h))
    ·exact .inr h) Du fv sy yi uz
  have nd : mH P T ops.toList (fun env' h' => kD P T ops.toList t (fun a6 env h => kD P T ops.toList t EX [(x, false)] a6 env h ∧ kD P T ops.toList t EY [(y, false)] a6 env h) (l1 ++ l2) a6 env' h') [oi] env h := nT (cn (fun v h' hk => hk.2.2) GV)
  have TX : BrC ops t x y (x :: RX) cX cY (l1 ++ l2) := ⟨hpw, fun q hq => hc.hd q (by
   simp only [aqW, aqZ] at hq ⊢
   exact hq.imp id .inr), hcX _ _ _ hc.x, hcY _ _ _ hc.y⟩
  have q : wpOp P ops Q i' (wpAny P .any ops Q (n + (x :: RX).length) (listed.setIfInBounds i' true)) a w := jc hT ops (fun env' h' a' w' μ' S' hk iv => ih (l1 ++ l2) (by simp at hn ⊢; omega) a6 _ env' h' a' w' μ' S' TX (fun q hq => cD q (by
   simp only [aqW, aqZ] at hq ⊢
   exact hq.imp id .inr)) ⟨by simpa using fv, r1, r2⟩ hk iv) i' oi qX Dv env h a w μ S nd hs
  rw [show n + (x :: RX).length = n + 1 + RX.length from by simp; omega] at q
  exact q
 case z.refine_2.inr.inl | s.refine_2.inr.inl =>
  have oB : kD P T ops.toList t EX (l ++ [(i, false)]) a6 env h := pq l a6 env h (sr (fun _ _ _ q => q.1) l a6 env h hf)
  have GV := pL hEX (P := P) (T := T) (ops := ops) (t := t) uA l [] a6 env h (fun q hq => ng fY (hc.hd q hq).1 (by rw [aqW]; exact .inl (ark.2 ⟨q, hq, rfl⟩)) uz qQ) oB
  have Du : i ∉ l.map (·.1) ++ RX := fun hm => by
   rcases aqW.1 hm with hm | hm
   ·obtain ⟨q, hq, he⟩ := ark.1 hm
    exact ig (hc.hd q hq).1 he
   ·exact U8 hm
  obtain ⟨r1, r2⟩ := nf (L' := l.map (·.1) ++ RX) (fun j => by
   simp only [aqW, aqZ]
   constructor
   ·rintro (h | h | h)
    ·exact atn
    ·exact .inl h
    ·exact .inr (.inr h)
   ·rintro (h | h | h)
    ·exact atn
    ·exact .inl h
    ·exact .inr (.inr h)) Du fv sy yi uz
  have nd : mH P T ops.toList (fun env' h' => kD P T ops.toList t EX l a6 env' h') [oi] env h := nT (cn (fun v h' hk => by have := hk.2.2; rwa [asd] at this) GV)
  have q : wpOp P ops Q i (wpAny P .any ops Q (l.length + RX.length) (listed.setIfInBounds i true)) a w := jc hT ops (fun env' h' a' w' μ' S' hk iv => hX l a6 _ env' h' a' w' μ' S' hc.x cD ⟨by simpa using fv, r1, r2⟩ hk iv) i oi qX Dv env h a w μ S nd hs
  rw [hn] at q
  exact q
 case z.refine_2.inr.inr | s.refine_2.inr.inr =>
  have oB : kD P T ops.toList t EY (l ++ [(i, false)]) a6 env h := pq l a6 env h (sr (fun _ _ _ q => q.2) l a6 env h hf)
  have GV := pL hEY (P := P) (T := T) (ops := ops) (t := t) uA l [] a6 env h (fun q hq => ng fY (hc.hd q hq).2.1 (by rw [aqW]; exact .inl (ark.2 ⟨q, hq, rfl⟩)) uz qQ) oB
  have Du : i ∉ l.map (·.1) ++ RY := fun hm => by
   rcases aqW.1 hm with hm | hm
   ·obtain ⟨q, hq, he⟩ := ark.1 hm
    exact ig (hc.hd q hq).2.1 he
   ·exact U9 hm
  obtain ⟨r1, r2⟩ := nf (L' := l.map (·.1) ++ RY) (fun j => by
   rw [aqW, Qs j, aqW]
   simp only [aqZ]
   constructor
   ·rintro (h | h | h)
    ·exact atn
    ·exact .inl h
    ·exact .inr (.inr h)
   ·rintro (h | h | h)
    ·exact atn
    ·exact .inl h
    ·exact .inr (.inr h)) Du fv sy yi uz
  have nd : mH P T ops.toList (fun env' h' => kD P T ops.toList t EY l a6 env' h') [oi] env h := nT (cn (fun v h' hk => by have := hk.2.2; rwa [asd] at this) GV)
  have q : wpOp P ops Q i (wpAny P .any ops Q (l.length + RY.length) (listed.setIfInBounds i true)) a w := jc hT ops (fun env' h' a' w' μ' S' hk iv => hY l a6 _ env' h' a' w' μ' S' hc.y cD ⟨by simpa using fv, r1, r2⟩ hk iv) i oi qX Dv env h a w μ S nd hs
  rw [hn, ← hlen] at q
  exact q
theorem pz {ops : Array Oper} {t : List (Nat × List Nat)} : ∀ (l A : List (Nat × Bool)), bp ops t (l ++ A) = true → bp ops t l = true
 | [], _, _ => rfl
 | p :: l, A, h => by
  simp only [aqS, bp, As, aqX] at h ⊢
  exact ⟨fun q hq => h.1 q (asa _ hq), pz l A h.2⟩
theorem yl {ops : Array Oper} {t : List (Nat × List Nat)} {ord : List (Nat × Bool)} {x y : Nat} {RX RY : List Nat} (h : Qu ops t ord x y RX RY = true) :
  RX.length = RY.length ∧ (∀ p, p ∈ ord → di ops t p (x, false) = true ∧ di ops t p (y, false) = true ∧ (∀ d, d ∈ bc ops.toList p.1 → d ∉ x :: RX) ∧ p.1 ∉ x :: RX) ∧ (∀ j, j ∈ x :: RX ↔ j ∈ y :: RY) ∧
  (∀ d, d ∈ bc ops.toList x → d ∉ x :: RX) ∧ x ∉ RX ∧ y ∉ RY ∧ (∀ j, j ∈ RX → j = y ∨ iH (b8 t j) x = true ∨ iH (b8 t j) y = true) := by
 unfold Qu at h
 simp only [As] at h
 obtain ⟨⟨⟨⟨⟨⟨⟨h1, h2⟩, h3⟩, h4⟩, h5⟩, h6⟩, h7⟩, h8⟩ := h
 rw [aqX] at h2 h3 h4 h5 h8
 have no : ∀ (L : List Nat) (z : Nat), (!(iH L z)) = true → z ∉ L := fun L z hz hm => by rw [pJ _ _ hm] at hz; cases hz
 refine ⟨No h1, fun p hp => ?_, fun j => ⟨fun hj => jD _ _ (h3 j hj), fun hj => jD _ _ (h4 j hj)⟩, fun d hd => no _ _ (h5 d hd), no _ _ h6, no _ _ h7, fun j hj => ?_⟩
 ·have := h2 p hp
  rw [As, As, As, aqX] at this
  exact ⟨this.1.1.1, this.1.1.2, fun d qc => no _ _ (this.1.2 d qc), no _ _ this.2⟩
 ·have := h8 j hj
  rw [arD, arD] at this
  rcases this with (q | q) | q
  ·exact .inl (No q)
  ·exact .inr (.inl q)
  ·exact .inr (.inr q)
theorem GW (hT : cd P T) (ops : Array Oper) {ord : List (Nat × Bool)} {x : Nat} {o1 : List (Nat × Bool)} {x1 : Nat} {sA : List (Nat × Bool)} {y1 : Nat} {BV : List (Nat × Bool)} {y : Nat} {rb : List (Nat × Bool)} (hc : wv ops ord x o1 x1 sA y1 BV y rb = true)
  {K : Env → List ak → Prop} {Q : Exit → Act → World → Prop} (hK : ∀ env h a w μ S, K env h → kk C μ h S env a w → Q .normal a w) (hd : ∀ o ∈ ops.toList, kn C.nt o = true) {env : Env} {h : List ak} {a : Act} {w : World}
  (hf : fw3 P T ops.toList (p4 ops.toList (ord ++ (x, false) :: (o1 ++ (x1, false) :: sA)) []) x o1 x1 sA y1 BV y rb K ord [] env h) (hs : kk C μ h S env a w) : wpAny P .any ops Q ops.size (Array.replicate ops.size false) a w := by
 unfold wv at hc
 simp only [As] at hc
 obtain ⟨⟨⟨⟨⟨⟨⟨hlen, hcv⟩, kS⟩, Fh⟩, Nv⟩, T3⟩, lp⟩, nv⟩ := hc
 rw [aqX] at hcv kS
 have hlen := No hlen
 generalize ht : p4 ops.toList (ord ++ (x, false) :: (o1 ++ (x1, false) :: sA)) [] = t at *
 have fY : ∀ i x, iH (b8 t i) x = true → zP ops.toList x i := by rw [← ht]; exact pK _ [] (fun i x hx => by simp [b8, iH] at hx)
 generalize hal : ord ++ (x, false) :: (o1 ++ (x1, false) :: sA) = al at *
 have cD : ∀ p, p ∈ al → p.1 < ops.size := fun p hp => by
  have := kS p hp
  rw [As] at this
  exact arq this.1
 have wx : ∀ j, j < ops.size → j ∈ al.map (·.1) := fun j hj => jD _ _ (hcv j (asi.2 hj))
 have jU : ∀ i, i < ops.size → ∀ d, d ∈ bc ops.toList i → d < ops.size ∧ d ≠ i := fun i hi d qc => by
  obtain ⟨p, hp, rfl⟩ := ark.1 (wx i hi)
  have := kS p hp
  rw [As, aqX] at this
  have := this.2 d qc
  rw [As] at this
  exact ⟨arq this.1, fun he => by rw [he, arZ] at this; cases this.2⟩
 obtain ⟨b1, b2, b3, b4, b5, b6, b7⟩ := yl lp
 obtain ⟨c1, c2, c3, c4, c5, c6, c7⟩ := yl nv
 have mx : ∀ p, p ∈ ord ∨ p = (x, false) ∨ p ∈ o1 ∨ p = (x1, false) ∨ p ∈ sA → p.1 < ops.size := fun p hp => cD p (by
  rw [← hal]; simp only [aqW, aqZ]; exact hp)
 have mid : ∀ j, j ∈ x1 :: sA.map (·.1) → j < ops.size := fun j hj => by
  rcases aqZ.1 hj with rfl | hj
  ·exact mx (j, false) (.inr (.inr (.inr (.inl rfl))))
  ·obtain ⟨p, hp, rfl⟩ := ark.1 hj
   exact mx p (.inr (.inr (.inr (.inr hp))))
 have am9 : ∀ j, j ∈ x :: (o1.map (·.1) ++ x1 :: sA.map (·.1)) → j < ops.size := fun j hj => by
  rcases aqZ.1 hj with rfl | hj
  ·exact mx (j, false) (.inr (.inl rfl))
  ·rcases aqW.1 hj with hj | hj
   ·obtain ⟨p, hp, rfl⟩ := ark.1 hj
    exact mx p (.inr (.inr (.inl hp)))
   ·exact mid j hj
 have app : ∀ {A : List (Nat × Bool)} (l1 : List (Nat × Bool)) (p : Nat × Bool) (l2 : List (Nat × Bool)), bp ops t ((l1 ++ p :: l2) ++ A) = true → bp ops t ((l1 ++ l2) ++ A) = true := fun {A} l1 p l2 q => by
  rw [amb] at q ⊢
  exact (fX l1 _ q).2
 have s1 := zU (C := C) hT ops fY jU hK hd sA (fun p hp => mx p (.inr (.inr (.inr (.inr hp)))))
 have s2 := zU (C := C) hT ops fY jU hK hd BV (fun p hp => mid p.1 ((c3 p.1).2 (arh _ (ark.2 ⟨p, hp, rfl⟩))))
 have s3 := zU (C := C) hT ops fY jU hK hd rb (fun p hp => am9 p.1 ((b3 p.1).2 (arh _ (ark.2 ⟨p, hp, rfl⟩))))
 have in1 := M3 (C := C) hT ops fY jU hd (x := x1) (y := y1) (nh sA) (nh BV) s1 s2 app app c1 c3 (mid x1 atw) c4 c5 c6 c7
 have in2 := Qt in1 o1 (fun p hp => mx p (.inr (.inr (.inl hp))))
 have out := M3 (C := C) hT ops fY jU hd (x := x) (y := y) (lQ (yk (lQ (nh sA) _) (lQ (nh BV) _)) o1) (nh rb) in2 s3 (fun l1 p l2 q => by
  rw [amb] at q ⊢
  obtain ⟨q1, q2, q3, q4⟩ := q
  refine ⟨(fX l1 _ q1).2, fun r hr => q2 r ?_, ?_, ?_⟩
  ·simp only [aqW, aqZ] at hr ⊢
   rcases hr with hr | hr | hr
   ·exact .inl hr
   ·exact .inr (.inl (.inr hr))
   ·exact .inr (.inr hr)
  ·have q3 : bp ops t ((l1 ++ (p :: l2 ++ o1)) ++ sA) = true := q3
   show bp ops t ((l1 ++ (l2 ++ o1)) ++ sA) = true
   rw [amb] at q3 ⊢
   exact (fX l1 _ q3).2
  ·have q4 : bp ops t ((l1 ++ (p :: l2 ++ o1)) ++ BV) = true := q4
   show bp ops t ((l1 ++ (l2 ++ o1)) ++ BV) = true
   rw [amb] at q4 ⊢
   exact (fX l1 _ q4).2) app b1 b3 (am9 x atw) b4 b5 b6 b7
 have hR : ∀ j, j ∈ ord.map (·.1) ++ x :: (o1.map (·.1) ++ x1 :: sA.map (·.1)) ↔ j ∈ al.map (·.1) := fun j => by rw [← hal]; simp
 have fv : ops.size = ord.length + (x :: (o1.map (·.1) ++ x1 :: sA.map (·.1))).length := by rw [← hlen, ← hal]; simp
 have := out ord [] (Array.replicate ops.size false) env h a w μ S ⟨pz ord _ T3, b2, ⟨pz _ _ Fh, c2, Fh, Nv⟩, T3⟩ (fun p hp => mx p (.inl hp))
  ⟨by simp, fun j hj => ⟨fun _ => (hR j).2 (wx j hj), fun _ => by simp [Array.getD, hj]⟩, fun j hj hn => absurd ((hR j).2 (wx j hj)) hn⟩
  (mr (fun a6 env h q => ⟨mr (E := fun a6 env h => fw P T ops.toList t K ((x1, false) :: sA) a6 env h ∧ fw P T ops.toList t K ((y1, false) :: BV) a6 env h) (fun a6 env h q => ⟨jR _ _ _ _ q.1, jR _ _ _ _ q.2⟩) ((x, false) :: o1) a6 env h q.1, jR _ _ _ _ q.2⟩) ord [] env h hf) hs
 rw [← fv] at this
 exact this
theorem Qv {J : List (Nat × PV) → List ak → Prop} {env : Env} {h : List ak} {a : Act} {w : World} (hg : rZ C.h.length J env h) : ∀ {μ : Mu} {S : Nat → Prop}, kk C μ h S env a w → ∃ σ η μ3 S3, kk C μ3 η S3 (tn kG σ) a w ∧ J σ η := by
 induction hg with
 | mk σ η ht hj =>
  intro μ S hs
  obtain ⟨μ3, S3, hs3⟩ := tq hs ht
  exact ⟨σ, η, μ3, S3, hs3, hj⟩
 | ex h1 hx hk ih =>
  intro μ S hs
  obtain ⟨μ1, M4⟩ := hs.ex hx
  exact ih M4
 | ab id i j sub h1 ha hk ih =>
  intro μ S hs
  obtain ⟨F, M4⟩ := hs.ab ha
  exact ih F M4
theorem Qw {m : Nat} {A B : XQ → Env → List ak → Prop} {Q : XQ} {env : Env} {h : List ak} {a : Act} {w : World} {S : Nat → Prop} (hv : pg m A B Q env h) : ∀ {μ : Mu}, kk C μ h S env a w →
  ∃ μ' h', kk C μ' h' S env a w ∧ (A (XQ.then (B Q) Q) env h' ∨ ∃ J, A (XQ.then (rZ m J) Q) env h' ∧ ∀ σ η, J σ η → B Q (tn kG σ) η) := by
 induction hv with
 | direct hd => exact fun hs => ⟨_, _, hs, .inl hd⟩
 | cut J ha hb => exact fun hs => ⟨_, _, hs, .inr ⟨J, ha, hb⟩⟩
 | ex h1 hx hk ih =>
  intro μ hs
  obtain ⟨μ1, M4⟩ := hs.ex hx
  exact ih M4
 | ab id i j sub h1 ha hk ih =>
  intro μ hs
  obtain ⟨F, M4⟩ := hs.ab ha
  exact ih F M4
theorem ki (hT : cd P T) (qR : P.follows .mixedOrders = true) : ∀ (c : Code) (Q : XQ) (env : Env) (h : List ak) (a : Act) (w : World) (μ : Mu) (S : Nat → Prop),
  vc P T C.h.length c Q env h → codeOk C.nt c = true → kk C μ h S env a w → c.wp P (tl C Q) a w
 | .skip, Q, env, h, a, w, μ, S, hv, _, hs => wp_skip ⟨μ, h, S, env, hs, hv⟩
 | .label _, Q, env, h, a, w, μ, S, hv, _, hs => wp_label ⟨μ, h, S, env, hs, hv⟩
 | .exit _, Q, env, h, a, w, μ, S, hv, _, hs => wp_exit ⟨μ, h, S, env, hs, hv⟩
 | .ret, Q, env, h, a, w, μ, S, hv, _, hs => wp_ret ⟨μ, h, S, env, hs, hv⟩
 | .region id ops d, Q, env, h, a, w, μ, S, hv, ue, hs => by
  simp only [codeOk, As, aqX] at ue
  have hd : ∀ o ∈ ops.toList, kn C.nt o = true := ue.1
  cases d with
  | false =>
   refine wp_region_list (qN hT ops (Q := tl C Q) (fun env h a w μ S hq hs => ⟨μ, h, S, env, hs, hq⟩) ops.toList env h a w μ S hv hd hs)
  | true =>
   have quiet : qP P T ops.toList h (fun env' => Q .normal env' h) ops.toList env → (Code.region id ops true).wp P (tl C Q) a w := fun hv => by
    refine wp_region_quiet (C := bF w) qR (by simpa using ue.2) (bF.drew w) ?_
    exact nS hT ops h w μ S (fun env a hq hs w' hw' => ⟨μ, h, S, env, hs.agree hw', hq⟩) ops.toList env a hv hd hs
   have hv : (match ops.toList.all (fun o => ym o.op) with
    | true => qP P T ops.toList h (fun env' => Q .normal env' h) ops.toList env
    | false => qS P T C.h.length ops (fun env' h' => Q .normal env' h') env h) := hv
   split at hv
   ·exact quiet hv
   ·cases hv with
    | quiet hq => exact quiet hq
    | orders σ η hc uz hk =>
     refine wp_region_any qR ?_
     refine wo hT ops (C := C) (K := fun env' h' => pf C.h.length env' h' σ η) (Q := tl C Q) (fun env' h' a' w' μ' S' ht iv => ?_) hd ops.size _ [] env h a _ μ S hc (by simpa using uz) (hs.agree (bF.drew w))
     obtain ⟨μ2, S2, hs2⟩ := tq iv ht
     exact ⟨μ2, η, S2, _, hs2, hk⟩
    | aa2 ord x ra y rb hc hf =>
     refine wp_region_any qR ?_
     unfold BW at hc
     simp only [As] at hc
     obtain ⟨⟨⟨⟨⟨⟨⟨⟨⟨⟨⟨⟨hlen, ana⟩, hcv⟩, kS⟩, M0⟩, Va⟩, z7⟩, anb⟩, ane⟩, hxA⟩, U8⟩, U9⟩, zS⟩ := hc
     rw [aqX] at hcv kS z7 anb ane hxA zS
     have hlen := No hlen
     have cD : ∀ p, p ∈ ord ++ (x, false) :: ra → p.1 < ops.size := fun p hp => by
      have := kS p hp
      rw [As] at this
      exact arq this.1
     have wx : ∀ j, j < ops.size → j ∈ (ord ++ (x, false) :: ra).map (·.1) := fun j hj => jD _ _ (hcv j (asi.2 hj))
     have no : ∀ (L : List Nat) (z : Nat), (!(iH L z)) = true → z ∉ L := fun L z hz hm => by rw [pJ _ _ hm] at hz; cases hz
     rw [← hlen]
     exact M1 hT ops (C := C) (pK _ [] (fun i x hx => by simp [b8, iH] at hx)) (fun i hi d qc => by
      obtain ⟨p, hp, rfl⟩ := ark.1 (wx i hi)
      have := kS p hp
      rw [As, aqX] at this
      have := this.2 d qc
      rw [As] at this
      exact ⟨arq this.1, fun he => by rw [he, arZ] at this; cases this.2⟩)
      (No ana) (fun j => ⟨fun hj => jD _ _ (anb j hj), fun hj => jD _ _ (ane j hj)⟩) (fun d qc => no _ _ (hxA d qc)) (no _ _ U8) (no _ _ U9)
      (fun p hp => by
       have := zS p hp
       rw [arD, arD] at this
       rcases this with (h1 | h1) | h1
       ·exact .inl (No h1)
       ·exact .inr (.inl h1)
       ·exact .inr (.inr h1))
      (K := M5 Q) (Q := tl C Q) (fun env h a w μ S hq hs => ⟨μ, h, S, env, hs, hq⟩) hd ord.length ord [] _ env h a _ μ S rfl M0 Va (fun p hp => by
       have := z7 p hp
       rw [As, As, aqX] at this
       exact ⟨this.1.1, this.1.2, fun d qc => no _ _ (this.2 d qc)⟩) cD (by simp [hlen]) (fun j hj => ⟨fun _ => wx j hj, fun _ => by simp [Array.getD, hlen, hj]⟩) (fun j hj hn => absurd (wx j hj) hn) (pA _ _ _ _ hf) (hs.agree (bF.drew w))
    | aa3 ord x o1 x1 sA y1 BV y rb hc hf =>
     refine wp_region_any qR ?_
     exact GW (C := C) hT ops hc (K := M5 Q) (Q := tl C Q) (fun env h a w μ S hq hs => ⟨μ, h, S, env, hs, hq⟩) hd hf (hs.agree (bF.drew w))
    | float ord hc hf =>
     refine wp_region_any qR ?_
     unfold EK at hc
     simp only [As, aqX, arF] at hc
     obtain ⟨⟨⟨hlen, hcv⟩, kS⟩, hpo⟩ := hc
     have hlen := No hlen
     have cD : ∀ p, p ∈ ord → p.1 < ops.size := fun p hp => arq (kS p hp).1
     have hnd : (ord.map (·.1)).Nodup := by
      have : ∀ (l : List (Nat × Bool)), bp ops (p4 ops.toList ord []) l = true → (l.map (·.1)).Nodup := fun l => by
       induction l with
       | nil => simp
       | cons p r ih =>
        intro hh
        simp only [bp, As, aqX] at hh
        simp only [adr, List.nodup_cons]
        refine ⟨fun hm => ?_, ih hh.2⟩
        obtain ⟨q, hq, he⟩ := ark.1 hm
        have := hh.1 q hq
        unfold di at this
        simp only [As, arF] at this
        have := this.1.1
        rw [he, arZ] at this
        cases this
      exact this _ hpo
     have wx : ∀ j, j < ops.size → j ∈ ord.map (·.1) := fun j hj => jD _ _ (hcv j (asi.2 hj))
     exact sn hT ops (C := C) (pK ord [] (fun i x hx => by simp [b8, iH] at hx)) (fun i hi d qc => by
      obtain ⟨p, hp, rfl⟩ := ark.1 (wx i hi)
      have := (kS p hp).2 d qc
      exact ⟨arq this.1, fun he => by rw [he, arZ] at this; cases this.2⟩)
      (K := fun env' h' => Q .normal env' h') (Q := tl C Q) (fun env h a w μ S hq hs => ⟨μ, h, S, env, hs, hq⟩) hd ops.size ord [] _ env h a _ μ S hlen hpo cD atw (fun j hj => ⟨fun _ => wx j hj, fun _ => by simp [Array.getD, hj]⟩) (fun j hj hn => absurd (wx j hj) hn) (jR _ _ _ _ hf) (hs.agree (bF.drew w))
 | .seq x y, Q, env, h, a, w, μ, S, hv, ue, hs => by
  simp only [codeOk, As] at ue
  have hv : pg C.h.length (vc P T C.h.length x) (vc P T C.h.length y) Q env h := hv
  obtain ⟨μ, h, hs, hd | ⟨J, ha, hb⟩⟩ := Qw hv hs
  ·refine wp_seq (Code.wp_mono (fun e a' w' hl => ?_) (ki hT qR x _ env h a w μ S hd ue.1 hs))
   cases e with
   | normal =>
    obtain ⟨μ', h', S', env', iv, hq⟩ := hl
    exact ki hT qR y Q env' h' a' w' μ' S' hq ue.2 iv
   | exit id => exact hl
   | goto l => exact hl
   | ret => exact hl
   | panic ch => exact hl
   | outgrown => exact hl
  ·refine wp_seq (Code.wp_mono (fun e a' w' hl => ?_) (ki hT qR x _ env h a w μ S ha ue.1 hs))
   cases e with
   | normal =>
    obtain ⟨μ', h', S', env', iv, hg⟩ := hl
    obtain ⟨σ, η, μ3, S3, hs3, hj⟩ := Qv hg iv
    exact ki hT qR y Q _ η a' w' μ3 S3 (hb σ η hj) ue.2 hs3
   | exit id => exact hl
   | goto l => exact hl
   | ret => exact hl
   | panic ch => exact hl
   | outgrown => exact hl
 | .cond c x y, Q, env, h, a, w, μ, S, hv, ue, hs => by
  simp only [codeOk, As] at ue
  have hv : (match ev env c with
   | .bool t => ez t (vc P T C.h.length x Q env h) (vc P T C.h.length y Q env h)
   | _ => False) := hv
  have hc := bh hs.tmps c
  split at hv
  ·rename_i b he
   rw [he] at hc
   obtain ⟨h1, h2⟩ := iX hv
   exact wp_cond_split hc.j3 (fun hb => ki hT qR x Q env h a w μ S (h1 hb) ue.1 hs) (fun hb => ki hT qR y Q env h a w μ S (h2 hb) ue.2 hs)
  ·exact hv.elim
 | .block id c, Q, env, h, a, w, μ, S, hv, ue, hs => by
  refine wp_block (Code.wp_mono (fun e a' w' hl => ?_) (ki hT qR c _ env h a w μ S hv ue hs))
  cases e with
  | exit id' =>
   obtain ⟨μ', h', S', env', iv, hq⟩ := hl
   show if id' = id then tl C Q .normal a' w' else tl C Q (.exit id') a' w'
   simp only [XQ.inBlock] at hq
   by_cases hid : id' = id
   ·rw [if_pos hid]
    subst hid
    rw [show Nat.beq id' id' = true by simp] at hq
    exact ⟨μ', h', S', env', iv, hq⟩
   ·rw [if_neg hid]
    have : Nat.beq id' id = false := by
     cases hb : Nat.beq id' id with
     | true => exact (hid (No hb)).elim
     | false => rfl
    rw [this] at hq
    exact ⟨μ', h', S', env', iv, hq⟩
  | normal => exact hl
  | goto l => exact hl
  | ret => exact hl
  | panic ch => exact hl
  | outgrown => exact hl
 | .loop c, Q, env, h, a, w, μ, S, hv, ue, hs => by
  intro b k cs
  replace hv : mn C.h.length (fun next => vc P T C.h.length c (XQ.then next Q)) env h := hv
  have key : ∀ (a : Act) (w : World) (μ : Mu) (S : Nat → Prop), kk C μ h S env a w → ∃ e a' w', tl C Q e a' w' ∧ Arrives P (lone (b.at a (.code c :: .inLoop c :: k)) cs w) b k cs e a' w' := by
   clear hs
   induction hv with
   | take σ η ht hk ih =>
    intro a w μ S hs
    obtain ⟨μ0, S0, Zz⟩ := tq hs ht
    exact ih a w μ0 S0 Zz
   | ex h1 hx hk ih =>
    intro a w μ S hs
    obtain ⟨μ1, M4⟩ := hs.ex hx
    exact ih a w μ1 S M4
   | ab id i j sub h1 ha hk ih =>
    intro a w μ S hs
    obtain ⟨F, M4⟩ := hs.ab ha
    exact ih F a w μ S M4
   | step N hN hb ih =>
    intro a w μ S hs
    obtain ⟨e, a₁, w₁, hq, BX⟩ := ki hT qR c _ _ _ a w μ S hb ue hs b (.inLoop c :: k) cs
    cases e with
    | normal =>
     obtain ⟨μ2, h2, S2, aqP, hs2, hn⟩ := hq
     obtain ⟨e₂, a₂, w₂, hq₂, harr₂⟩ := ih _ _ hn a₁ w₁ μ2 S2 hs2
     exact ⟨e₂, a₂, w₂, hq₂, .of_steps (Steps.trans BX (.one step_inLoop)) harr₂⟩
    | exit id => exact ⟨_, a₁, w₁, hq, .pass (x := .inLoop c) rfl (fun _ _ => .inl atw) BX⟩
    | goto l => exact ⟨_, a₁, w₁, hq, .pass (x := .inLoop c) rfl (fun _ _ => .inl atw) BX⟩
    | ret => exact ⟨_, a₁, w₁, hq, .pass (x := .inLoop c) rfl (fun _ _ => .inl atw) BX⟩
    | panic ch => exact ⟨_, a₁, w₁, hq, .pass (x := .inLoop c) rfl (fun _ _ => .inl atw) BX⟩
    | outgrown => exact ⟨_, a₁, w₁, hq, .pass (x := .inLoop c) rfl (fun _ _ => .inl atw) BX⟩
  obtain ⟨e, a', w', hq, BX⟩ := key a w μ S hs
  exact ⟨e, a', w', hq, .of_steps (.one step_loop) BX⟩
 | .rangeFunc _ _ _ _, Q, env, h, a, w, μ, S, hv, _, _ => hv.elim
 | .scope _, Q, env, h, a, w, μ, S, hv, _, _ => hv.elim
 | .goto _, Q, env, h, a, w, μ, S, hv, _, _ => hv.elim
 | .refuse _, Q, env, h, a, w, μ, S, hv, _, _ => hv.elim
theorem M6 (hT : cd P T) (hH : bx μ h S w) (t : Nat) (px : PV) (v : Value) (hx : aZ μ h S w px v) {K : PV → Prop} (hp : rO T t px h K) : ∃ pv val, K pv ∧ aZ μ h S w pv val ∧ (do loadVar t (← asAddr v) : Sem Value).run P w = .ok val w := by
 obtain ⟨pv, val, hK, hv, hr⟩ := vy (P := P) (dst := none) (ty := 0) (pos := "") (after := #[]) (guard := none) (a := ⟨#[v], []⟩) hT hH t (.tmp 0) px (by simpa [Act.eval] using hx) hp
 refine ⟨pv, val, hK, hv, ?_⟩
 have := hr w (bF.refl w)
 have he : (execOp (Act.eval ⟨#[v], []⟩) ⟨none, .load t (.tmp 0), 0, "", #[], none⟩) = (do pure (Next.value (← Instr.loadAt t v)) : Sem Next) := rfl
 rw [he] at this
 have aqD : ∃ ad, v = .pointer (some ad) := by
  unfold rO at hp
  split at hp
  ·obtain ⟨b, off, vf, e1, _⟩ := hx.rI; exact ⟨_, e1⟩
  ·rename_i id gen i off
   split at hp
   ·rename_i g sz n e f hg
    obtain ⟨rfl, _⟩ := hp
    have hr := hx.oV
    unfold a7 at hr
    rw [dK hg] at hr
    obtain ⟨_, _, hr⟩ := hr
    obtain ⟨_, b, base, _, _, hv⟩ := hr rfl
    exact ⟨_, hv⟩
   ·exact asZ
  ·exact asZ
 obtain ⟨ad, rfl⟩ := aqD
 simp only [Instr.loadAt, Instr.sureAddr, asAddr, Sem.run_bind, Sem.run_pure, Result.andThen_ok] at this ⊢
 cases hl : (loadVar t ad).run P w with
 | ok u w' =>
  rw [hl] at this
  simp only [Result.andThen] at this
  injection this with h1 h2
  injection h1 with h1
  rw [h1, h2]
 | halt x w' => rw [hl] at this; cases this
theorem mJ (hT : cd P T) (hs : kk C μ h S env a w) : ∀ (rs : List ResultVar) (K : List PV → Prop), pM T env h rs K → ∃ (vs : List PV) (us : List Value), K vs ∧ us.length = vs.length ∧ (∀ (j : Nat) (pv : PV), vs[j]? = some pv → ∃ u, us[j]? = some u ∧ aZ μ h S w pv u) ∧
  (rs.mapM (fun | .tmp t => pure (a.tmps.getD t undef) | .cell ad t => (do loadVar t (← asAddr (a.tmps.getD ad undef))) : ResultVar → Sem Value)).run P w = .ok us w
 | [], K, hp => ⟨[], [], hp, rfl, fun j pv hj => by simp at hj, rfl⟩
 | .tmp t :: r, K, hp => by
  obtain ⟨vs, us, hK, h1, h2, h3⟩ := mJ hT hs r _ hp
  refine ⟨env t :: vs, a.tmps.getD t undef :: us, hK, by simp [h1], fun j pv hj => ?_, ?_⟩
  ·cases j with
   | zero => simp at hj; subst hj; exact ⟨_, rfl, hs.tmps t⟩
   | succ j => simp at hj; obtain ⟨u, q1, q2⟩ := h2 j pv hj; exact ⟨u, by simpa using q1, q2⟩
  ·simp only [List.mapM_cons, Sem.run_bind, Sem.run_pure, Result.andThen_ok, h3]
 | .cell ad t :: r, K, hp => by
  obtain ⟨pv, val, hK, hv, hr⟩ := M6 hT hs.core.heap t _ _ (hs.tmps ad) hp
  obtain ⟨vs, us, hK, h1, h2, h3⟩ := mJ hT hs r _ hK
  refine ⟨pv :: vs, val :: us, hK, by simp [h1], fun j ef hj => ?_, ?_⟩
  ·cases j with
   | zero => simp at hj; subst hj; exact ⟨_, rfl, hv⟩
   | succ j => simp at hj; obtain ⟨u, q1, q2⟩ := h2 j ef hj; exact ⟨u, by simpa using q1, q2⟩
  ·simp only [List.mapM_cons, Sem.run_bind, hr, Result.andThen_ok, h3, Sem.run_pure]
end
section
variable {P : Program} {T : lu}
def valOf : List Value → Value
 | [v] => v
 | us => .tuple us.toArray
theorem BY {fn : Func} {tmps : Array Value} {us : List Value} {w : World}
  (hm : (fn.results.toList.mapM (fun | .tmp t => pure (tmps.getD t undef) | .cell ad t => (do loadVar t (← asAddr (tmps.getD ad undef))) : ResultVar → Sem Value)).run P w = .ok us w) :
  (results fn tmps).run P w = .ok (valOf us) w := by
 unfold results
 rw [Array.mapM_eq_mapM_toList]
 simp only [map_eq_pure_bind, bind_assoc, pure_bind, Sem.run_bind]
 have key : ∀ X : Result (List Value), X = .ok us w → (X.andThen fun a w' => Sem.run P (pure (if h : a.toArray.size = 1 then a.toArray[0] else Value.tuple a.toArray)) w') = .ok (valOf us) w := by
  rintro _ rfl
  simp only [Result.andThen_ok, Sem.run_pure]
  congr 1
  match us with
  | [] => rfl
  | [v] => rfl
  | v :: u :: r => simp [valOf]
 exact key _ hm
theorem M7 {C : Start} {m : Nat} {R : PV → List ak → Prop} {env : Env} {h : List ak} {a : Act} {w : World} {S : Nat → Prop} {vs : List PV} {us : List Value} (hE : Ends m R h vs) : ∀ {μ : Mu}, kk C μ h S env a w →
  (∀ (j : Nat) (pv : PV), vs[j]? = some pv → ∃ u, us[j]? = some u ∧ aZ μ h S w pv u) → ∃ μ' h', kk C μ' h' S env a w ∧ (∀ (j : Nat) (pv : PV), vs[j]? = some pv → ∃ u, us[j]? = some u ∧ aZ μ' h' S w pv u) ∧
   vs.all kg = true ∧ ∃ (k : List Nat) (res : PV) (η : List ak), la (kW η k) = true ∧ m ≤ k.length ∧ Fz h' η k (oneOf vs) res ∧ lN h' η k m 0 η k ∧ R res η := by
 induction hE with
 | mk hn k res η hk hm hz hh hR => exact fun hs h2 => ⟨_, _, hs, h2, hn, k, res, η, hk, hm, hz, hh, hR⟩
 | ex h1 hx hk ih =>
  intro μ hs h2
  obtain ⟨μ1, hf, hc⟩ := EI hs.core hx
  exact ih (hs.turn hf hc) (fun j pv hj => let ⟨u, q1, q2⟩ := h2 j pv hj; ⟨u, q1, q2.fr hf hs.core.ok⟩)
 | ab id i j sub h1 ha hk ih =>
  intro μ hs h2
  obtain ⟨hf, hc⟩ := EJ hs.core (ha (FAb μ _ sub))
  exact ih _ (hs.turn hf hc) (fun j pv hj => let ⟨u, q1, q2⟩ := h2 j pv hj; ⟨u, q1, q2.fr hf hs.core.ok⟩)
theorem ACall.amX (hT : cd P T) (qR : P.follows .mixedOrders = true) {f : FuncId} {fn : Func} {c : Code} (hf : P.funcs[f]? = some fn) (hb : fn.body = some c) (r7 : (fn.name == "runtime.NumGoroutine") = false)
  (args : List PV) (h : List ak) (R : PV → List ak → Prop) (hn : Nat.ble args.length fn.ntmps = true) (ue : codeOk fn.ntmps c = true)
  (hv : vc P T h.length c (amW T fn.results.toList h.length R) (pj args) h) : ACall P f args h R := by
 refine ⟨⟨fn, c, hf, hb, r7⟩, fun w vs μ S hH hM fv mM => ?_⟩
 have hn := arq hn
 let C : Start := ⟨μ, h, S, w, fn.ntmps⟩
 have hs : kk C μ h S (pj args) ⟨vs ++ Array.replicate (fn.ntmps - vs.size) undef, []⟩ w := by
  refine ⟨⟨hH, hM⟩, Fr.refl, fun t => ?_, by simp; show _ = fn.ntmps; omega, fun t ht => ?_, rfl⟩
  ·unfold pj
   rw [ard]
   cases ha : args[t]? with
   | none => trivial
   | some pv =>
    obtain ⟨v, h1, h2⟩ := mM t pv ha
    have cD : t < vs.size := (aqU.1 h1).1
    have : (vs ++ Array.replicate (fn.ntmps - vs.size) undef).getD t undef = v := by
     rw [Array.getD_eq_getD_getElem?, arJ cD, h1]; rfl
    simp only [asG]
    rw [this]
    exact aZ.Qk h2
  ·unfold pj
   rw [ard, arB]
   ·rfl
   ·exact arO hn ht
 refine calls_of_wp hf hb ?_
 refine Code.wp_mono (fun e a' w' hl => ?_) (ki (C := C) hT qR c _ _ h _ w μ S hv ue hs)
 obtain ⟨μ', h', S', env', iv, hq⟩ := hl
 have fin : pM T env' h' fn.results.toList (Ends h.length R h') → a'.defers = [] ∧ ∃ v, (results fn a'.tmps).run P w' = .ok v w' ∧
   (∃ (v' : Value) (res : PV) (Qx : List ak) (μ'' : Mu) (S'' : Nat → Prop), Ending.returned v = .returned v' ∧ R res Qx ∧ aZ μ'' Qx S'' w' res v' ∧ bx μ'' Qx S'' w' ∧ nC μ'' Qx S'' w' ∧ Fr μ h S w μ'' Qx S'' w') := fun hr => by
  obtain ⟨Vb, us, hE, h1, h2, h3⟩ := mJ hT iv _ _ hr
  refine ⟨iv.defers, _, BY h3, ?_⟩
  obtain ⟨μ', h', iv, h2, U1, k, res, η, hk, hm, hz, hh, hR⟩ := M7 hE iv h2
  have hvr : aZ μ' h' S' w' (oneOf Vb) (valOf us) := by
   have key : (∀ v, Vb ≠ [v]) → aZ μ' h' S' w' (oneOf Vb) (valOf us) := fun nq => by
    have e1 : oneOf Vb = .aV Vb := by
     match Vb, nq with
     | [], _ => rfl
     | [v], nq => exact (nq v rfl).elim
     | a :: b :: r, _ => rfl
    have e2 : valOf us = .tuple us.toArray := by
     match us, h1 with
     | [], _ => rfl
     | [v], h1 =>
      match Vb, h1, nq with
      | [x], _, nq => exact (nq x rfl).elim
     | a :: b :: r, _ => rfl
    rw [e1, e2]
    refine ⟨_, rfl, by simpa using h1, fun j pv hj => ?_⟩
    obtain ⟨u, q1, q2⟩ := h2 j pv hj
    refine ⟨u, by simpa using q1, ?_⟩
    have hp : kg pv = true := (aqX.1 U1) pv (ari hj)
    cases pv with
    | aV ps => cases hp
    | _ => exact q2
   match Vb, us, h1 with
   | [v], [u], _ =>
    obtain ⟨u', q1, q2⟩ := h2 0 v rfl
    simp at q1
    subst q1
    exact q2
   | [], us, _ => exact key (fun v hv => by cases hv)
   | a :: b :: r, us, _ => exact key (fun v hv => by cases hv)
  obtain ⟨mP, _, _⟩ := sj iv.core hh hk
  exact ⟨_, res, η, jK μ' h' k, yg μ' h' k S', rfl, hR, (pn iv.core hh hz).2.2 _ hvr, mP.heap, mP.ok, U2 (C := C) iv.core iv.fr hh hk hm⟩
 cases e with
 | ret => exact fin hq
 | normal => exact fin hq
 | exit id => exact hq.elim
 | goto l => exact hq.elim
 | panic ch => exact hq.elim
 | outgrown => exact hq.elim
theorem ACall.mono {f : FuncId} {args : List PV} {h : List ak} {R R' : PV → List ak → Prop} (hc : ACall P f args h R) (hr : ∀ res h', R res h' → R' res h') : ACall P f args h R' :=
 ⟨hc.1, fun w vs μ S hH hM fv ha => (hc.2 w vs μ S hH hM fv ha).mono fun e w' ⟨v, res, h', μ', S', he, hR, rest⟩ => ⟨v, res, h', μ', S', he, hr _ _ hR, rest⟩⟩
end
def lM (N : Nat) : PV → PV
 | .own id gen off len => .own (N + id) gen off len
 | .aL id gen i off => .aL (N + id) gen i off
 | .kR id => .kR (N + id)
 | .kZ f bq => .kZ f (nU (N + ·) bq)
 | v => v
def Dy (N : Nat) : PV → PV
 | .agg cs => .agg (cs.map (lM N))
 | v => lM N v
def pe (N : Nat) : PV → PV
 | .aV vs => .aV (vs.map (Dy N))
 | v => Dy N v
def fC (N : Nat) : ak → ak
 | .row g sz n e f => .row g sz n e (fun i => (f i).map (lM N))
 | .dead => .dead
def Mw : PV → Bool
 | .agg cs => cs.all bZ
 | v => bZ v
def lO : PV → Bool
 | .er _ _ _ => false
 | .dX _ => false
 | .fh _ _ _ _ _ => false
 | _ => true
def Vc : PV → Bool
 | .agg cs => cs.all lO
 | v => lO v
def Eu : PV → Bool
 | .aV vs => vs.all Vc
 | v => Vc v
def Mk : ak → Prop
 | .row _ _ n _ f => ∀ i, i < n → (f i).all lO = true
 | .dead => True
section
variable {P : Program} {T : lu} {μ μ0 : Mu} {h h0 : List ak} {S S0 S' : Nat → Prop} {w w' : World}
def im (μ : Mu) (N : Nat) (μ0 : Mu) : Mu := fun id => if id < N then μ id else μ0 (id - N)
theorem tS {N : Nat} {a : PV} (h : ir a = true) : lM N a = a := by cases a <;> first | rfl | cases h
theorem lr (N : Nat) (hN : h.length = N) (id : Nat) : (h ++ h0.map (fC N))[N + id]? = (h0[id]?).map (fC N) := by
 subst hN
 rw [aro atu, asv, arl]
theorem nV (N id : Nat) : im μ N μ0 (N + id) = μ0 id := by
 unfold im
 rw [if_neg atu, asv]
theorem cN (G : PV → Prop) (hG : ∀ pv v, G pv → aE S0 w' pv v → aE S' w' pv v) {pv : PV} {v : Value} (hg : G pv) (hc : bn μ0 h0 S0 w' pv v) :
  bn (im μ h.length μ0) (h ++ h0.map (fC h.length)) S' w' (lM h.length pv) v := by
 have pB : ∀ (id gen i off : Nat) (v : Value), a7 μ0 h0 w' id gen i off v → a7 (im μ h.length μ0) (h ++ h0.map (fC h.length)) w' (h.length + id) gen i off v := fun id gen i off v hc => by
  unfold a7 at hc ⊢
  rw [lr _ rfl, nV]
  obtain ⟨h1, h2⟩ := hc
  refine ⟨h1, ?_⟩
  cases ho : h0[id]? with
  | none => rw [ho] at h2; exact h2
  | some o =>
   rw [ho] at h2
   cases o with
   | dead => trivial
   | row g sz n e f => exact h2
 cases pv with
 | own id gen off len =>
  have hc : aX μ0 h0 w' id gen off len v := hc
  show aX _ _ _ (h.length + id) gen off len v
  unfold aX at hc ⊢
  rw [lr _ rfl, nV]
  obtain ⟨h1, h2⟩ := hc
  refine ⟨h1, ?_⟩
  cases ho : h0[id]? with
  | none => rw [ho] at h2; exact h2
  | some o =>
   rw [ho] at h2
   cases o with
   | dead => trivial
   | row g sz n e f => exact h2
 | aL id gen i off => exact pB _ _ _ _ _ hc
 | kZ f bq => exact oh.map (O := fun id g u => a7 (im μ h.length μ0) (h ++ h0.map (fC h.length)) w' id g 0 0 u) (oh.mono (show k8 μ0 h0 w' f bq v from hc) (fun id g u hu => pB id g 0 0 u hu))
 | kR id =>
  have hc : eu μ0 h0 w' id v := hc
  show eu _ _ _ (h.length + id) v
  unfold eu at hc ⊢
  rw [lr _ rfl, nV]
  obtain ⟨h1, h2⟩ := hc
  refine ⟨h1, ?_⟩
  cases ho : h0[id]? with
  | none => rw [ho] at h2; exact h2
  | some o =>
   rw [ho] at h2
   cases o with
   | dead => trivial
   | row g sz n e f => exact h2
 | fP => exact hc
 | fh sz n e f F => exact hc
 | agg cs => exact (show False from hc).elim
 | aV cs => exact (show False from hc).elim
 | int k n => exact hG _ _ hg hc
 | bool b => exact hG _ _ hg hc
 | str s => exact hG _ _ hg hc
 | bf => exact hG _ _ hg hc
 | dt => exact hG _ _ hg hc
 | er sz n f => exact hG _ _ hg hc
 | dX cs => exact hG _ _ hg hc
 | fn f => exact hG _ _ hg hc
theorem cO (G : PV → Prop) (hG : ∀ pv v, G pv → aE S0 w' pv v → aE S' w' pv v) {pv : PV} {v : Value} (hg : match pv with | .agg cs => ∀ c ∈ cs, G c | v => G v) (hc : gn μ0 h0 S0 w' pv v) :
  gn (im μ h.length μ0) (h ++ h0.map (fC h.length)) S' w' (Dy h.length pv) v := by
 cases pv with
 | agg cs =>
  obtain ⟨vs, h1, h2, h3⟩ := hc
  refine ⟨vs, h1, by simpa using h2, fun j pv hj => ?_⟩
  rw [arl] at hj
  cases hx : cs[j]? with
  | none => rw [hx] at hj; cases hj
  | some c =>
   rw [hx] at hj
   injection hj with hj
   subst hj
   obtain ⟨u, q1, q2⟩ := h3 j c hx
   exact ⟨u, q1, cN G hG (hg c (ari hx)) q2⟩
 | fP => trivial
 | fh sz n e f F => exact cN (μ := μ) (μ0 := μ0) (h := h) (h0 := h0) (pv := .fh sz n e f F) G hG hg hc
 | aV cs => exact (show False from hc).elim
 | own id gen off len => exact cN (μ := μ) (μ0 := μ0) (h := h) (h0 := h0) (pv := .own id gen off len) G hG hg hc
 | aL id gen i off => exact cN (μ := μ) (μ0 := μ0) (h := h) (h0 := h0) (pv := .aL id gen i off) G hG hg hc
 | kR id => exact cN (μ := μ) (μ0 := μ0) (h := h) (h0 := h0) (pv := .kR id) G hG hg hc
 | kZ f bq => exact cN (μ := μ) (μ0 := μ0) (h := h) (h0 := h0) (pv := .kZ f bq) G hG hg hc
 | int k n => exact cN (μ := μ) (μ0 := μ0) (h := h) (h0 := h0) (pv := .int k n) G hG hg hc
 | bool b => exact cN (μ := μ) (μ0 := μ0) (h := h) (h0 := h0) (pv := .bool b) G hG hg hc
 | str s => exact cN (μ := μ) (μ0 := μ0) (h := h) (h0 := h0) (pv := .str s) G hG hg hc
 | bf => exact cN (μ := μ) (μ0 := μ0) (h := h) (h0 := h0) (pv := .bf) G hG hg hc
 | dt => exact cN (μ := μ) (μ0 := μ0) (h := h) (h0 := h0) (pv := .dt) G hG hg hc
 | er sz n f => exact cN (μ := μ) (μ0 := μ0) (h := h) (h0 := h0) (pv := .er sz n f) G hG hg hc
 | dX cs => exact cN (μ := μ) (μ0 := μ0) (h := h) (h0 := h0) (pv := .dX cs) G hG hg hc
 | fn f => exact cN (μ := μ) (μ0 := μ0) (h := h) (h0 := h0) (pv := .fn f) G hG hg hc
def Qy (G : PV → Prop) : PV → Prop
 | .aV vs => ∀ v ∈ vs, (match v with | .agg cs => ∀ c ∈ cs, G c | v => G v)
 | .agg cs => ∀ c ∈ cs, G c
 | v => G v
theorem wy (G : PV → Prop) (hG : ∀ pv v, G pv → aE S0 w' pv v → aE S' w' pv v) {pv : PV} {v : Value} (hg : Qy G pv) (hc : aZ μ0 h0 S0 w' pv v) :
  aZ (im μ h.length μ0) (h ++ h0.map (fC h.length)) S' w' (pe h.length pv) v := by
 cases pv with
 | aV cs =>
  obtain ⟨vs, h1, h2, h3⟩ := hc
  refine ⟨vs, h1, by simpa using h2, fun j pv hj => ?_⟩
  rw [arl] at hj
  cases hx : cs[j]? with
  | none => rw [hx] at hj; cases hj
  | some c =>
   rw [hx] at hj
   injection hj with hj
   subst hj
   obtain ⟨u, q1, q2⟩ := h3 j c hx
   exact ⟨u, q1, cO G hG (hg c (ari hx)) q2⟩
 | agg cs => exact cO (μ := μ) (μ0 := μ0) (h := h) (h0 := h0) (pv := .agg cs) G hG hg hc
 | fP => trivial
 | fh sz n e f F => exact cO (μ := μ) (μ0 := μ0) (h := h) (h0 := h0) (pv := .fh sz n e f F) G hG hg hc
 | own id gen off len => exact cO (μ := μ) (μ0 := μ0) (h := h) (h0 := h0) (pv := .own id gen off len) G hG hg hc
 | aL id gen i off => exact cO (μ := μ) (μ0 := μ0) (h := h) (h0 := h0) (pv := .aL id gen i off) G hG hg hc
 | kR id => exact cO (μ := μ) (μ0 := μ0) (h := h) (h0 := h0) (pv := .kR id) G hG hg hc
 | kZ f bq => exact cO (μ := μ) (μ0 := μ0) (h := h) (h0 := h0) (pv := .kZ f bq) G hG hg hc
 | int k n => exact cO (μ := μ) (μ0 := μ0) (h := h) (h0 := h0) (pv := .int k n) G hG hg hc
 | bool b => exact cO (μ := μ) (μ0 := μ0) (h := h) (h0 := h0) (pv := .bool b) G hG hg hc
 | str s => exact cO (μ := μ) (μ0 := μ0) (h := h) (h0 := h0) (pv := .str s) G hG hg hc
 | bf => exact cO (μ := μ) (μ0 := μ0) (h := h) (h0 := h0) (pv := .bf) G hG hg hc
 | dt => exact cO (μ := μ) (μ0 := μ0) (h := h) (h0 := h0) (pv := .dt) G hG hg hc
 | er sz n f => exact cO (μ := μ) (μ0 := μ0) (h := h) (h0 := h0) (pv := .er sz n f) G hG hg hc
 | dX cs => exact cO (μ := μ) (μ0 := μ0) (h := h) (h0 := h0) (pv := .dX cs) G hG hg hc
 | fn f => exact cO (μ := μ) (μ0 := μ0) (h := h) (h0 := h0) (pv := .fn f) G hG hg hc
theorem yn (hH : bx μ h S w) (hM : nC μ h S w) {μc : Mu} {Sc : Nat → Prop} (hF : Fr μc [] Sc w μ0 h0 S0 w') (Vd : bx μ0 h0 S0 w') (z8 : nC μ0 h0 S0 w')
  (G : PV → Prop) (hG : ∀ pv v, G pv → aE S0 w' pv v → aE S' w' pv v) (anf : ∀ (id g sz n : Nat) (e : TypeId) (f : Nat → List PV), h0[id]? = some (ak.row g sz n e f) → ∀ i, i < n → ∀ c ∈ f i, (eA c = false → G c) ∧ (eA c = true → OG G c))
  (hS1 : ∀ b, S b → S' b) (hS2 : ∀ b, S' b → S b ∨ w.heap.size ≤ b) (hS3 : ∀ b, S' b → b < w'.heap.size) (hS4 : ∀ b, S' b → ¬ bH μ0 h0 b) :
  bx (im μ h.length μ0) (h ++ h0.map (fC h.length)) S' w' ∧ nC (im μ h.length μ0) (h ++ h0.map (fC h.length)) S' w' ∧ Fr μ h S w (im μ h.length μ0) (h ++ h0.map (fC h.length)) S' w' := by
 have w9 : ∀ b, ¬ bH μc [] b := fun b => jg
 have iu : ∀ b, b < w.heap.size → w'.heap[b]? = w.heap[b]? := fun b hb => hF.blocks b hb (w9 b)
 have Dz : ∀ b, bH μ0 h0 b → w.heap.size ≤ b := fun b hb => (hF.own b hb).resolve_left (w9 b)
 have mi : ∀ id o, h[id]? = some o → (h ++ h0.map (fC h.length))[id]? = some o ∧ im μ h.length μ0 id = μ id := fun id o hid => by
  have cD := (At.1 hid).1
  exact ⟨by rw [aru cD]; exact hid, by unfold im; rw [if_pos cD]⟩
 have inv : ∀ (id g sz n : Nat) (e : TypeId) (f : Nat → List PV), (h ++ h0.map (fC h.length))[id]? = some (ak.row g sz n e f) →
   (h[id]? = some (ak.row g sz n e f) ∧ im μ h.length μ0 id = μ id) ∨ ∃ wK f0, id = h.length + wK ∧ h0[wK]? = some (ak.row g sz n e f0) ∧ im μ h.length μ0 id = μ0 wK ∧ f = fun i => (f0 i).map (lM h.length) := fun id g sz n e f hid => by
  rcases arP id h.length with cD | NG
  ·rw [aru cD] at hid
   exact .inl ⟨hid, by unfold im; rw [if_pos cD]⟩
  ·obtain ⟨wK, rfl⟩ : ∃ wK, id = h.length + wK := ⟨id - h.length, by omega⟩
   rw [lr _ rfl] at hid
   cases ho : h0[wK]? with
   | none => rw [ho] at hid; cases hid
   | some o =>
    rw [ho] at hid
    cases o with
    | dead => cases hid
    | row g0 Qo n0 e0 f0 =>
     injection hid with hid
     injection hid with e1 e2 e3 e4 e5
     subst e1 e2 e3 e4 e5
     exact .inr ⟨wK, f0, rfl, ho, nV _ _, rfl⟩
 have ux : ∀ b, xc (im μ h.length μ0) (h ++ h0.map (fC h.length)) b → xc μ h b ∨ xc μ0 h0 b := fun b ⟨id, g, sz, n, e, f, base, hid, hm⟩ => by
  rcases inv id g sz n e f hid with ⟨h1, h2⟩ | ⟨wK, f0, rfl, h1, h2, _⟩
  ·rw [h2] at hm; exact .inl ⟨id, g, sz, n, e, f, base, h1, hm⟩
  ·rw [h2] at hm; exact .inr ⟨wK, g, sz, n, e, f0, base, h1, hm⟩
 have aqE : ∀ {c : PV} {sz n : Nat} {e : TypeId} {f : Nat → List PV} {F : Nat → Prop}, lM h.length c = .fh sz n e f F → c = .fh sz n e f F := fun {c} _ _ _ _ _ hc => by
  cases c <;> first | exact hc | cases hc
 have lY : ∀ id i j b, cA (h ++ h0.map (fC h.length)) id i j b → cA h id i j b ∨ ∃ wK, id = h.length + wK ∧ cA h0 wK i j b := fun id i j b ⟨g, sz, n, e, f, bu, n', e', f', F', q1, q2, q3, q4⟩ => by
  rcases inv id g sz n e f q1 with ⟨h1, h2⟩ | ⟨wK, f0, rfl, h1, h2, rfl⟩
  ·exact .inl ⟨_, _, _, _, _, _, _, _, _, _, h1, q2, q3, q4⟩
  ·rw [arl] at q3
   cases hx : (f0 i)[j]? with
   | none => rw [hx] at q3; cases q3
   | some c =>
    rw [hx] at q3
    injection q3 with q3
    rw [aqE q3] at hx
    exact .inr ⟨wK, rfl, _, _, _, _, _, _, _, _, _, _, h1, q2, hx, q4⟩
 have kh : ∀ b, bH (im μ h.length μ0) (h ++ h0.map (fC h.length)) b → bH μ h b ∨ bH μ0 h0 b := fun b hb => by
  rcases hb with hb | ⟨x, y, z, hb⟩
  ·exact (ux b hb).imp .inl .inl
  ·rcases lY x y z b hb with q | ⟨_, _, q⟩
   ·exact .inl (.inr ⟨_, _, _, q⟩)
   ·exact .inr (.inr ⟨_, _, _, q⟩)
 have jk : Fr μ h S w (im μ h.length μ0) (h ++ h0.map (fC h.length)) S' w' := by
  refine ⟨by simp, fun b hb _ => iu b hb, hS1, fun b hb => (hS2 b hb).imp id .inr, fun b hb => (kh b hb).imp id (Dz b), hF.size, hF.os, hF.tape, hF.output, fun id g sz n e f hid => ?_, fun id hid => (mi id _ hid).1, fun b k hb hc => iq.of_same (iu b hc.lt) hc, fun id g sz n e f b base hid hm k4 => ⟨let ⟨es, c, q⟩ := k4; ⟨es, c, (iu b (aqU.1 q).1).trans q⟩, .inr ⟨⟨_, _, _, _, _, (mi id _ hid).1⟩, (mi id _ hid).2.trans hm⟩⟩, fun b _ _ _ hx k4 => let ⟨es, c, q⟩ := k4; ⟨es, c, (iu b (aqU.1 q).1).trans q⟩⟩
  obtain ⟨h1, h2⟩ := mi id _ hid
  rw [h1]
  exact ⟨aqQ _, fun _ => ⟨h2, rfl, rfl, rfl⟩⟩
 refine ⟨fun id g sz n e f hid => ?_, ⟨fun b hb hs => ?_, fun b hb => ?_, hS3, ?_, hM.vM jk, fun b hb x y z hx => ?_, fun b x y z x' y' z' hx qC => ?_⟩, jk⟩
 rotate_right 2
 ·rcases ux b hb with h1 | h1
  ·rcases lY x y z b hx with h2 | ⟨_, _, h2⟩
   ·exact hM.hv b h1 _ _ _ h2
   ·have a1 := hM.lt b (.inl h1)
    have a2 := Dz b (.inr ⟨_, _, _, h2⟩)
    omega
  ·rcases lY x y z b hx with h2 | ⟨_, _, h2⟩
   ·have a1 := hM.lt b (.inr ⟨_, _, _, h2⟩)
    have a2 := Dz b (.inl h1)
    omega
   ·exact z8.hv b h1 _ _ _ h2
 ·rcases lY x y z b hx with h1 | ⟨u1, rfl, h1⟩
  ·rcases lY x' y' z' b qC with h2 | ⟨u2, rfl, h2⟩
   ·exact hM.hh b _ _ _ _ _ _ h1 h2
   ·have a1 := hM.lt b (.inr ⟨_, _, _, h1⟩)
    have a2 := Dz b (.inr ⟨_, _, _, h2⟩)
    omega
  ·rcases lY x' y' z' b qC with h2 | ⟨u2, rfl, h2⟩
   ·have a1 := hM.lt b (.inr ⟨_, _, _, h2⟩)
    have a2 := Dz b (.inr ⟨_, _, _, h1⟩)
    omega
   ·obtain ⟨e1, e2, e3⟩ := z8.hh b _ _ _ _ _ _ h1 h2
    exact ⟨by rw [e1], e2, e3⟩
 ·rcases inv id g sz n e f hid with ⟨h1, h2⟩ | ⟨wK, f0, rfl, h1, h2, rfl⟩
  ·obtain ⟨q1, q2⟩ := hH id g sz n e f h1
   refine ⟨q1, ?_⟩
   rw [h2]
   cases hm : μ id with
   | none => rw [hm] at q2; exact q2
   | some p =>
    obtain ⟨b, base⟩ := p
    rw [hm] at q2
    obtain ⟨o, r1, r2⟩ := q2
    have cD : b < w.heap.size := (aqU.1 r1).1
    exact ⟨o, (iu b cD).trans r1, r2.mono (fun i y pv v hi hy hr => hr.fr jk hM (fun bu n' e' f' F' he b2 nv => iu b2 (hM.lt b2 (.inr ⟨id, i, y, _, _, _, _, _, _, _, _, _, _, h1, hi, he ▸ hy, nv⟩))))⟩
  ·obtain ⟨q1, q2⟩ := Vd wK g sz n e f0 h1
   refine ⟨fun i hi => by simpa using q1 i hi, ?_⟩
   rw [h2]
   cases hm : μ0 wK with
   | none => rw [hm] at q2; exact q2
   | some p =>
    obtain ⟨b, base⟩ := p
    rw [hm] at q2
    obtain ⟨o, r1, r2⟩ := q2
    refine ⟨o, r1, ?_⟩
    cases o with
    | cells cur e' z =>
     obtain ⟨x1, x2, x3, r3⟩ := r2
     refine ⟨x1, x2, x3, fun i j pv hi hj => ?_⟩
     rw [arl] at hj
     cases hx : (f0 i)[j]? with
     | none => rw [hx] at hj; cases hj
     | some c =>
      rw [hx] at hj
      injection hj with hj
      subst hj
      obtain ⟨v, s1, s2⟩ := r3 i j c hi hx
      obtain ⟨g1, g2⟩ := anf wK g sz n e f0 h1 i hi c (ari hx)
      refine ⟨v, s1, ?_⟩
      cases ho : eA c with
      | false => exact bn.k (cN G hG (g1 ho) s2.c) (by cases c <;> first | rfl | cases ho)
      | true =>
       cases c with
       | fh lk n2 e2 f2 F2 => exact jI.og hG (show jI S0 w' (.fh lk n2 e2 f2 F2) v from s2) (g2 rfl)
       | _ => cases ho
    | map es c =>
     obtain ⟨x1, r3⟩ := r2
     refine ⟨x1, fun i hi => ?_⟩
     obtain ⟨kp, vp, en, y1, y2, y3, y4⟩ := r3 i hi
     exact ⟨kp, vp, en, by show (f0 i).map (lM h.length) = _; rw [y1]; show [lM h.length kp, lM h.length vp] = _; rw [tS y2, tS y3], y2, y3, y4⟩
    | _ => exact r2.elim
 ·rcases kh b hb with h1 | h1
  ·rcases hS2 b hs with h2 | h2
   ·exact hM.apart b h1 h2
   ·have := hM.lt b h1; omega
  ·exact hS4 b hs h1
 ·rcases kh b hb with h1 | h1
  ·exact art (hM.lt b h1) hF.size
  ·exact z8.lt b h1
 ·intro i j gi NH ni ei fi gj lK nj ej fj b o o' hi hj lX ll
  rcases inv i _ _ _ _ _ hi with ⟨h1, h2⟩ | ⟨wK, f0, rfl, h1, h2, _⟩
  ·rw [h2] at lX
   rcases inv j _ _ _ _ _ hj with ⟨h3, h4⟩ | ⟨id1, f1, rfl, h3, h4, _⟩
   ·rw [h4] at ll; exact hM.inj i j _ _ _ _ _ _ _ _ _ _ _ _ _ h1 h3 lX ll
   ·rw [h4] at ll
    have a1 := hM.lt b (.inl ⟨i, _, _, _, _, _, _, h1, lX⟩)
    have a2 := Dz b (.inl ⟨id1, _, _, _, _, _, _, h3, ll⟩)
    omega
  ·rw [h2] at lX
   rcases inv j _ _ _ _ _ hj with ⟨h3, h4⟩ | ⟨id1, f1, rfl, h3, h4, _⟩
   ·rw [h4] at ll
    have a1 := hM.lt b (.inl ⟨j, _, _, _, _, _, _, h3, ll⟩)
    have a2 := Dz b (.inl ⟨wK, _, _, _, _, _, _, h1, lX⟩)
    omega
   ·rw [h4] at ll
    have := z8.inj wK id1 _ _ _ _ _ _ _ _ _ _ _ _ _ h1 h3 lX ll
    rw [this]
theorem ACall.frame {f : FuncId} {args : List PV} {R : PV → List ak → Prop} (hA : ACall P f args [] R) (h : List ak) (hp : args.all Mw = true) :
  ACall P f args h (fun res h' => ∃ r0 h0, R r0 h0 ∧ res = pe h.length r0 ∧ h' = h ++ h0.map (fC h.length)) := by
 refine ⟨hA.1, fun w vs μ S hH hM fv ha => ?_⟩
 refine (hA.2 w vs (fun _ => none) S (fun id g sz n e f hid => by simp at hid) ⟨fun b hb => absurd hb jg, fun b hb => absurd hb jg, hM.slt, fun i j g sz n e f g' bu n' e' f' b o o' hi => by simp at hi, hM.known, fun b _ x y z hx => rB hx, fun b _ _ _ _ _ _ hx => absurd hx rB⟩ fv (fun j pv hj => ?_)).mono ?_
 ·obtain ⟨v, h1, h2⟩ := ha j pv hj
  refine ⟨v, h1, ?_⟩
  have Ve := (aqX.1 hp) pv (ari hj)
  cases pv with
  | agg cs =>
   obtain ⟨us, q1, q2, q3⟩ := h2
   refine ⟨us, q1, q2, fun i c hi => ?_⟩
   obtain ⟨u, r1, r2⟩ := q3 i c hi
   have hc := (aqX.1 Ve) c (ari hi)
   exact ⟨u, r1, bn.jf (tj hc r2)⟩
  | aV cs => cases Ve
  | own id gen off len => cases Ve
  | aL id gen i off => cases Ve
  | kR id => cases Ve
  | kZ f bq => cases Ve
  | fP => cases Ve
  | fh sz n e f F => cases Ve
  | int k n => exact h2
  | bool b => exact h2
  | str s => exact h2
  | bf => exact h2
  | dt => exact h2
  | er sz n f => exact h2
  | dX cs => exact h2
  | fn f => exact h2
 ·rintro e w' ⟨v, r0, h0, μ0, S0, he, hR, hv, Vd, z8, hF⟩
  have w9 : ∀ b, ¬ bH (fun _ => none) [] b := fun b => jg
  obtain ⟨c1, c2, c3⟩ := yn (S' := S0) hH hM hF Vd z8 (fun _ => True) (fun _ _ _ h => h) (fun id g sz n e f hid i hi c hcm => ⟨fun _ => trivial, fun hx => by
    obtain ⟨j, hj, hcj⟩ := arX.1 hcm
    obtain ⟨_, q2⟩ := Vd id g sz n e f hid
    cases dW : μ0 id with
    | none => rw [dW] at q2; omega
    | some p =>
     obtain ⟨b, base⟩ := p
     rw [dW] at q2
     obtain ⟨o, _, r2⟩ := q2
     cases o with
     | cells cur e' z =>
      obtain ⟨_, _, _, r3⟩ := r2
      obtain ⟨v, _, s2⟩ := r3 i j c hi (by rw [← hcj]; exact Of hj)
      cases c with
      | fh lk n2 e2 f2 F2 => exact jI.all (show jI S0 w' (.fh lk n2 e2 f2 F2) v from s2)
      | _ => cases hx
     | map es cl =>
      obtain ⟨kp, vp, en, y1, y2, y3, _⟩ := r2.2 i hi
      rw [y1] at hcm
      rcases aqZ.1 hcm with q | q
      ·rw [q] at hx; cases kp <;> first | (cases hx; done) | (cases y2; done)
      ·rw [List.mem_singleton.1 q] at hx; cases vp <;> first | (cases hx; done) | (cases y3; done)
     | _ => exact r2.elim⟩) hF.sub
   (fun b hb => (hF.new b hb).imp id (fun h => h.resolve_left (w9 b))) z8.slt (fun b hb ho => z8.apart b ho hb)
  have kS : Qy (fun _ => True) r0 := by
   unfold Qy
   split
   ·intro v _; split <;> intros <;> trivial
   ·intros; trivial
   ·trivial
  exact ⟨v, _, _, _, S0, he, ⟨r0, h0, hR, rfl, rfl⟩, wy _ (fun _ _ _ h => h) kS hv, c1, c2, c3⟩
def Vf : ak → Prop
 | .row _ _ n _ f => ∀ i, i < n → ∀ c ∈ f i, (eA c = false → lO c = true) ∧ (eA c = true → OG (fun pv => lO pv = true) c)
 | .dead => True
theorem Mk.p {o : ak} (h : Mk o) : Vf o := by
 cases o with
 | dead => trivial
 | row g sz n e f =>
  intro i hi c hc
  have := (aqX.1 (h i hi)) c hc
  exact ⟨fun _ => this, fun hx => by cases c <;> first | (cases hx; done) | (cases this; done)⟩
theorem ACall.snap {f : FuncId} {args jQ : List PV} {R : PV → List ak → Prop} (hA : ACall P f jQ [] R) (h : List ak) (hl : jQ.length = args.length)
  (hz : ∀ (j : Nat) (pv ef : PV), args[j]? = some pv → jQ[j]? = some ef → Fz h [] [] pv ef ∧ kg ef = true) (Et : ∀ r0 h0, R r0 h0 → Eu r0 = true ∧ ∀ o ∈ h0, Vf o) :
  ACall P f args h (fun res h' => ∃ r0 h0, R r0 h0 ∧ res = pe h.length r0 ∧ h' = h ++ h0.map (fC h.length)) := by
 refine ⟨hA.1, fun w vs μ S hH hM fv ha => ?_⟩
 have hfz : lN h [] [] 0 0 [] [] := trivial
 obtain ⟨mP, _, _⟩ := sj (m := 0) ⟨hH, hM⟩ hfz rfl
 refine (hA.2 w vs (jK μ h []) (yg μ h [] S) mP.heap mP.ok atu (fun j ef hj => ?_)).mono ?_
 ·have B6 : j < args.length := by rw [← hl]; exact (At.1 hj).1
  have mA := Of B6
  obtain ⟨v, h1, h2⟩ := ha j _ mA
  obtain ⟨z1, z2⟩ := hz j _ ef mA hj
  exact ⟨v, h1, (pn (m := 0) ⟨hH, hM⟩ hfz z1).2.1 v h2⟩
 ·rintro e w' ⟨v, r0, h0, μ0, S0, he, hR, hv, Vd, z8, hF⟩
  obtain ⟨EG, MN⟩ := Et r0 h0 hR
  have w9 : ∀ b, ¬ bH (jK μ h []) [] b := fun b => jg
  have hG : ∀ pv v, lO pv = true → aE S0 w' pv v → aE S w' pv v := fun pv v hf hp => by
   cases hp with
   | int k n => exact .int k n
   | bool b => exact .bool b
   | str s => exact .str s
   | bf => exact .bf
   | dt => exact .dt
   | fn f => exact .fn f
   | lV => cases hf
   | er => cases hf
   | dX => cases hf
  obtain ⟨c1, c2, c3⟩ := yn (S' := S) hH hM hF Vd z8 (fun pv => lO pv = true) hG (fun id g sz n e f hid i hi c hc => MN _ (ari hid) i hi c hc) (fun _ hb => hb) (fun b hb => .inl hb) (fun b hb => art (hM.slt b hb) hF.size)
   (fun b hb ho => by
    have h1 := (hF.own b ho).resolve_left (w9 b)
    have h2 := hM.slt b hb
    omega)
  have kS : Qy (fun pv => lO pv = true) r0 := by
   cases r0 with
   | aV vs =>
    intro v hv
    have := (aqX.1 EG) v hv
    cases v with
    | agg cs => exact fun c hc => (aqX.1 this) c hc
    | _ => exact this
   | agg cs => exact fun c hc => (aqX.1 EG) c hc
   | _ => exact EG
  exact ⟨v, _, _, _, S, he, ⟨r0, h0, hR, rfl, rfl⟩, wy _ hG kS hv, c1, c2, c3⟩
end
def lC (σ : Nat → Nat) : PV → PV
 | .own id gen off len => .own (σ id) gen off len
 | .aL id gen i off => .aL (σ id) gen i off
 | .kR id => .kR (σ id)
 | .kZ f bq => .kZ f (nU σ bq)
 | v => v
def u9 (σ : Nat → Nat) : PV → PV
 | .agg cs => .agg (cs.map (lC σ))
 | v => lC σ v
def Cx (σ : Nat → Nat) : PV → PV
 | .aV vs => .aV (vs.map (u9 σ))
 | v => u9 σ v
def oL (σ : Nat → Nat) : ak → ak
 | .row g sz n e f => .row g sz n e (fun i => (f i).map (lC σ))
 | .dead => .dead
theorem yo {σ : Nat → Nat} {a : PV} (h : ir (lC σ a) = true) : lC σ a = a := by cases a <;> first | rfl | cases h
theorem yp {σ : Nat → Nat} {a : PV} (h : ir a = true) : lC σ a = a := by cases a <;> first | rfl | cases h
section
variable {P : Program} {T : lu} {μ μ0 μ1 : Mu} {h h0 h1 hc : List ak} {S S0 S1 : Nat → Prop} {w w' : World} {σ : Nat → Nat}
theorem M8 {pv : PV} {v : Value} (gh : ∀ j, (∃ g sz n e f, h0[j]? = some (ak.row g sz n e f) ∧ (∃ f', h1[σ j]? = some (ak.row g sz n e f')) ∧ μ1 (σ j) = μ0 j) ∨ (h0[j]? = some ak.dead ∧ h1[σ j]? = some ak.dead) ∨ h0[j]? = none)
  (hS : ∀ b, S0 b → S1 b) (hc : bn μ0 h0 S0 w pv v) : bn μ1 h1 S1 w (lC σ pv) v := by
 have pB : ∀ (id gen i off : Nat) (v : Value), a7 μ0 h0 w id gen i off v → a7 μ1 h1 w (σ id) gen i off v := fun id gen i off v hc => by
  unfold a7 at hc ⊢
  obtain ⟨q1, q2⟩ := hc
  refine ⟨q1, ?_⟩
  rcases gh id with ⟨g, sz, n, e, f, r1, ⟨f', r2⟩, r3⟩ | ⟨r1, r2⟩ | r1
  ·rw [r1] at q2
   rw [r2]
   show gen ≤ g ∧ _
   rw [r3]
   exact q2
  ·rw [r2]; trivial
  ·rw [r1] at q2; exact q2.elim
 cases pv with
 | own id gen off len =>
  have hc : aX μ0 h0 w id gen off len v := hc
  show aX μ1 h1 w (σ id) gen off len v
  unfold aX at hc ⊢
  obtain ⟨q1, q2⟩ := hc
  refine ⟨q1, ?_⟩
  rcases gh id with ⟨g, sz, n, e, f, r1, ⟨f', r2⟩, r3⟩ | ⟨r1, r2⟩ | r1
  ·rw [r1] at q2
   rw [r2]
   show gen ≤ g ∧ _
   rw [r3]
   exact q2
  ·rw [r2]; trivial
  ·rw [r1] at q2; exact q2.elim
 | aL id gen i off => exact pB _ _ _ _ _ hc
 | kZ f bq => exact oh.map (O := fun id g u => a7 μ1 h1 w id g 0 0 u) (oh.mono (show k8 μ0 h0 w f bq v from hc) (fun id g u hu => pB id g 0 0 u hu))
 | kR id =>
  have hc : eu μ0 h0 w id v := hc
  show eu μ1 h1 w (σ id) v
  unfold eu at hc ⊢
  obtain ⟨q1, q2⟩ := hc
  refine ⟨q1, ?_⟩
  rcases gh id with ⟨g, sz, n, e, f, r1, ⟨f', r2⟩, r3⟩ | ⟨r1, r2⟩ | r1
  ·rw [r1] at q2
   rw [r2]
   obtain ⟨b, base, x1, x2⟩ := q2
   exact ⟨b, base, r3.trans x1, x2⟩
  ·rw [r2]; trivial
  ·rw [r1] at q2; exact q2.elim
 | fP => exact hc
 | fh sz n e f F => exact hc
 | agg cs => exact (show False from hc).elim
 | aV cs => exact (show False from hc).elim
 | int k n => exact aE.mono (fun _ _ => rfl) hS hc
 | bool b => exact aE.mono (fun _ _ => rfl) hS hc
 | str s => exact aE.mono (fun _ _ => rfl) hS hc
 | bf => exact aE.mono (fun _ _ => rfl) hS hc
 | dt => exact aE.mono (fun _ _ => rfl) hS hc
 | er sz n f => exact aE.mono (fun _ _ => rfl) hS hc
 | dX cs => exact aE.mono (fun _ _ => rfl) hS hc
 | fn f => exact aE.mono (fun _ _ => rfl) hS hc
theorem fp {pv : PV} {v : Value} (aI : ∀ pv v, bn μ0 h0 S0 w pv v → bn μ1 h1 S1 w (lC σ pv) v) (hc : gn μ0 h0 S0 w pv v) : gn μ1 h1 S1 w (u9 σ pv) v := by
 cases pv with
 | agg cs =>
  obtain ⟨vs, q1, q2, q3⟩ := hc
  refine ⟨vs, q1, by simpa using q2, fun j pv hj => ?_⟩
  rw [arl] at hj
  cases hx : cs[j]? with
  | none => rw [hx] at hj; cases hj
  | some c =>
   rw [hx] at hj
   injection hj with hj
   subst hj
   obtain ⟨u, r1, r2⟩ := q3 j c hx
   exact ⟨u, r1, aI _ _ r2⟩
 | fP => trivial
 | fh sz n e f F => exact aI (.fh sz n e f F) v hc
 | aV cs => exact (show False from hc).elim
 | own id gen off len => exact aI (.own id gen off len) v hc
 | aL id gen i off => exact aI (.aL id gen i off) v hc
 | kR id => exact aI (.kR id) v hc
 | kZ f bq => exact aI (.kZ f bq) v hc
 | int k n => exact aI (.int k n) v hc
 | bool b => exact aI (.bool b) v hc
 | str s => exact aI (.str s) v hc
 | bf => exact aI .bf v hc
 | dt => exact aI .dt v hc
 | er sz n f => exact aI (.er sz n f) v hc
 | dX cs => exact aI (.dX cs) v hc
 | fn f => exact aI (.fn f) v hc
theorem M9 {pv : PV} {v : Value} (aI : ∀ pv v, bn μ0 h0 S0 w pv v → bn μ1 h1 S1 w (lC σ pv) v) (hc : aZ μ0 h0 S0 w pv v) : aZ μ1 h1 S1 w (Cx σ pv) v := by
 cases pv with
 | aV cs =>
  obtain ⟨vs, q1, q2, q3⟩ := hc
  refine ⟨vs, q1, by simpa using q2, fun j pv hj => ?_⟩
  rw [arl] at hj
  cases hx : cs[j]? with
  | none => rw [hx] at hj; cases hj
  | some c =>
   rw [hx] at hj
   injection hj with hj
   subst hj
   obtain ⟨u, r1, r2⟩ := q3 j c hx
   exact ⟨u, r1, fp aI r2⟩
 | agg cs => exact fp (pv := .agg cs) aI hc
 | fP => trivial
 | fh sz n e f F => exact fp (pv := .fh sz n e f F) aI hc
 | own id gen off len => exact fp (pv := .own id gen off len) aI hc
 | aL id gen i off => exact fp (pv := .aL id gen i off) aI hc
 | kR id => exact fp (pv := .kR id) aI hc
 | kZ f bq => exact fp (pv := .kZ f bq) aI hc
 | int k n => exact fp (pv := .int k n) aI hc
 | bool b => exact fp (pv := .bool b) aI hc
 | str s => exact fp (pv := .str s) aI hc
 | bf => exact fp (pv := .bf) aI hc
 | dt => exact fp (pv := .dt) aI hc
 | er sz n f => exact fp (pv := .er sz n f) aI hc
 | dX cs => exact fp (pv := .dX cs) aI hc
 | fn f => exact fp (pv := .fn f) aI hc
structure Sel (σ : Nat → Nat) (m : Nat) (h : List ak) : Prop where
 lt : ∀ j, j < m → σ j < h.length
 new : ∀ j, m ≤ j → σ j = h.length + (j - m)
 inj : ∀ i j, i < m → j < m → σ i = σ j → i = j
theorem Sel.aqF {m : Nat} (hs : Sel σ m h) {i j : Nat} (he : σ i = σ j) : i = j := by
 rcases arP i m with hi | hi
 ·rcases arP j m with hj | hj
  ·exact hs.inj i j hi hj he
  ·have := hs.lt i hi; have := hs.new j hj; omega
 ·rcases arP j m with hj | hj
  ·have := hs.lt j hj; have := hs.new i hi; omega
  ·have := hs.new i hi; have := hs.new j hj; omega
structure Vg (σ : Nat → Nat) (h h0 h' : List ak) : Prop where
 Dn : ∀ id, (∀ j, j < h0.length → σ j ≠ id) → h'[id]? = h[id]?
 NI : ∀ j o, h0[j]? = some o → h'[σ j]? = some (oL σ o)
 len : h.length ≤ h'.length
def wz (μ : Mu) (σ : Nat → Nat) (m : Nat) : Mu := fun j => if j < m then μ (σ j) else none
open Classical in
noncomputable def Na (μ : Mu) (σ : Nat → Nat) (m : Nat) (μ0 : Mu) : Mu := fun id => if hx : ∃ j, j < m ∧ σ j = id then μ0 (Classical.choose hx) else μ id
theorem Qz {m : Nat} (Nb : ∀ i j, σ i = σ j → i = j) {j : Nat} (hj : j < m) : Na μ σ m μ0 (σ j) = μ0 j := by
 have hx : ∃ i, i < m ∧ σ i = σ j := ⟨j, hj, rfl⟩
 unfold Na
 rw [dif_pos hx, Nb _ _ (Classical.choose_spec hx).2]
theorem zV {m id : Nat} (hn : ∀ j, j < m → σ j ≠ id) : Na μ σ m μ0 id = μ id := by
 unfold Na
 rw [dif_neg]
 rintro ⟨j, h1, h2⟩
 exact hn j h1 h2
theorem dO (lR : Sel σ hc.length h) (gh : ∀ j o, hc[j]? = some o → h[σ j]? = some (oL σ o)) {pv : PV} {v : Value} (hr : bn μ h S w (lC σ pv) v) : bn (wz μ σ hc.length) hc S w pv v := by
 have get : ∀ id, (∃ g sz n e f, hc[id]? = some (ak.row g sz n e f) ∧ h[σ id]? = some (oL σ (ak.row g sz n e f)) ∧ wz μ σ hc.length id = μ (σ id)) ∨ (hc[id]? = some ak.dead ∧ h[σ id]? = some ak.dead) ∨ h[σ id]? = none := fun id => by
  cases ho : hc[id]? with
  | none =>
   refine .inr (.inr (arB ?_))
   have NG : hc.length ≤ id := List.getElem?_eq_none_iff.1 ho
   have := lR.new id NG
   omega
  | some o =>
   have cD := (At.1 ho).1
   cases o with
   | dead => exact .inr (.inl ⟨rfl, gh id _ ho⟩)
   | row g sz n e f => exact .inl ⟨g, sz, n, e, f, rfl, gh id _ ho, by unfold wz; rw [if_pos cD]⟩
 have pB : ∀ (id gen i off : Nat) (v : Value), a7 μ h w (σ id) gen i off v → a7 (wz μ σ hc.length) hc w id gen i off v := fun id gen i off v hr => by
  unfold a7 at hr ⊢
  obtain ⟨q1, q2⟩ := hr
  refine ⟨q1, ?_⟩
  rcases get id with ⟨g, sz, n, e, f, r1, r2, r3⟩ | ⟨r1, r2⟩ | r1
  ·rw [r2] at q2
   rw [r1]
   show gen ≤ g ∧ _
   rw [r3]
   exact q2
  ·rw [r1]; trivial
  ·rw [r1] at q2; exact q2.elim
 cases pv with
 | own id gen off len =>
  have hr : aX μ h w (σ id) gen off len v := hr
  show aX _ hc w id gen off len v
  unfold aX at hr ⊢
  obtain ⟨q1, q2⟩ := hr
  refine ⟨q1, ?_⟩
  rcases get id with ⟨g, sz, n, e, f, r1, r2, r3⟩ | ⟨r1, r2⟩ | r1
  ·rw [r2] at q2
   rw [r1]
   show gen ≤ g ∧ _
   rw [r3]
   exact q2
  ·rw [r1]; trivial
  ·rw [r1] at q2; exact q2.elim
 | aL id gen i off => exact pB _ _ _ _ _ hr
 | kZ f bq => exact oh.mono (oh.ang (show k8 μ h w f (nU σ bq) v from hr)) (fun id g u hu => pB _ _ _ _ _ hu)
 | kR id =>
  have hr : eu μ h w (σ id) v := hr
  show eu _ hc w id v
  unfold eu at hr ⊢
  obtain ⟨q1, q2⟩ := hr
  refine ⟨q1, ?_⟩
  rcases get id with ⟨g, sz, n, e, f, r1, r2, r3⟩ | ⟨r1, r2⟩ | r1
  ·rw [r2] at q2
   rw [r1]
   obtain ⟨b, base, x1, x2⟩ := q2
   exact ⟨b, base, r3.trans x1, x2⟩
  ·rw [r1]; trivial
  ·rw [r1] at q2; exact q2.elim
 | fP => exact hr
 | fh sz n e f F => exact hr
 | agg cs => exact (show False from hr).elim
 | aV cs => exact (show False from hr).elim
 | int k n => exact hr
 | bool b => exact hr
 | str s => exact hr
 | bf => exact hr
 | dt => exact hr
 | er sz n f => exact hr
 | dX cs => exact hr
 | fn f => exact hr
theorem GX (lR : Sel σ hc.length h) (gh : ∀ j o, hc[j]? = some o → h[σ j]? = some (oL σ o)) {pv : PV} {v : Value} (hr : gn μ h S w (u9 σ pv) v) : gn (wz μ σ hc.length) hc S w pv v := by
 cases pv with
 | agg cs =>
  obtain ⟨vs, q1, q2, q3⟩ := hr
  refine ⟨vs, q1, by simpa using q2, fun j pv hj => ?_⟩
  obtain ⟨u, r1, r2⟩ := q3 j (lC σ pv) (by rw [arl, hj]; rfl)
  exact ⟨u, r1, dO lR gh r2⟩
 | fP => trivial
 | fh sz n e f F => exact dO (μ := μ) (S := S) (w := w) (pv := .fh sz n e f F) lR gh hr
 | aV cs => exact (show False from hr).elim
 | own id gen off len => exact dO (μ := μ) (S := S) (w := w) (pv := .own id gen off len) lR gh hr
 | aL id gen i off => exact dO (μ := μ) (S := S) (w := w) (pv := .aL id gen i off) lR gh hr
 | kR id => exact dO (μ := μ) (S := S) (w := w) (pv := .kR id) lR gh hr
 | kZ f bq => exact dO (μ := μ) (S := S) (w := w) (pv := .kZ f bq) lR gh hr
 | int k n => exact dO (μ := μ) (S := S) (w := w) (pv := .int k n) lR gh hr
 | bool b => exact dO (μ := μ) (S := S) (w := w) (pv := .bool b) lR gh hr
 | str s => exact dO (μ := μ) (S := S) (w := w) (pv := .str s) lR gh hr
 | bf => exact dO (μ := μ) (S := S) (w := w) (pv := .bf) lR gh hr
 | dt => exact dO (μ := μ) (S := S) (w := w) (pv := .dt) lR gh hr
 | er sz n f => exact dO (μ := μ) (S := S) (w := w) (pv := .er sz n f) lR gh hr
 | dX cs => exact dO (μ := μ) (S := S) (w := w) (pv := .dX cs) lR gh hr
 | fn f => exact dO (μ := μ) (S := S) (w := w) (pv := .fn f) lR gh hr
theorem Nc {c : PV} {sz n : Nat} {e : TypeId} {f : Nat → List PV} {F : Nat → Prop} (hc : lC σ c = .fh sz n e f F) : c = .fh sz n e f F := by cases c <;> first | exact hc | cases hc
theorem QA {c : PV} (h : eA c = false) : eA (lC σ c) = false := by cases c <;> first | rfl | cases h
theorem ACall.NI {f : FuncId} {args kL : List PV} {R : PV → List ak → Prop} (hA : ACall P f args hc R) (h : List ak) (lR : Sel σ hc.length h) (gh : ∀ j o, hc[j]? = some o → h[σ j]? = some (oL σ o))
  (mM : kL = args.map (u9 σ)) (nxt : List ak → List ak) (aqG : ∀ h0, hc.length ≤ h0.length → Vg σ h h0 (nxt h0)) :
  ACall P f kL h (fun res h' => ∃ r0 h0, R r0 h0 ∧ res = Cx σ r0 ∧ h' = nxt h0) := by
 refine ⟨hA.1, fun w vs μ S hH hM fv ha => ?_⟩
 subst mM
 have Nb : ∀ i j, σ i = σ j → i = j := fun i j => lR.aqF
 have QB : ∀ b, xc (wz μ σ hc.length) hc b → xc μ h b := fun b ⟨j, g, sz, n, e, f, base, q1, q2⟩ => by
  have cD := (At.1 q1).1
  unfold wz at q2
  rw [if_pos cD] at q2
  exact ⟨σ j, g, sz, n, e, _, base, gh j _ q1, q2⟩
 have GY : ∀ j x y b, cA hc j x y b → cA h (σ j) x y b := fun j x y b ⟨g, sz, n, e, f, bu, n', e', f', F', q1, q2, q3, q4⟩ => ⟨g, sz, n, e, _, bu, n', e', f', F', gh j _ q1, q2, by
  show ((f x).map (lC σ))[y]? = _
  rw [arl, q3]; rfl, q4⟩
 have Nd : ∀ b, bH (wz μ σ hc.length) hc b → bH μ h b ∧ True := fun b hb => by
  rcases hb with hb | ⟨x, y, z, hb⟩
  ·exact ⟨.inl (QB b hb), trivial⟩
  ·exact ⟨.inr ⟨_, _, _, GY _ _ _ _ hb⟩, trivial⟩
 have hHc : bx (wz μ σ hc.length) hc S w := fun j g sz n e f hj => by
  have cD := (At.1 hj).1
  obtain ⟨q1, q2⟩ := hH (σ j) _ _ _ _ _ (gh j _ hj)
  refine ⟨fun i hi => by simpa using q1 i hi, ?_⟩
  have hm : wz μ σ hc.length j = μ (σ j) := by unfold wz; rw [if_pos cD]
  rw [hm]
  cases dW : μ (σ j) with
  | none => rw [dW] at q2; exact q2
  | some p =>
   obtain ⟨b, base⟩ := p
   rw [dW] at q2
   obtain ⟨o, r1, r2⟩ := q2
   refine ⟨o, r1, ?_⟩
   cases o with
   | cells cur e' z =>
    obtain ⟨x1, x2, x3, r3⟩ := r2
    refine ⟨x1, x2, x3, fun i k pv hi hk => ?_⟩
    obtain ⟨u, s1, s2⟩ := r3 i k (lC σ pv) hi (by rw [arl, hk]; rfl)
    refine ⟨u, s1, ?_⟩
    cases hx : eA pv with
    | false => exact (dO lR gh s2.c).k hx
    | true =>
     cases pv with
     | fh lk n2 e2 f2 F2 => exact s2
     | _ => cases hx
   | map es c =>
    obtain ⟨x1, r3⟩ := r2
    refine ⟨x1, fun i hi => ?_⟩
    obtain ⟨kp, vp, en, y1, y2, y3, y4⟩ := r3 i hi
    refine ⟨kp, vp, en, ?_, y2, y3, y4⟩
    have y1 : (f i).map (lC σ) = [kp, vp] := y1
    generalize f i = l at y1
    rcases l with _ | ⟨a, _ | ⟨b, _ | ⟨c3, l3⟩⟩⟩ <;> simp at y1
    obtain ⟨rfl, rfl⟩ := y1
    rw [yo y2, yo y3]
   | _ => exact r2.elim
 have hMc : nC (wz μ σ hc.length) hc S w := ⟨fun b hb => hM.apart b (Nd b hb).1, fun b hb => hM.lt b (Nd b hb).1, hM.slt, fun i j gi NH ni ei fi gj lK nj ej fj b o o' hi hj lX ll => by
  have hli := (At.1 hi).1
  have U0 := (At.1 hj).1
  unfold wz at lX ll
  rw [if_pos hli] at lX
  rw [if_pos U0] at ll
  exact Nb _ _ (hM.inj _ _ _ _ _ _ _ _ _ _ _ _ _ _ _ (gh i _ hi) (gh j _ hj) lX ll), hM.known, fun b hb x y z hx => hM.hv b (QB b hb) _ _ _ (GY _ _ _ _ hx), fun b x y z x' y' z' hx qC => by
  obtain ⟨e1, e2, e3⟩ := hM.hh b _ _ _ _ _ _ (GY _ _ _ _ hx) (GY _ _ _ _ qC)
  exact ⟨Nb _ _ e1, e2, e3⟩⟩
 refine (hA.2 w vs _ S hHc hMc atV (fun j pv hj => ?_)).mono ?_
 ·obtain ⟨v, q1, q2⟩ := ha j (u9 σ pv) (by rw [arl, hj]; rfl)
  exact ⟨v, q1, GX lR gh q2⟩
 ·rintro e w' ⟨v, r0, h0, μ0, S0, he, hR, hv, Vd, z8, hF⟩
  have hlen : hc.length ≤ h0.length := hF.len
  have GZ := aqG h0 hlen
  obtain ⟨h', hh'⟩ : ∃ h', h' = nxt h0 := ⟨_, rfl⟩
  rw [← hh'] at GZ
  have hmA : ∀ j, j < h0.length → Na μ σ h0.length μ0 (σ j) = μ0 j := fun j hj => Qz Nb hj
  have inv : ∀ id o, h'[id]? = some o → (∃ j o0, σ j = id ∧ h0[j]? = some o0 ∧ o = oL σ o0 ∧ Na μ σ h0.length μ0 id = μ0 j) ∨ ((∀ j, j < h0.length → σ j ≠ id) ∧ h[id]? = some o ∧ Na μ σ h0.length μ0 id = μ id) := fun id o hid => by
   by_cases hx : ∃ j, j < h0.length ∧ σ j = id
   ·obtain ⟨j, hj, rfl⟩ := hx
    have := GZ.NI j _ (Of hj)
    rw [this] at hid
    injection hid with hid
    exact .inl ⟨j, _, rfl, Of hj, hid.symm, hmA j hj⟩
   ·have hn : ∀ j, j < h0.length → σ j ≠ id := fun j hj he => hx ⟨j, hj, he⟩
    rw [GZ.Dn id hn] at hid
    exact .inr ⟨hn, hid, zV hn⟩
  have apart : ∀ id g sz n e f b base, (∀ j, j < h0.length → σ j ≠ id) → h[id]? = some (ak.row g sz n e f) → μ id = some (b, base) → ¬ bH (wz μ σ hc.length) hc b := fun id g sz n e f b base hn hid hm vL => by
   rcases vL with ⟨j, gj, lK, nj, ej, fj, bj, q1, q2⟩ | ⟨x, y, z, hx⟩
   rotate_left
   ·exact hM.hv b ⟨id, g, sz, n, e, f, base, hid, hm⟩ _ _ _ (GY _ _ _ _ hx)
   have cD := (At.1 q1).1
   unfold wz at q2
   rw [if_pos cD] at q2
   exact hn j atu (hM.inj _ _ _ _ _ _ _ _ _ _ _ _ _ _ _ (gh j _ q1) hid q2 hm)
  have wA : ∀ id x y b, (∀ j, j < h0.length → σ j ≠ id) → cA h id x y b → ¬ bH (wz μ σ hc.length) hc b := fun id x y b hn hx vL => by
   rcases vL with vL | ⟨j, x', y', qC⟩
   ·exact hM.hv b (QB b vL) _ _ _ hx
   ·obtain ⟨e1, _, _⟩ := hM.hh b _ _ _ _ _ _ (GY _ _ _ _ qC) hx
    obtain ⟨_, _, _, _, _, _, _, _, _, _, q1, _⟩ := qC
    have := (At.1 q1).1
    exact hn j atu e1
  have Vh : ∀ b, xc (Na μ σ h0.length μ0) h' b → xc μ0 h0 b ∨ ∃ id g sz n e f base, (∀ j, j < h0.length → σ j ≠ id) ∧ h[id]? = some (ak.row g sz n e f) ∧ μ id = some (b, base) := fun b ⟨id, g, sz, n, e, f, base, q1, q2⟩ => by
   rcases inv id _ q1 with ⟨j, o0, rfl, r1, r2, r3⟩ | ⟨r1, r2, r3⟩
   ·rw [r3] at q2
    cases o0 with
    | dead => cases r2
    | row g0 Qo n0 e0 f0 => exact .inl ⟨j, g0, Qo, n0, e0, f0, base, r1, q2⟩
   ·rw [r3] at q2
    exact .inr ⟨id, g, sz, n, e, f, base, r1, r2, q2⟩
  have yq : ∀ id x y b, cA h' id x y b → (∃ j, σ j = id ∧ cA h0 j x y b) ∨ ((∀ j, j < h0.length → σ j ≠ id) ∧ cA h id x y b) := fun id x y b ⟨g, sz, n, e, f, bu, n', e', f', F', q1, q2, q3, q4⟩ => by
   rcases inv id _ q1 with ⟨j, o0, rfl, r1, r2, r3⟩ | ⟨r1, r2, r3⟩
   ·cases o0 with
    | dead => cases r2
    | row g0 Qo n0 e0 f0 =>
     injection r2 with e1 e2 e3 e4 e5
     subst e1 e2 e3 e4 e5
     rw [arl] at q3
     cases hx : (f0 x)[y]? with
     | none => rw [hx] at q3; cases q3
     | some c =>
      rw [hx] at q3
      injection q3 with q3
      rw [Nc q3] at hx
      exact .inl ⟨j, rfl, _, _, _, _, _, _, _, _, _, _, r1, q2, hx, q4⟩
   ·exact .inr ⟨r1, _, _, _, _, _, _, _, _, _, _, r2, q2, q3, q4⟩
  have kh : ∀ b, bH (Na μ σ h0.length μ0) h' b → bH μ0 h0 b ∨ (bH μ h b ∧ ¬ bH (wz μ σ hc.length) hc b) := fun b hb => by
   rcases hb with hb | ⟨x, y, z, hb⟩
   ·rcases Vh b hb with q | ⟨id, g, sz, n, e, f, base, q1, q2, q3⟩
    ·exact .inl (.inl q)
    ·exact .inr ⟨.inl ⟨id, g, sz, n, e, f, base, q2, q3⟩, apart id _ _ _ _ _ _ _ q1 q2 q3⟩
   ·rcases yq x y z b hb with ⟨j, _, q⟩ | ⟨q1, q2⟩
    ·exact .inl (.inr ⟨_, _, _, q⟩)
    ·exact .inr ⟨.inr ⟨_, _, _, q2⟩, wA _ _ _ _ q1 q2⟩
  have mixed : ∀ b, bH μ0 h0 b → bH μ h b → ¬ bH (wz μ σ hc.length) hc b → False := fun b q1 q2 q3 => by
   rcases hF.own b q1 with r | r
   ·exact q3 r
   ·have := hM.lt b q2; omega
  have jk : Fr μ h S w (Na μ σ h0.length μ0) h' S0 w' := by
   refine ⟨GZ.len, fun b hb w9 => hF.blocks b hb (fun ho => w9 (Nd b ho).1), hF.sub, fun b hb => ?_, fun b hb => ?_, hF.size, hF.os, hF.tape, hF.output, fun id g sz n e f hid => ?_, fun id hid => ?_, fun b k hb dS => ?_, fun id g sz n e f b base hid hm k4 => ?_, fun b id x y hx k4 => ?_⟩
   rotate_right
   ·by_cases ho : bH (wz μ σ hc.length) hc b
    ·rcases ho with ho | ⟨j, x', y', ho⟩
     ·exact absurd hx (hM.hv b (QB b ho) _ _ _)
     ·exact hF.p8 b j x' y' ho k4
    ·obtain ⟨es, c, q⟩ := k4
     exact ⟨es, c, (hF.blocks b (aqU.1 q).1 ho).trans q⟩
   ·rcases hF.new b hb with q | q | q
    ·exact .inl q
    ·exact .inr (.inl (Nd b q).1)
    ·exact .inr (.inr q)
   ·rcases kh b hb with q | ⟨q, _⟩
    ·rcases hF.own b q with r | r
     ·exact .inl (Nd b r).1
     ·exact .inr r
    ·exact .inl q
   ·by_cases hx : ∃ j, j < hc.length ∧ σ j = id
    ·obtain ⟨j, hj, rfl⟩ := hx
     have mA : j < h0.length := by omega
     have Fu := Of hj
     have vL := gh j _ Fu
     rw [vL] at hid
     cases hoc : hc[j] with
     | dead => rw [hoc] at hid; cases hid
     | row gc szc nc ec fc =>
      rw [hoc] at hid Fu
      injection hid with hid
      injection hid with e1 e2 e3 e4 e5
      subst e1 e2 e3 e4
      have hg := hF.vN j _ _ _ _ _ Fu
      have hs := GZ.NI j _ (Of mA)
      rw [Of mA] at hg
      rw [hs]
      cases ho0 : h0[j] with
      | dead => trivial
      | row g' bu n' e' f' =>
       rw [ho0] at hg
       refine ⟨hg.1, fun NG => ?_⟩
       obtain ⟨a1, a2, a3, a4⟩ := hg.2 NG
       refine ⟨?_, a2, a3, a4⟩
       rw [hmA j mA, a1]
       unfold wz
       rw [if_pos hj]
    ·have hn : ∀ j, j < h0.length → σ j ≠ id := fun j hj he => by
      rcases arP j hc.length with h1 | h1
      ·exact hx ⟨j, h1, he⟩
      ·have := lR.new j h1
       have := (At.1 hid).1
       omega
     rw [GZ.Dn id hn, hid]
     exact ⟨aqQ _, fun _ => ⟨zV hn, rfl, rfl, rfl⟩⟩
   ·by_cases hx : ∃ j, j < hc.length ∧ σ j = id
    ·obtain ⟨j, hj, rfl⟩ := hx
     have mA : j < h0.length := by omega
     have Fu := Of hj
     have vL := gh j _ Fu
     rw [vL] at hid
     cases hoc : hc[j] with
     | row gc szc nc ec fc => rw [hoc] at hid; cases hid
     | dead =>
      rw [hoc] at Fu
      have hd := hF.dead j Fu
      exact GZ.NI j _ hd
    ·have hn : ∀ j, j < h0.length → σ j ≠ id := fun j hj he => by
      rcases arP j hc.length with h1 | h1
      ·exact hx ⟨j, h1, he⟩
      ·have := lR.new j h1
       have := (At.1 hid).1
       omega
     rw [GZ.Dn id hn, hid]
   ·by_cases ho : bH (wz μ σ hc.length) hc b
    ·exact hF.bq b k ho dS
    ·exact iq.of_same (hF.blocks b dS.lt ho) dS
   ·by_cases hx : ∃ j, j < hc.length ∧ σ j = id
    ·obtain ⟨j, hj, rfl⟩ := hx
     have mA : j < h0.length := by omega
     have Fu := Of hj
     have vL := gh j _ Fu
     rw [vL] at hid
     cases hoc : hc[j] with
     | dead => rw [hoc] at hid; cases hid
     | row gc szc nc ec fc =>
      rw [hoc] at hid Fu
      have hmc : wz μ σ hc.length j = some (b, base) := by unfold wz; rw [if_pos hj]; exact hm
      obtain ⟨r1, r2⟩ := hF.maps j _ _ _ _ _ b base Fu hmc k4
      refine ⟨r1, ?_⟩
      rcases r2 with r2 | ⟨⟨g', bu, n', e', f', r2⟩, r3⟩
      ·exact .inl (GZ.NI j _ r2)
      ·exact .inr ⟨⟨_, _, _, _, _, GZ.NI j _ r2⟩, (hmA j mA).trans r3⟩
    ·have hn : ∀ j, j < h0.length → σ j ≠ id := fun j hj he => by
      rcases arP j hc.length with h1 | h1
      ·exact hx ⟨j, h1, he⟩
      ·have := lR.new j h1
       have := (At.1 hid).1
       omega
     obtain ⟨es, c, q⟩ := k4
     exact ⟨⟨es, c, (hF.blocks b (aqU.1 q).1 (apart id _ _ _ _ _ _ _ hn hid hm)).trans q⟩, .inr ⟨⟨_, _, _, _, _, (GZ.Dn id hn).trans hid⟩, (zV hn).trans hm⟩⟩
  have aI : ∀ pv v, bn μ0 h0 S0 w' pv v → bn (Na μ σ h0.length μ0) h' S0 w' (lC σ pv) v := fun pv v hcr => by
   refine M8 (fun j => ?_) (fun _ hb => hb) hcr
   cases ho : h0[j]? with
   | none => exact .inr (.inr rfl)
   | some o =>
    have cD := (At.1 ho).1
    cases o with
    | dead => exact .inr (.inl ⟨rfl, GZ.NI j _ ho⟩)
    | row g sz n e f => exact .inl ⟨g, sz, n, e, f, rfl, ⟨_, GZ.NI j _ ho⟩, hmA j cD⟩
  refine ⟨v, _, h', _, S0, he, ⟨r0, h0, hR, rfl, ?_⟩, M9 aI hv, fun id g sz n e f hid => ?_, ⟨fun b hb hs => ?_, fun b hb => ?_, z8.slt, ?_, z8.known, fun b hb id x y hx => ?_, fun b id x y id' x' y' hx qC => ?_⟩, jk⟩
  rotate_right 2
  ·rcases Vh b hb with q | ⟨k, g, sz, n, e, f, base, q1, q2, q3⟩
   ·rcases yq id x y b hx with ⟨j, _, r⟩ | ⟨r1, r2⟩
    ·exact z8.hv b q _ _ _ r
    ·exact mixed b (.inl q) (.inr ⟨_, _, _, r2⟩) (wA _ _ _ _ r1 r2)
   ·rcases yq id x y b hx with ⟨j, _, r⟩ | ⟨r1, r2⟩
    ·exact mixed b (.inr ⟨_, _, _, r⟩) (.inl ⟨k, g, sz, n, e, f, base, q2, q3⟩) (apart k _ _ _ _ _ _ _ q1 q2 q3)
    ·exact hM.hv b ⟨k, g, sz, n, e, f, base, q2, q3⟩ _ _ _ r2
  ·rcases yq id x y b hx with ⟨j, rfl, r⟩ | ⟨r1, r2⟩
   ·rcases yq id' x' y' b qC with ⟨j', rfl, t⟩ | ⟨t1, t2⟩
    ·obtain ⟨e1, e2, e3⟩ := z8.hh b _ _ _ _ _ _ r t
     exact ⟨by rw [e1], e2, e3⟩
    ·exact (mixed b (.inr ⟨_, _, _, r⟩) (.inr ⟨_, _, _, t2⟩) (wA _ _ _ _ t1 t2)).elim
   ·rcases yq id' x' y' b qC with ⟨j', rfl, t⟩ | ⟨t1, t2⟩
    ·exact (mixed b (.inr ⟨_, _, _, t⟩) (.inr ⟨_, _, _, r2⟩) (wA _ _ _ _ r1 r2)).elim
    ·exact hM.hh b _ _ _ _ _ _ r2 t2
  ·exact hh'
  ·rcases inv id _ hid with ⟨j, o0, rfl, r1, r2, r3⟩ | ⟨r1, r2, r3⟩
   ·cases o0 with
    | dead => cases r2
    | row g0 Qo n0 e0 f0 =>
     injection r2 with e1 e2 e3 e4 e5
     subst e1 e2 e3 e4 e5
     obtain ⟨q1, q2⟩ := Vd j _ _ _ _ _ r1
     refine ⟨fun i hi => by simpa using q1 i hi, ?_⟩
     rw [r3]
     cases dW : μ0 j with
     | none => rw [dW] at q2; exact q2
     | some p =>
      obtain ⟨b, base⟩ := p
      rw [dW] at q2
      obtain ⟨o, s1, s2⟩ := q2
      refine ⟨o, s1, ?_⟩
      cases o with
      | cells cur e' z =>
       obtain ⟨x1, x2, x3, s3⟩ := s2
       refine ⟨x1, x2, x3, fun i k pv hi hk => ?_⟩
       rw [arl] at hk
       cases hx : (f0 i)[k]? with
       | none => rw [hx] at hk; cases hk
       | some c =>
        rw [hx] at hk
        injection hk with hk
        subst hk
        obtain ⟨u, t1, t2⟩ := s3 i k c hi hx
        refine ⟨u, t1, ?_⟩
        cases hxo : eA c with
        | false => exact (aI _ _ t2.c).k (QA hxo)
        | true =>
         cases c with
         | fh lk n2 e2 f2 F2 => exact t2
         | _ => cases hxo
      | map es c =>
       obtain ⟨x1, s3⟩ := s2
       refine ⟨x1, fun i hi => ?_⟩
       obtain ⟨kp, vp, en, y1, y2, y3, y4⟩ := s3 i hi
       exact ⟨kp, vp, en, by show (f0 i).map (lC σ) = _; rw [y1]; show [lC σ kp, lC σ vp] = _; rw [yp y2, yp y3], y2, y3, y4⟩
      | _ => exact s2.elim
   ·obtain ⟨q1, q2⟩ := hH id _ _ _ _ _ r2
    refine ⟨q1, ?_⟩
    rw [r3]
    cases dW : μ id with
    | none => rw [dW] at q2; exact q2
    | some p =>
     obtain ⟨b, base⟩ := p
     rw [dW] at q2
     obtain ⟨o, s1, s2⟩ := q2
     have cD : b < w.heap.size := (aqU.1 s1).1
     exact ⟨o, (hF.blocks b cD (apart id _ _ _ _ _ _ _ r1 r2 dW)).trans s1, s2.mono (fun i y pv v hi hy hr => hr.fr jk hM (fun bu n' e' f' F' he b2 nv => by
      have hx : cA h id i y b2 := ⟨_, _, _, _, _, _, _, _, _, _, r2, hi, he ▸ hy, nv⟩
      exact hF.blocks b2 (hM.lt b2 (.inr ⟨_, _, _, hx⟩)) (wA _ _ _ _ r1 hx)))⟩
  ·rcases kh b hb with q | ⟨q1, q2⟩
   ·exact z8.apart b q hs
   ·rcases hF.new b hs with r | r | r
    ·exact hM.apart b q1 r
    ·exact q2 r
    ·have := hM.lt b q1; omega
  ·rcases kh b hb with q | ⟨q1, _⟩
   ·exact z8.lt b q
   ·exact art (hM.lt b q1) hF.size
  ·intro i j gi NH ni ei fi gj lK nj ej fj b o o' hi hj lX ll
   have Vi : ∀ (i' : Nat) (o1 : ak) (g sz n : Nat) (e : TypeId) (f : Nat → List PV) (oo : Nat) (id g2 lk n2 : Nat) (e2 : TypeId) (f2 : Nat → List PV) (oo2 : Nat), h0[i']? = some (ak.row g sz n e f) → μ0 i' = some (b, oo) → (∀ j, j < h0.length → σ j ≠ id) → h[id]? = some (ak.row g2 lk n2 e2 f2) → μ id = some (b, oo2) → False :=
    fun i' o1 g sz n e f oo id g2 lk n2 e2 f2 oo2 a1 a2 a3 a4 a5 => by
     exact mixed b (.inl ⟨i', g, sz, n, e, f, oo, a1, a2⟩) (.inl ⟨id, g2, lk, n2, e2, f2, oo2, a4, a5⟩) (apart id _ _ _ _ _ _ _ a3 a4 a5)
   rcases inv i _ hi with ⟨i0, oi, rfl, r1, r2, r3⟩ | ⟨r1, r2, r3⟩
   ·rw [r3] at lX
    cases oi with
    | dead => cases r2
    | row g0 Qo n0 e0 f0 =>
     rcases inv j _ hj with ⟨j0, oj, rfl, t1, t2, t3⟩ | ⟨t1, t2, t3⟩
     ·rw [t3] at ll
      cases oj with
      | dead => cases t2
      | row g2 lk n2 e2 f2 => rw [z8.inj i0 j0 _ _ _ _ _ _ _ _ _ _ _ _ _ r1 t1 lX ll]
     ·rw [t3] at ll
      exact (Vi i0 ak.dead _ _ _ _ _ _ _ _ _ _ _ _ _ r1 lX t1 t2 ll).elim
   ·rw [r3] at lX
    rcases inv j _ hj with ⟨j0, oj, rfl, t1, t2, t3⟩ | ⟨t1, t2, t3⟩
    ·rw [t3] at ll
     cases oj with
     | dead => cases t2
     | row g2 lk n2 e2 f2 => exact (Vi j0 ak.dead _ _ _ _ _ _ _ _ _ _ _ _ _ t1 ll r1 r2 lX).elim
    ·rw [t3] at ll
     exact hM.inj i j _ _ _ _ _ _ _ _ _ _ _ _ _ r2 t2 lX ll
def ft (is : List Nat) (N : Nat) (j : Nat) : Nat := match is[j]? with
 | some id => id
 | none => N + (j - is.length)
def aJ (h : List ak) : List Nat → List ak → List ak
 | id :: r, o :: l => aJ (h.set id o) r l
 | _, _ => h
def bK (h : List ak) (is : List Nat) (h0 : List ak) : List ak :=
 aJ h is (h0.map (oL (ft is h.length))) ++ (h0.drop is.length).map (oL (ft is h.length))
theorem eM : ∀ (is : List Nat) (l h : List ak), (aJ h is l).length = h.length
 | [], [], _ => rfl
 | [], _ :: _, _ => rfl
 | _ :: _, [], _ => rfl
 | id :: r, o :: l, h => by simp only [aJ]; rw [eM r l]; simp
theorem qT : ∀ (is : List Nat) (l h : List ak) (id : Nat), id ∉ is → (aJ h is l)[id]? = h[id]?
 | [], [], _, _, _ => rfl
 | [], _ :: _, _, _, _ => rfl
 | _ :: _, [], _, _, _ => rfl
 | i :: r, o :: l, h, id, hn => by
  simp only [aqZ, not_or] at hn
  simp only [aJ]
  rw [qT r l _ id hn.2, arG (asb hn.1)]
theorem wB : ∀ (is : List Nat) (l h : List ak) (j id : Nat) (o : ak), is.Nodup → is[j]? = some id → l[j]? = some o → id < h.length → (aJ h is l)[id]? = some o
 | [], _, _, _, _, _, _, h1, _, _ => by simp at h1
 | _ :: _, [], _, _, _, _, _, _, h2, _ => by simp at h2
 | i :: r, o' :: l, h, j, id, o, hd, h1, h2, cD => by
  simp only [List.nodup_cons] at hd
  simp only [aJ]
  cases j with
  | zero =>
   simp at h1 h2
   subst h1 h2
   rw [qT r l _ _ hd.1]
   simp [cD]
  | succ j =>
   exact wB r l _ j id o hd.2 atP atO (by simpa using cD)
theorem aa4 (is : List Nat) (h : List ak) (hd : is.Nodup) (cD : ∀ id ∈ is, id < h.length) : Sel (ft is h.length) is.length h where
 lt j hj := by
  unfold ft
  rw [Of hj]
  exact cD _ (arc hj)
 new j hj := by
  unfold ft
  rw [arB hj]
 inj i j hi hj he := by
  unfold ft at he
  rw [Of hi, Of hj] at he
  exact (List.getElem_inj hd).1 he
theorem Nf (is : List Nat) (h h0 : List ak) (hd : is.Nodup) (cD : ∀ id ∈ is, id < h.length) (hle : is.length ≤ h0.length) : Vg (ft is h.length) h h0 (bK h is h0) where
 len := by unfold bK; rw [An, eM]; omega
 Dn id hn := by
  unfold bK
  rcases arP id h.length with h1 | h1
  ·rw [aru (by rw [eM]; exact h1), qT]
   intro hm
   obtain ⟨j, hj, rfl⟩ := arX.1 hm
   refine hn j atu ?_
   unfold ft
   rw [Of hj]
  ·rw [aro (by rw [eM]; exact h1), eM, arB h1, arB]
   simp only [aso, List.length_drop]
   rcases arP (id - h.length) (h0.length - is.length) with h2 | h2
   ·refine (hn (is.length + (id - h.length)) atu ?_).elim
    unfold ft
    rw [arB atu]
    simp
    omega
   ·exact h2
 NI j o hj := by
  have mA := (At.1 hj).1
  unfold bK
  rcases arP j is.length with h1 | h1
  ·have hs : ft is h.length j = is[j] := by unfold ft; rw [Of h1]
   have hl := cD _ (arc h1)
   rw [hs, aru (by rw [eM]; exact hl)]
   exact wB is _ h j _ _ hd (Of h1) (by rw [arl, hj]; rfl) hl
  ·have hs : ft is h.length j = h.length + (j - is.length) := by unfold ft; rw [arB h1]
   rw [hs, aro (by rw [eM]; omega), eM, arl, arU]
   rw [show is.length + (h.length + (j - is.length) - h.length) = j from by omega, hj]
   rfl
theorem ACall.over {f : FuncId} {args kL : List PV} {R : PV → List ak → Prop} (hA : ACall P f args hc R) (is : List Nat) (h : List ak) (hl : hc.length = is.length) (hd : is.Nodup) (cD : ∀ id ∈ is, id < h.length)
  (gh : ∀ j o, hc[j]? = some o → h[ft is h.length j]? = some (oL (ft is h.length) o)) (mM : kL = args.map (u9 (ft is h.length))) :
  ACall P f kL h (fun res h' => ∃ r0 h0, R r0 h0 ∧ res = Cx (ft is h.length) r0 ∧ h' = bK h is h0) :=
 hA.NI h (by rw [hl]; exact aa4 is h hd cD) gh mM (bK h is) (fun h0 hle => Nf is h h0 hd cD atu)
end
end Go.Am
