/- Texts of the proof, joined and shortened. -/
import Derived.Test.YtiigfbapjeefbaaGreatDoorPk2
set_option linter.unusedVariables false
set_option linter.unusedSimpArgs false
namespace Go.Am
open Go Go.RowKit
section
variable {P : Program} {T : lq} {μ : Mu} {h η : List ak} {k : List Nat} {S : Nat → Prop} {w : World} {C : Start} {env : Env} {a : Act}
theorem kk.agree (hs : kk C μ h S env a w) {w' : World} (ha : bF w w') : kk C μ h S env a w' :=
 ⟨⟨hs.core.heap.agree ha hs.core.ok, hs.core.ok.agree ha⟩, hs.fr.trans (Fr.rq ha), fun t => (hs.tmps t).fr (Fr.rq ha) hs.core.ok, hs.size, hs.far, hs.defers⟩
theorem wi {pv : PV} {v : Value} {w w' : World} {μ μ' : Mu} {h h' : List ak} {S S' : Nat → Prop} (hs : rp pv = true) (hv : aY μ h S w pv v) : aY μ' h' S' w' pv v ∧ ∀ v' : Value, aY μ' h' S' w' pv v' → v' = v := by
 cases pv with
 | int k n => obtain rfl := hv.jg; exact ⟨aE.int _ _, fun v' h' => h'.jg⟩
 | bool b => obtain rfl := hv.j3; exact ⟨aE.bool _, fun v' h' => h'.j3⟩
 | str s => obtain rfl := hv.j9; exact ⟨aE.str _, fun v' h' => h'.j9⟩
 | bf => obtain rfl := hv.mV; exact ⟨aE.bf, fun v' h' => h'.mV⟩
 | _ => cases hs
def x6 : PV → Value
 | .int k n => .int k n
 | .bool b => .bool b
 | .str s => .string ⟨⟨s⟩⟩
 | .bf => .slice none 0 0
 | _ => undef
theorem mI {pv : PV} {w : World} {μ : Mu} {h : List ak} {S : Nat → Prop} (hs : rp pv = true) : aY μ h S w pv (x6 pv) := by
 cases pv with
 | int k n => exact aE.int _ _
 | bool b => exact aE.bool _
 | str s => exact aE.str _
 | bf => exact aE.bf
 | _ => cases hs
theorem Dr {P : Program} {K : Env → Prop} (all : List Oper) (o : Oper) (rest : List Oper) (env : Env) (h : List ak) {j : Nat} {want : Bool} (hg : o.guard = some (j, want)) :
  qO P T all h K (o :: rest) env = (match (all[j]?).bind (·.dst) with
     | some t => match env t with
      | .bool b => eA b
        (match (generalizing := false) want with
         | true => qop P T o.op (l7 env t (.bool true)) h (fun v => qO P T all h K rest (cp (l7 env t (.bool true)) o.dst v))
         | false => qO P T all h K rest (cp (l7 env t (.bool true)) o.dst (.aU [])))
        (match (generalizing := false) want with
         | true => qO P T all h K rest (cp (l7 env t (.bool false)) o.dst (.aU []))
         | false => qop P T o.op (l7 env t (.bool false)) h (fun v => qO P T all h K rest (cp (l7 env t (.bool false)) o.dst v)))
      | .aU [] => qO P T all h K rest (cp env o.dst (.aU []))
      | _ => False
     | none => False) := by
 obtain ⟨dst, op, ty, pos, after, guard⟩ := o
 have hg : guard = some (j, want) := hg
 rw [hg]
 rfl
theorem nR (hT : cd P T) (ops : Array Oper) {K : Env → Prop} {Q : Act → Prop} (h : List ak) (w : World) (μ : Mu) (S : Nat → Prop) (hK : ∀ env a, K env → kk C μ h S env a w → Q a) :
  ∀ (l : List Oper) (env : Env) (a : Act), qO P T ops.toList h K l env → (∀ o ∈ l, kn C.nt o = true) → kk C μ h S env a w → wpQuiet P ops (bF w) Q l a
 | [], env, a, hp, _, hs => hK env a hp hs
 | o :: rest, env, a, hp, hd, hs => by
  have Qm : ∀ t, o.dst = some t → t < C.nt := fun t ht => by
   have := hd o atv
   unfold kn at this
   rw [ht] at this
   simpa using this
  have hdr : ∀ o ∈ rest, kn C.nt o = true := fun o ho => hd o (by simp [ho])
  have run : ∀ env', kk C μ h S env' a w → qop P T o.op env' h (fun v => qO P T ops.toList h K rest (cp env' o.dst v)) → o.quiet P a (bF w) (wpQuiet P ops (bF w) Q rest) := fun env' iv ue => by
   obtain ⟨dst, op, ty, pos, after, guard⟩ := o
   have still : bE T op env' h (fun v => qO P T ops.toList h K rest (cp env' dst v)) → Oper.quiet P ⟨dst, op, ty, pos, after, guard⟩ a (bF w) (wpQuiet P ops (bF w) Q rest) := fun ue => by
    obtain ⟨v, val, Qn, hv, hr⟩ := ky (P := P) (env := env') hT iv.core.heap iv.tmps (dst := dst) (ty := ty) (pos := pos) (after := after) (guard := guard) ue
    refine ⟨val, fun w' hw' => ?_, nR hT ops h w μ S hK rest _ _ Qn hdr (iv.put Fr.refl iv.core hv Qm)⟩
    unfold Oper.quietAt
    rw [hr w' hw']
    exact ⟨rfl, rfl⟩
   cases op with
   | call c =>
    obtain ⟨cal, args, ts⟩ := c
    cases cal with
    | value fo =>
     have CF := bh iv.tmps fo
     change MR P (ev env' fo) (args.toList.map (ev env')) h _ at ue
     unfold MR at ue
     split at ue
     ·rename_i f hef
      rw [hef] at CF
      replace ue := aR ue
      obtain ⟨UZ, jP, v, hz, aqx, ⟨⟨fn, c, OQ, BM, rZ⟩, hA⟩, Qn⟩ := ue
      obtain ⟨TZ, Qn⟩ := aR Qn
      refine ⟨x6 v, fun w' hw' => ?_, nR hT ops h w μ S hK rest _ _ Qn hdr (iv.put Fr.refl iv.core (mI TZ) Qm)⟩
      have hs2 := iv.agree hw'
      obtain ⟨hl, hzz⟩ := um.get _ _ hz
      have mQ := (sh (k := []) (η := []) (m := 0) hs2.core trivial rfl).1
      have BN := hA w' (args.map a.eval) (jJ μ h []) (x5 μ h [] S) mQ.heap mQ.ok (by simpa using hl.symm) (fun j eg hj => by
       have B4 : j < args.toList.length := by have := (At.1 hj).1; simpa [hl] using this
       have hx : (args.toList.map (ev env'))[j]? = some (ev env' args.toList[j]) := by rw [ark, Of B4]; rfl
       refine ⟨a.eval args.toList[j], by rw [asr]; have := Of B4; simp only [aro] at this; rw [this]; rfl, ?_⟩
       have hv := (pn (k := []) (η := []) (m := 0) hs2.core trivial (hzz j _ eg hx hj)).2.2 _ (bh hs2.tmps args.toList[j])
       have nr := (aqW.1 aqx) eg (arh hj)
       cases eg with
       | aU ps => cases nr
       | _ => exact hv)
      have jx : (execOp a.eval ⟨dst, .call ⟨.value fo, args, ts⟩, ty, pos, after, guard⟩).run P w' = .ok (.enter f (args.map a.eval)) w' := by
       simp only [execOp, resolve, CF.KI, Deferred.ofValue, invoke, callFunc, Sem.run_bind, Sem.run_pure, Result.andThen_ok, Array.append_empty, ass]
       have vV : ¬ fn.name = "runtime.NumGoroutine" := by simpa using rZ
       simp [program, Sem.run, Result.andThen, OQ, vV, BM]
      unfold Oper.quietAt
      rw [jx]
      refine ⟨rfl, BN.mono fun e KK ⟨u, res, h', μ', S', he, hR, hv, hH, hM, hF⟩ => ?_⟩
      subst hR
      have hu := (wi (w' := w) (μ' := μ) (h' := h) (S' := S) TZ (mI (w := KK) (μ := μ') (h := h') (S := S') TZ)).1
      have sL := (wi (w' := KK) (μ' := μ') (h' := h') (S' := S') TZ (mI (w := w) (μ := μ) (h := h) (S := S) TZ)).2 u hv
      refine ⟨by rw [he, sL], hw'.trans ⟨fun b hb => hF.blocks b hb je, hF.size, hF.os, hF.tape, hF.output⟩⟩
     ·exact ue.elim
    | _ => exact still ue
   | _ => exact still ue
  have skip : ∀ env', kk C μ h S env' a w → qO P T ops.toList h K rest (cp env' o.dst (.aU [])) → wpQuiet P ops (bF w) Q rest (a.put o.dst undef) := fun env' iv ue =>
   nR hT ops h w μ S hK rest _ _ ue hdr (iv.put Fr.refl iv.core qK Qm)
  unfold wpQuiet
  cases hg : o.guard with
  | none =>
   have hp : qop P T o.op env h (fun v => qO P T ops.toList h K rest (cp env o.dst v)) := by
    exact asT
   rw [if_pos (by simp [Region.wanted, hg])]
   exact run env hs hp
  | some p =>
   obtain ⟨j, want⟩ := p
   rw [Dr ops.toList o rest env h hg] at hp
   split at hp
   ·rename_i t hj
    split at hp
    ·rename_i b he
     have hy := qJ hs hj he
     obtain ⟨ht, hf⟩ := iV hp
     have iv := hs.wc he
     cases b with
     | true =>
      have hp := ht rfl
      cases want with
      | true => rw [if_pos atA]; exact run _ iv hp
      | false => rw [if_neg atA]; exact skip _ iv hp
     | false =>
      have hp := hf rfl
      cases want with
      | true => rw [if_neg atA]; exact skip _ iv hp
      | false => rw [if_pos atA]; exact run _ iv hp
    ·rename_i he
     rw [if_neg atP]
     exact skip _ hs hp
    ·exact asY
   ·exact asY
theorem tl : ∀ (σ : List (Nat × PV)) (t : Nat), Ey h η k env σ → (∃ v, Fz h η k (env t) v ∧ tm kG σ t = v) ∨ tm kG σ t = .fO
 | [], t, _ => .inr rfl
 | (t', v) :: r, t, hh => by
  obtain ⟨h1, h2⟩ := hh
  by_cases htt : t = t'
  ·subst htt
   exact .inl ⟨v, h1, by simp [tm, wa]⟩
  ·simp only [tm]
   rw [zK _ _ htt]
   exact tl r t h2
theorem tn (hs : kk C μ h S env a w) {σ : List (Nat × PV)} (ht : pf C.h.length env h σ η) : ∃ μ' S', kk C μ' η S' (tm kG σ) a w := by
 obtain ⟨k, hk, hm, he, hh⟩ := ht
 obtain ⟨mQ, _, _⟩ := sh hs.core hh hk
 refine ⟨jJ μ h k, x5 μ h k S, mQ, U0 hs.core hs.fr hh hk hm, fun t => ?_, hs.size, fun t cD => ?_, hs.defers⟩
 ·rcases tl σ t he with ⟨v, h1, h2⟩ | h1
  ·rw [h2]; exact (pn hs.core hh h1).2.2 _ (hs.tmps t)
  ·rw [h1]; trivial
 ·rcases tl σ t he with ⟨v, h1, h2⟩ | h1
  ·rw [hs.far t cD] at h1
   rw [h2]
   cases h1
   rfl
  ·exact h1
theorem tj.mono {Q Q' : XQ} {e : Exit} {w : World} (hq : ∀ env h, Q e env h → Q' e env h) (hl : tj C Q e a w) : tj C Q' e a w := by
 obtain ⟨μ, h, S, env, hs, hQ⟩ := hl
 exact ⟨μ, h, S, env, hs, hq env h hQ⟩
theorem jD : ∀ (l : List Nat) (x : Nat), iI l x = true → x ∈ l
 | [], _, h => by cases h
 | a :: r, x, h => by
  unfold iI at h
  split at h
  ·rename_i hb
   have := No hb
   simp [this]
  ·exact arf _ (jD r x h)
theorem BS : ∀ (l : List Nat) (F : Nat → Prop), aaZ l F → ∀ i ∈ l, F i
 | [], _, _, i, hi => by simp at hi
 | [j], F, h, i, hi => by simp at hi; subst hi; exact h
 | j :: k :: r, F, h, i, hi => by
  obtain ⟨h1, h2⟩ := h
  simp only [aqY] at hi
  rcases hi with rfl | hi
  ·exact h1
  ·exact BS (k :: r) F h2 i (by simpa using hi)
theorem ja (hT : cd P T) (ops : Array Oper) {K : Env → List ak → Prop} {Q : Exit → Act → World → Prop} {next : Act → World → Prop} (hK : ∀ env h a w μ S, K env h → kk C μ h S env a w → next a w) (i : Nat) (o : Oper) (ho : ops[i]? = some o)
  (hd : kn C.nt o = true) (env : Env) (h : List ak) (a : Act) (w : World) (μ : Mu) (S : Nat → Prop) (hp : mH P T ops.toList K [o] env h) (hs : kk C μ h S env a w) : wpOp P ops Q i next a w := by
 have Qm : ∀ t, o.dst = some t → t < C.nt := fun t ht => by
  unfold kn at hd
  rw [ht] at hd
  simpa using hd
 have run : ∀ env', kk C μ h S env' a w → pop P T o.op env' h (fun v h' => K (cp env' o.dst v) h') → o.wp P a w next Q := fun env' iv ue => by
  obtain ⟨dst, op, ty, pos, after, guard⟩ := o
  refine xY (env := env') hT iv.core iv.tmps ue _ _ fun v val h' μ' S' w' Qn hv hc hf => ?_
  exact hK _ h' _ w' μ' S' Qn (iv.put hf hc hv Qm)
 have skip : ∀ env', kk C μ h S env' a w → K (cp env' o.dst (.aU [])) h → next (a.put o.dst undef) w := fun env' iv ue =>
  hK _ h _ w μ S ue (iv.put Fr.refl iv.core qK Qm)
 unfold wpOp
 simp only [ho]
 cases hg : o.guard with
 | none =>
  have hp : pop P T o.op env h (fun v h' => K (cp env o.dst v) h') := by
   exact asT
  rw [if_pos (by simp [Region.wanted, hg])]
  exact .inl (run env hs hp)
 | some p =>
  obtain ⟨j, want⟩ := p
  rw [qL ops.toList o [] env h hg] at hp
  split at hp
  ·rename_i t hj
   split at hp
   ·rename_i b he
    have hy := qJ hs hj he
    obtain ⟨ht, hf⟩ := iV hp
    have iv := hs.wc he
    cases b with
    | true =>
     have hp := ht rfl
     cases want with
     | true => rw [if_pos atA]; exact .inl (run _ iv hp)
     | false => rw [if_neg atA]; exact skip _ iv hp
    | false =>
     have hp := hf rfl
     cases want with
     | true => rw [if_neg atA]; exact skip _ iv hp
     | false => rw [if_pos atA]; exact .inl (run _ iv hp)
   ·rename_i he
    rw [if_neg atP]
    exact skip _ hs hp
   ·exact asY
  ·exact asY
theorem wj (hT : cd P T) (ops : Array Oper) {K : Env → List ak → Prop} {Q : Exit → Act → World → Prop} (hK : ∀ env h a w μ S, K env h → kk C μ h S env a w → Q .normal a w) (hd : ∀ o ∈ ops.toList, kn C.nt o = true) :
  ∀ (f : Nat) (listed : Array Bool) (done : List Nat) (env : Env) (h : List ak) (a : Act) (w : World) (μ : Mu) (S : Nat → Prop), MS ops f listed done = true → aa0 P T ops.toList K f done env h → kk C μ h S env a w →
   wpAny P .any ops Q f listed a w
 | 0, listed, done, env, h, a, w, μ, S, hc, hp, hs => by
  refine ⟨?_, hK env h a w μ S hp hs⟩
  simpa [MS] using hc
 | f + 1, listed, done, env, h, a, w, μ, S, hc, hp, hs => by
  simp only [MS, As, aqW] at hc
  obtain ⟨nr, hc⟩ := hc
  refine ⟨fun h0 => by rw [h0] at nr; simp at nr, fun i hi => ?_⟩
  obtain ⟨OU, TU⟩ := hc i hi
  have MT := BS _ _ hp i (jD _ _ OU)
  split at MT
  ·rename_i o ho
   have Ha : ops[i]? = some o := by simpa using ho
   exact ja hT ops (fun env' h' a' w' μ' S' hk iv => wj hT ops hK hd f _ (i :: done) env' h' a' w' μ' S' TU hk iv) i o Ha (hd o (by have := (At.1 ho); obtain ⟨h1, h2⟩ := this; rw [← h2]; exact arb h1)) env h a w μ S MT hs
  ·exact MT.elim
theorem MU {op : Op} {env : Env} {h : List ak} {G : PV → List ak → Prop} (hs : bE T op env h (fun v => G v h)) : pop P T op env h G := by
 cases op with
 | store t a x => exact hs.elim
 | box t x => exact hs.elim
 | alloc t => exact hs.elim
 | makeSlice t l c => exact hs.elim
 | buildSlice t len parts => exact hs.elim
 | convert s d x =>
  simp only [pop]
  split
  ·rename_i e1 e2 e3
   simp only [bE, e1, e2, e3] at hs
  ·exact hs
 | binOp bo t x y ty =>
  simp only [pop]
  split
  ·rename_i e1 e2 e3
   simp only [bE, Fk, e1, e2, e3] at hs
  ·exact hs
 | makeMap t r => exact hs.elim
 | mapUpdate t m k x => exact hs.elim
 | call c =>
  obtain ⟨callee, args, ts⟩ := c
  cases callee with
  | value fo => exact hs.elim
  | builtin b => cases b with
   | append => exact hs.elim
   | copy => exact hs.elim
   | _ => (simp only [pop]; exact hs)
  | _ => (simp only [pop]; exact hs)
 | _ => (simp only [pop]; exact hs)
theorem wm {st : Bool} {op : Op} {env : Env} {h : List ak} {G : PV → List ak → Prop} (hs : xm P T st op env h G) : pop P T op env h G := by
 cases st with
 | true => exact MU hs
 | false => exact hs
theorem nS {all : List Oper} {st : Bool} {o : Oper} {K : Env → List ak → Prop} {env : Env} {h : List ak} (hp : fs P T all st o (fun v h' => K (cp env o.dst v) h') env h) : mH P T all K [o] env h := by
 unfold fs at hp
 cases hg : o.guard with
 | none =>
  rw [hg] at hp
  obtain ⟨dst, op, ty, pos, after, guard⟩ := o
  have hg : guard = none := hg
  subst hg
  exact wm hp
 | some q =>
  obtain ⟨j, want⟩ := q
  rw [hg] at hp
  rw [qL all o [] env h hg]
  simp only at hp ⊢
  generalize (all[j]?).bind (·.dst) = d at hp ⊢
  cases d with
  | none => exact hp.elim
  | some t =>
   simp only at hp ⊢
   generalize hv : env t = v at hp ⊢
   cases v with
   | bool b =>
    simp only at hp ⊢
    cases b with
    | true =>
     refine .mk (fun _ => ?_) (fun hc => by cases hc)
     rw [uF hv]
     cases want with
     | true => exact wm hp
     | false => exact hp
    | false =>
     refine .mk (fun hc => by cases hc) (fun _ => ?_)
     rw [uF hv]
     cases want with
     | true => exact hp
     | false => exact wm hp
   | aU l => cases l with
    | nil => exact hp
    | cons a r => exact hp.elim
   | _ => exact hp.elim
inductive zL (all : List Oper) : Nat → Nat → Prop
 | base {x i : Nat} (h : x ∈ bc all i) : zL all x i
 | step {x d i : Nat} (h : d ∈ bc all i) (hx : zL all x d) : zL all x i
theorem zM : ∀ (l acc : List Nat) (x : Nat), x ∈ ddL l acc → x ∈ l ∨ x ∈ acc
 | [], acc, x, h => .inr h
 | a :: r, acc, x, h => by
  unfold ddL at h
  cases hi : iI acc a with
  | true => rw [hi] at h; exact (zM r acc x h).imp (arf _) id
  | false =>
   rw [hi] at h
   rcases zM r (a :: acc) x h with h | h
   ·exact .inl (arf _ h)
   ·simp only [aqY] at h
    rcases h with rfl | h
    ·exact .inl atv
    ·exact .inr h
theorem pJ : ∀ (l : List Nat) (x : Nat), x ∈ l → iI l x = true
 | a :: r, x, h => by
  unfold iI
  cases hb : Nat.beq a x with
  | true => rfl
  | false =>
   simp only [aqY] at h
   rcases h with rfl | h
   ·rw [arY] at hb; cases hb
   ·exact pJ r x h
theorem pK {all : List Oper} : ∀ (ord : List (Nat × Bool)) (t : List (Nat × List Nat)), (∀ i x, iI (b8 t i) x = true → zL all x i) → ∀ i x, iI (b8 (p4 all ord t) i) x = true → zL all x i
 | [], t, hg => hg
 | (j, b) :: r, t, hg => pK r _ (fun i x hx => by
  unfold b8 at hx
  cases hb : Nat.beq j i with
  | false => rw [hb] at hx; exact hg i x hx
  | true =>
   rw [hb] at hx
   have := No hb
   subst this
   rcases zM _ _ _ (jD _ _ hx) with hm | hm
   ·rw [aqV, List.mem_flatMap] at hm
    rcases hm with hm | ⟨d, hd, hm⟩
    ·exact .base hm
    ·exact .step hd (hg d x (pJ _ _ hm))
   ·simp at hm)
theorem fX {ops : Array Oper} {t : List (Nat × List Nat)} {p : Nat × Bool} : ∀ (l1 l2 : List (Nat × Bool)), bn ops t (l1 ++ p :: l2) = true → (∀ o, o ∈ l1 → dh ops t o p = true) ∧ bn ops t (l1 ++ l2) = true
 | [], l2, h => by
  simp only [aqQ, bn, As] at h
  exact ⟨fun o ho => by simp at ho, h.2⟩
 | a :: l1, l2, h => by
  simp only [aqR, bn, As, aqW] at h ⊢
  obtain ⟨h1, h2⟩ := fX l1 l2 h.2
  refine ⟨fun o ho => ?_, fun q hq => h.1 q (by simp only [aqV, aqY] at hq ⊢; exact hq.imp id .inr), h2⟩
  simp only [aqY] at ho
  rcases ho with rfl | ho
  ·exact h.1 p atv
  ·exact h1 o ho
theorem kC {ops : Array Oper} {i : Nat} {o : Oper} (ho : ops[i]? = some o) {d : Nat} : d ∈ bc ops.toList i ↔ ∃ e, e ∈ o.after ∧ Region.binds .any e = true ∧ e.on = d := by
 unfold bc
 have : ops.toList[i]? = some o := by simpa using ho
 rw [this]
 unfold MV
 rw [List.mem_filterMap]
 constructor
 ·rintro ⟨e, he, hx⟩
  cases hb : Region.binds .any e with
  | true => rw [hb] at hx; exact ⟨e, by simpa using he, hb, by simpa using hx⟩
  | false => rw [hb] at hx; cases hx
 ·rintro ⟨e, he, hb, hx⟩
  exact ⟨e, by simpa using he, by rw [hb]; simp [hx]⟩
theorem sj (hT : cd P T) (ops : Array Oper) {t : List (Nat × List Nat)} (fY : ∀ i x, iI (b8 t i) x = true → zL ops.toList x i) (jU : ∀ i, i < ops.size → ∀ d, d ∈ bc ops.toList i → d < ops.size ∧ d ≠ i)
  {K : Env → List ak → Prop} {Q : Exit → Act → World → Prop} (hK : ∀ env h a w μ S, K env h → kk C μ h S env a w → Q .normal a w) (hd : ∀ o ∈ ops.toList, kn C.nt o = true) :
  ∀ (n : Nat) (l : List (Nat × Bool)) (aZ : List (Nat × List Nat)) (listed : Array Bool) (env : Env) (h : List ak) (a : Act) (w : World) (μ : Mu) (S : Nat → Prop), l.length = n → bn ops t l = true → (∀ p, p ∈ l → p.1 < ops.size) → listed.size = ops.size →
   (∀ j, j < ops.size → (listed.getD j true = false ↔ j ∈ l.map (·.1))) → (∀ j, j < ops.size → j ∉ l.map (·.1) → ∀ d, d ∈ bc ops.toList j → d ∉ l.map (·.1)) → xn P T ops.toList t K l aZ env h → kk C μ h S env a w → wpAny P .any ops Q n listed a w
 | 0, l, aZ, listed, env, h, a, w, μ, S, hn, _, _, fv, sx, _, hf, hs => by
  obtain rfl : l = [] := List.length_eq_zero_iff.1 hn
  refine ⟨?_, hK env h a w μ S hf hs⟩
  cases hr : Region.ready .any ops listed with
  | nil => rfl
  | cons j r =>
   have hj : j ∈ Region.ready .any ops listed := by rw [hr]; simp
   rw [mem_ready] at hj
   obtain ⟨h1, o, ho, _⟩ := hj
   have := (sx j (aqT.1 ho).1).1 h1
   simp at this
 | n + 1, l, aZ, listed, env, h, a, w, μ, S, hn, hpo, cD, fv, sx, x9, hf, hs => by
  have U3 : ∀ d, d < ops.size → (listed.getD d false = true ↔ d ∉ l.map (·.1)) := fun d MP => by
   have := sx d MP
   have e : listed.getD d false = listed.getD d true := by simp [Array.getD, fv, MP]
   rw [e, ← this]
   cases listed.getD d true <;> simp
  refine ⟨fun h0 => ?_, fun i hi => ?_⟩
  ·exfalso
   cases l with
   | nil => simp at hn
   | cons p r =>
    have hp := cD p atv
    have ho := arl hp
    have : p.1 ∈ Region.ready .any ops listed := by
     rw [mem_ready]
     refine ⟨(sx p.1 hp).2 atv, _, ho, fun e he hb => ?_⟩
     have hm : e.on ∈ bc ops.toList p.1 := (kC ho).2 ⟨e, he, hb, rfl⟩
     obtain ⟨d1, d2⟩ := jU p.1 hp _ hm
     rw [U3 _ d1]
     intro hc
     simp only [adr, aqY, arj] at hc
     rcases hc with hc | ⟨q, hq, hc⟩
     ·exact d2 hc
     ·simp only [bn, As, aqW] at hpo
      have := hpo.1 q hq
      unfold dh at this
      simp only [As, arE] at this
      rw [hc, pJ _ _ hm] at this
      exact absurd this.1.2 atv
    rw [h0] at this
    simp at this
  ·rw [mem_ready] at hi
   obtain ⟨h1, oi, qW, BT⟩ := hi
   have pG := (aqT.1 qW).1
   have ux : ∀ d, d ∈ bc ops.toList i → d ∉ l.map (·.1) := fun d qc => by
    exact asV
   have qP : ∀ x, zL ops.toList x i → x ∉ l.map (·.1) := by
    have gen : ∀ x j, zL ops.toList x j → j < ops.size → (∀ d, d ∈ bc ops.toList j → d ∉ l.map (·.1)) → x ∉ l.map (·.1) := fun x j ha => by
     induction ha with
     | base hx => exact fun _ hj => hj _ hx
     | step qc _ ih => exact fun hj hjd => ih (jU _ hj _ qc).1 (x9 _ (jU _ hj _ qc).1 (hjd _ qc))
    exact fun x ha => gen x i ha pG ux
   obtain ⟨p, hp, U4⟩ := arj.1 ((sx i pG).1 h1)
   obtain ⟨l1, l2, rfl⟩ := asB hp
   obtain ⟨i', st⟩ := p
   simp only at U4
   subst U4
   obtain ⟨U5, aqy⟩ := fX l1 l2 hpo
   have uy : ops.toList[i']? = some oi := by simpa using qW
   have GV := sn (P := P) (T := T) (ops := ops) (t := t) (K := K) uy l1 l2 aZ env h (fun q hq => by
    have hk := U5 q hq
    unfold dh at hk
    simp only [As, arC, arE] at hk
    have hqm : q.1 ∈ (l1 ++ (i', st) :: l2).map (·.1) := arj.2 ⟨q, by simp [hq], rfl⟩
    have hna : iI (b8 t i') q.1 = false := by
     cases hb : iI (b8 t i') q.1 with
     | false => rfl
     | true => exact absurd hqm (qP _ (fY _ _ hb))
    rcases hk.2 with pW | ⟨DM, nu⟩
    ·exact absurd hqm (ux _ (jD _ _ pW))
    ·refine ⟨?_, hna, DM⟩
     rcases nu with nu | nu
     ·exact nu
     ·rw [hna] at nu; cases nu) hf
   have nr : ∀ q, q ∈ l1 ++ l2 → q.1 ≠ i' := fun q hq => by
    rw [aqV] at hq
    rcases hq with hq | hq
    ·have hk := U5 q hq
     unfold dh at hk
     simp only [As, arE] at hk
     intro he
     have this : Nat.beq q.1 i' = false := hk.1.1
     rw [he, arY] at this
     cases this
    ·have : ∀ (l1 : List (Nat × Bool)), bn ops t (l1 ++ (i', st) :: l2) = true → dh ops t (i', st) q = true := fun l1 => by
      induction l1 with
      | nil => intro hh; simp only [aqQ, bn, As, aqW] at hh; exact hh.1 q hq
      | cons b r ih => intro hh; simp only [aqR, bn, As] at hh; exact ih hh.2
     have hk := this l1 hpo
     unfold dh at hk
     simp only [As, arE] at hk
     intro he
     have := hk.1.1
     rw [he] at this
     rw [arY] at this
     cases this
   have zN : ∀ j, j ∈ (l1 ++ (i', st) :: l2).map (·.1) ↔ j = i' ∨ j ∈ (l1 ++ l2).map (·.1) := fun j => by
    simp only [arx, adr, aqV, aqY]
    constructor
    ·rintro (h | h | h)
     ·exact atm
     ·exact .inl h
     ·exact .inr (.inr h)
    ·rintro (h | h | h)
     ·exact atm
     ·exact .inl h
     ·exact .inr (.inr h)
   have Ds : i' ∉ (l1 ++ l2).map (·.1) := fun hm => by
    obtain ⟨q, hq, he⟩ := arj.1 hm
    exact nr q hq he
   have nf : mH P T ops.toList (fun env' h' => xn P T ops.toList t K (l1 ++ l2) aZ env' h') [oi] env h := nS (cn (fun v h' hk => hk.2.2) GV)
   refine ja hT ops (fun env' h' a' w' μ' S' hk iv => sj hT ops fY jU hK hd n (l1 ++ l2) aZ _ env' h' a' w' μ' S' (by simp at hn ⊢; omega) aqy (fun q hq => cD q (by rw [aqV] at hq ⊢; exact hq.imp id (arf _))) atU (fun j hj => ?_) (fun j hj hjn dd xW => ?_) hk iv) i' oi qW (hd oi (by have := (At.1 uy); obtain ⟨h1, h2⟩ := this; rw [← h2]; exact arb h1)) env h a w μ S nf hs
   ·by_cases gH : j = i'
    ·subst gH
     constructor
     ·intro hc
      have : (listed.setIfInBounds j true).getD j true = true := by simp [Array.getD, fv, hj]
      rw [this] at hc; cases hc
     ·intro hc; exact absurd hc Ds
    ·have e : (listed.setIfInBounds i' true).getD j true = listed.getD j true := getD_set_ne true (asa gH)
     rw [e, sx j hj, zN j]
     constructor
     ·rintro (h | h)
      ·exact absurd h gH
      ·exact h
     ·exact .inr
   ·by_cases gH : j = i'
    ·subst gH
     exact fun hm => ux dd xW ((zN dd).2 (.inr hm))
    ·exact fun hm => x9 j hj (fun hc => by rcases (zN j).1 hc with hc | hc; exact gH hc; exact hjn hc) dd xW ((zN dd).2 (.inr hm))
theorem ng {ops : Array Oper} {listed : Array Bool} {i : Nat} {L L' : List Nat} (zN : ∀ j, j ∈ L ↔ j = i ∨ j ∈ L') (Ds : i ∉ L') (fv : listed.size = ops.size) (sx : ∀ j, j < ops.size → (listed.getD j true = false ↔ j ∈ L))
  (x9 : ∀ j, j < ops.size → j ∉ L → ∀ d, d ∈ bc ops.toList j → d ∉ L) (ux : ∀ d, d ∈ bc ops.toList i → d ∉ L) :
  (∀ j, j < ops.size → ((listed.setIfInBounds i true).getD j true = false ↔ j ∈ L')) ∧ ∀ j, j < ops.size → j ∉ L' → ∀ d, d ∈ bc ops.toList j → d ∉ L' := by
 refine ⟨fun j hj => ?_, fun j hj hjn d xW hm => ?_⟩
 ·by_cases gH : j = i
  ·subst gH
   constructor
   ·intro hc
    have : (listed.setIfInBounds j true).getD j true = true := by simp [Array.getD, fv, hj]
    rw [this] at hc; cases hc
   ·intro hc; exact absurd hc Ds
  ·have e : (listed.setIfInBounds i true).getD j true = listed.getD j true := getD_set_ne true (asa gH)
   rw [e, sx j hj, zN j]
   exact ⟨fun h => h.resolve_left gH, .inr⟩
 ·by_cases gH : j = i
  ·subst gH
   exact ux d xW ((zN d).2 (.inr hm))
  ·exact x9 j hj (fun hc => by rcases (zN j).1 hc with hc | hc; exact gH hc; exact hjn hc) d xW ((zN d).2 (.inr hm))
theorem ig {ops : Array Oper} {t : List (Nat × List Nat)} {p q : Nat × Bool} (h : dh ops t p q = true) : p.1 ≠ q.1 := by
 unfold dh at h
 simp only [As, arE] at h
 intro he
 have := h.1.1
 rw [he, arY] at this
 cases this
theorem wo {ops : Array Oper} {t : List (Nat × List Nat)} {p q : Nat × Bool} (h : dh ops t p q = true) : q.1 ∉ bc ops.toList p.1 := by
 unfold dh at h
 simp only [As, arE] at h
 intro hm
 have := h.1.2
 rw [pJ _ _ hm] at this
 cases this
theorem gF {ops : Array Oper} {t : List (Nat × List Nat)} {p q : Nat × Bool} : ∀ (l1 l2 : List (Nat × Bool)), bn ops t (l1 ++ p :: l2) = true → q ∈ l2 → dh ops t p q = true
 | [], l2, h, hq => by simp only [aqQ, bn, As, aqW] at h; exact h.1 q hq
 | _ :: l1, l2, h, hq => by simp only [aqR, bn, As] at h; exact gF l1 l2 h.2 hq
theorem nh {ops : Array Oper} {t : List (Nat × List Nat)} (fY : ∀ i x, iI (b8 t i) x = true → zL ops.toList x i) {L : List Nat} {q : Nat × Bool} {i : Nat} {st : Bool} (hk : dh ops t q (i, st) = true) (hqL : q.1 ∈ L) (ux : ∀ d, d ∈ bc ops.toList i → d ∉ L) (qP : ∀ x, zL ops.toList x i → x ∉ L) :
  q.2 = true ∧ iI (b8 t i) q.1 = false ∧ mr ops q.1 i = true := by
 unfold dh at hk
 simp only [As, arC, arE] at hk
 have hna : iI (b8 t i) q.1 = false := by
  cases hb : iI (b8 t i) q.1 with
  | false => rfl
  | true => exact absurd hqL (qP _ (fY _ _ hb))
 rcases hk.2 with pW | ⟨DM, nu⟩
 ·exact absurd hqL (ux _ (jD _ _ pW))
 ·refine ⟨?_, hna, DM⟩
  rcases nu with nu | nu
  ·exact nu
  ·rw [hna] at nu; cases nu
theorem qd (hT : cd P T) (ops : Array Oper) {t : List (Nat × List Nat)} (fY : ∀ i x, iI (b8 t i) x = true → zL ops.toList x i) (jU : ∀ i, i < ops.size → ∀ d, d ∈ bc ops.toList i → d < ops.size ∧ d ≠ i) {x y : Nat} {ra rb : List (Nat × Bool)}
  (hlen : rb.length = ra.length) (Qp : ∀ j, j ∈ ((x, false) :: ra).map (·.1) ↔ j ∈ ((y, false) :: rb).map (·.1)) (hxA : ∀ d, d ∈ bc ops.toList x → d ∉ ((x, false) :: ra).map (·.1)) (U6 : x ∉ ra.map (·.1)) (U7 : y ∉ rb.map (·.1))
  (zO : ∀ p, p ∈ ra → p.1 = y ∨ iI (b8 t p.1) x = true ∨ iI (b8 t p.1) y = true)
  {K : Env → List ak → Prop} {Q : Exit → Act → World → Prop} (hK : ∀ env h a w μ S, K env h → kk C μ h S env a w → Q .normal a w) (hd : ∀ o ∈ ops.toList, kn C.nt o = true)
  (n : Nat) (l : List (Nat × Bool)) (aZ : List (Nat × List Nat)) (listed : Array Bool) (env : Env) (h : List ak) (a : Act) (w : World) (μ : Mu) (S : Nat → Prop) (hn : l.length = n) (MW : bn ops t (l ++ ra) = true) (U8 : bn ops t (l ++ rb) = true)
  (zX : ∀ p, p ∈ l → dh ops t p (x, false) = true ∧ dh ops t p (y, false) = true ∧ ∀ d, d ∈ bc ops.toList p.1 → d ∉ ((x, false) :: ra).map (·.1))
  (cD : ∀ p, p ∈ l ++ (x, false) :: ra → p.1 < ops.size) (fv : listed.size = ops.size)
  (sx : ∀ j, j < ops.size → (listed.getD j true = false ↔ j ∈ (l ++ (x, false) :: ra).map (·.1))) (x9 : ∀ j, j < ops.size → j ∉ (l ++ (x, false) :: ra).map (·.1) → ∀ d, d ∈ bc ops.toList j → d ∉ (l ++ (x, false) :: ra).map (·.1))
  (hf : tq P T ops.toList t ((x, false) :: ra) ((y, false) :: rb) K l aZ env h) (hs : kk C μ h S env a w)
  (ih : ∀ m, m + 1 = n → ∀ (l : List (Nat × Bool)) (aZ : List (Nat × List Nat)) (listed : Array Bool) (env : Env) (h : List ak) (a : Act) (w : World) (μ : Mu) (S : Nat → Prop), l.length = m → bn ops t (l ++ ra) = true → bn ops t (l ++ rb) = true →
   (∀ p, p ∈ l → dh ops t p (x, false) = true ∧ dh ops t p (y, false) = true ∧ ∀ d, d ∈ bc ops.toList p.1 → d ∉ ((x, false) :: ra).map (·.1)) →
   (∀ p, p ∈ l ++ (x, false) :: ra → p.1 < ops.size) → listed.size = ops.size →
   (∀ j, j < ops.size → (listed.getD j true = false ↔ j ∈ (l ++ (x, false) :: ra).map (·.1))) → (∀ j, j < ops.size → j ∉ (l ++ (x, false) :: ra).map (·.1) → ∀ d, d ∈ bc ops.toList j → d ∉ (l ++ (x, false) :: ra).map (·.1)) →
   tq P T ops.toList t ((x, false) :: ra) ((y, false) :: rb) K l aZ env h → kk C μ h S env a w → wpAny P .any ops Q (m + (ra.length + 1)) listed a w) : wpAny P .any ops Q (n + (ra.length + 1)) listed a w := by
 have U3 : ∀ d, d < ops.size → (listed.getD d false = true ↔ d ∉ (l ++ (x, false) :: ra).map (·.1)) := fun d MP => by
  have := sx d MP
  have e : listed.getD d false = listed.getD d true := by simp [Array.getD, fv, MP]
  rw [e, ← this]
  cases listed.getD d true <;> simp
 have hx := cD (x, false) atv
 refine ⟨fun h0 => ?_, fun i hi => ?_⟩
 ·exfalso
  have first : ∃ p, p < ops.size ∧ p ∈ (l ++ (x, false) :: ra).map (·.1) ∧ ∀ d, d ∈ bc ops.toList p → d ∉ (l ++ (x, false) :: ra).map (·.1) := by
   cases l with
   | nil => exact ⟨x, hx, by simp, fun d xW hm => hxA d xW (by simpa using hm)⟩
   | cons p r =>
    have hp := cD p atv
    refine ⟨p.1, hp, by simp, fun d xW hm => ?_⟩
    rw [arx, aqV] at hm
    rcases hm with hm | hm
    ·simp only [adr, aqY, arj] at hm
     rcases hm with rfl | ⟨q, hq, rfl⟩
     ·exact (jU _ hp _ xW).2 rfl
     ·exact wo (gF [] _ MW (arZ _ hq)) xW
    ·exact (zX p atv).2.2 d xW hm
  obtain ⟨p, hp, hpm, hpd⟩ := first
  have ho := arl hp
  have : p ∈ Region.ready .any ops listed := by
   rw [mem_ready]
   refine ⟨(sx p hp).2 hpm, _, ho, fun e he hb => ?_⟩
   have hm : e.on ∈ bc ops.toList p := (kC ho).2 ⟨e, he, hb, rfl⟩
   rw [U3 _ (jU p hp _ hm).1]
   exact hpd _ hm
  rw [h0] at this
  simp at this
 ·rw [mem_ready] at hi
  obtain ⟨h1, oi, qW, BT⟩ := hi
  have pG := (aqT.1 qW).1
  have uy : ops.toList[i]? = some oi := by simpa using qW
  have Dt : kn C.nt oi = true := hd oi aub
  have ux : ∀ d, d ∈ bc ops.toList i → d ∉ (l ++ (x, false) :: ra).map (·.1) := fun d qc => by
   exact asV
  have qP : ∀ z, zL ops.toList z i → z ∉ (l ++ (x, false) :: ra).map (·.1) := by
   have gen : ∀ z j, zL ops.toList z j → j < ops.size → (∀ d, d ∈ bc ops.toList j → d ∉ (l ++ (x, false) :: ra).map (·.1)) → z ∉ (l ++ (x, false) :: ra).map (·.1) := fun z j ha => by
    induction ha with
    | base hx => exact fun _ hj => hj _ hx
    | step qc _ ih => exact fun hj hjd => ih (jU _ hj _ qc).1 (x9 _ (jU _ hj _ qc).1 (hjd _ qc))
   exact fun z ha => gen z i ha pG ux
  have hyA : y ∈ ((x, false) :: ra).map (·.1) := (Qp y).2 atv
  have zP := (sx i pG).1 h1
  rw [arx, aqV] at zP
  have split : i ∈ l.map (·.1) ∨ i = x ∨ i = y := by
   rcases zP with zP | zP
   ·exact .inl zP
   ·simp only [adr, aqY, arj] at zP
    rcases zP with rfl | ⟨q, hq, rfl⟩
    ·exact .inr (.inl rfl)
    ·rcases zO q hq with h2 | h2 | h2
     ·exact .inr (.inr h2)
     ·exact absurd (by simp : x ∈ (l ++ (x, false) :: ra).map (·.1)) (qP _ (fY _ _ h2))
     ·exact absurd (by rw [arx, aqV]; exact .inr hyA) (qP _ (fY _ _ h2))
  rcases split with zP | rfl | rfl
  ·-- one of those ahead
   obtain ⟨p, hp, U4⟩ := arj.1 zP
   obtain ⟨l1, l2, rfl⟩ := asB hp
   obtain ⟨i', st⟩ := p
   simp only at U4
   subst U4
   have e1 : l1 ++ (i', st) :: l2 ++ ra = l1 ++ (i', st) :: (l2 ++ ra) := by simp
   have e2 : l1 ++ (i', st) :: l2 ++ rb = l1 ++ (i', st) :: (l2 ++ rb) := by simp
   rw [e1] at MW
   rw [e2] at U8
   obtain ⟨U5, aqz⟩ := fX l1 _ MW
   obtain ⟨_, aqA⟩ := fX l1 _ U8
   have GV := ye (P := P) (T := T) (ops := ops) (t := t) (A0 := (x, false) :: ra) (B0 := (y, false) :: rb) (K := K) uy l1 l2 aZ env h (fun q hq => nh fY (U5 q hq) (by rw [arx, aqV]; exact .inl (arj.2 ⟨q, arZ _ hq, rfl⟩)) ux qP) hf
   have Ds : i' ∉ ((l1 ++ l2) ++ (x, false) :: ra).map (·.1) := fun hm => by
    simp only [arx, adr, aqV, aqY, arj] at hm
    rcases hm with (⟨q, hq, he⟩ | ⟨q, hq, he⟩) | he | ⟨q, hq, he⟩
    ·exact ig (U5 q hq) he
    ·exact ig (gF l1 _ MW (arZ _ hq)) he.symm
    ·exact ig (zX (i', st) atv).1 he
    ·exact ig (gF l1 _ MW (List.mem_append_right _ hq)) he.symm
   obtain ⟨r1, r2⟩ := ng (L' := ((l1 ++ l2) ++ (x, false) :: ra).map (·.1)) (fun j => by
    simp only [arx, adr, aqV, aqY]
    constructor
    ·rintro ((h | h | h) | h)
     ·exact .inr (.inl (.inl h))
     ·exact .inl h
     ·exact .inr (.inl (.inr h))
     ·exact .inr (.inr h)
    ·rintro (h | (h | h) | h)
     ·exact .inl (.inr (.inl h))
     ·exact .inl (.inl h)
     ·exact .inl (.inr (.inr h))
     ·exact .inr h) Ds fv sx x9 ux
   have nf : mH P T ops.toList (fun env' h' => tq P T ops.toList t ((x, false) :: ra) ((y, false) :: rb) K (l1 ++ l2) aZ env' h') [oi] env h := nS (cn (fun v h' hk => hk.2.2) GV)
   obtain ⟨m, rfl⟩ : ∃ m, n = m + 1 := ⟨n - 1, by simp at hn; omega⟩
   rw [show (m + 1).add ra.length = m + (ra.length + 1) from (by show m + 1 + ra.length = _; omega)]
   refine ja hT ops (fun env' h' a' w' μ' S' hk iv => ih m rfl (l1 ++ l2) aZ _ env' h' a' w' μ' S' (by simp at hn ⊢; omega) (by rw [amb]; exact aqz) (by rw [amb]; exact aqA) (fun q hq => zX q (by
    simp only [aqV, aqY] at hq ⊢
    exact hq.imp id .inr)) (fun q hq => cD q (by
    simp only [aqV, aqY] at hq ⊢
    rcases hq with (h | h) | h
    ·exact .inl (.inl h)
    ·exact .inl (.inr (.inr h))
    ·exact .inr h)) atU r1 r2 hk iv) i' oi qW Dt env h a w μ S nf hs
  ·-- the first of the two
   have oB : xn P T ops.toList t K (l ++ (i, false) :: ra) aZ env h := Du l aZ env h hf
   have GV := sn (P := P) (T := T) (ops := ops) (t := t) (K := K) uy l ra aZ env h (fun q hq => nh fY (zX q hq).1 atY ux qP) oB
   have Ds : i ∉ (l ++ ra).map (·.1) := fun hm => by
    simp only [arx, aqV] at hm
    rcases hm with hm | hm
    ·obtain ⟨q, hq, he⟩ := arj.1 hm
     exact ig (zX q hq).1 he
    ·exact U6 hm
   obtain ⟨r1, r2⟩ := ng (L' := (l ++ ra).map (·.1)) (fun j => by
    simp only [arx, adr, aqV, aqY]
    constructor
    ·rintro (h | h | h)
     ·exact atm
     ·exact .inl h
     ·exact .inr (.inr h)
    ·rintro (h | h | h)
     ·exact atm
     ·exact .inl h
     ·exact .inr (.inr h)) Ds fv sx x9 ux
   have nf : mH P T ops.toList (fun env' h' => xn P T ops.toList t K (l ++ ra) aZ env' h') [oi] env h := nS (cn (fun v h' hk => hk.2.2) GV)
   refine ja hT ops (fun env' h' a' w' μ' S' hk iv => sj hT ops fY jU hK hd (n + ra.length) (l ++ ra) aZ _ env' h' a' w' μ' S' (by simp [hn]) MW (fun q hq => cD q (by
    simp only [aqV, aqY] at hq ⊢
    exact hq.imp id .inr)) atU r1 r2 hk iv) i oi qW Dt env h a w μ S nf hs
  ·-- the second
   have oB : xn P T ops.toList t K (l ++ (i, false) :: rb) aZ env h := Dv l aZ env h hf
   have GV := sn (P := P) (T := T) (ops := ops) (t := t) (K := K) uy l rb aZ env h (fun q hq => nh fY (zX q hq).2.1 atY ux qP) oB
   have Ds : i ∉ (l ++ rb).map (·.1) := fun hm => by
    simp only [arx, aqV] at hm
    rcases hm with hm | hm
    ·obtain ⟨q, hq, he⟩ := arj.1 hm
     exact ig (zX q hq).2.1 he
    ·exact U7 hm
   obtain ⟨r1, r2⟩ := ng (L' := (l ++ rb).map (·.1)) (fun j => by
    rw [arx, aqV, Qp j, arx]
    simp only [adr, aqV, aqY]
    constructor
    ·rintro (h | h | h)
     ·exact atm
     ·exact .inl h
     ·exact .inr (.inr h)
    ·rintro (h | h | h)
     ·exact atm
     ·exact .inl h
     ·exact .inr (.inr h)) Ds fv sx x9 ux
   have nf : mH P T ops.toList (fun env' h' => xn P T ops.toList t K (l ++ rb) aZ env' h') [oi] env h := nS (cn (fun v h' hk => hk.2.2) GV)
   refine ja hT ops (fun env' h' a' w' μ' S' hk iv => sj hT ops fY jU hK hd (n + ra.length) (l ++ rb) aZ _ env' h' a' w' μ' S' (by simp [hn, hlen]) U8 (fun q hq => by
    rw [aqV] at hq
    rcases hq with h | h
    ·exact cD q (arZ _ h)
    ·have : q.1 ∈ ((x, false) :: ra).map (·.1) := (Qp q.1).2 (arf _ (arj.2 ⟨q, h, rfl⟩))
     obtain ⟨p, hp, he⟩ := arj.1 this
     rw [← he]
     exact cD p (List.mem_append_right _ hp)) atU r1 r2 hk iv) i oi qW Dt env h a w μ S nf hs
theorem MX (hT : cd P T) (ops : Array Oper) {t : List (Nat × List Nat)} (fY : ∀ i x, iI (b8 t i) x = true → zL ops.toList x i) (jU : ∀ i, i < ops.size → ∀ d, d ∈ bc ops.toList i → d < ops.size ∧ d ≠ i) {x y : Nat} {ra rb : List (Nat × Bool)}
  (hlen : rb.length = ra.length) (Qp : ∀ j, j ∈ ((x, false) :: ra).map (·.1) ↔ j ∈ ((y, false) :: rb).map (·.1)) (hxA : ∀ d, d ∈ bc ops.toList x → d ∉ ((x, false) :: ra).map (·.1)) (U6 : x ∉ ra.map (·.1)) (U7 : y ∉ rb.map (·.1))
  (zO : ∀ p, p ∈ ra → p.1 = y ∨ iI (b8 t p.1) x = true ∨ iI (b8 t p.1) y = true)
  {K : Env → List ak → Prop} {Q : Exit → Act → World → Prop} (hK : ∀ env h a w μ S, K env h → kk C μ h S env a w → Q .normal a w) (hd : ∀ o ∈ ops.toList, kn C.nt o = true)
  (n : Nat) (l : List (Nat × Bool)) (aZ : List (Nat × List Nat)) (listed : Array Bool) (env : Env) (h : List ak) (a : Act) (w : World) (μ : Mu) (S : Nat → Prop) (hn : l.length = n) (MW : bn ops t (l ++ ra) = true) (U8 : bn ops t (l ++ rb) = true)
  (zX : ∀ p, p ∈ l → dh ops t p (x, false) = true ∧ dh ops t p (y, false) = true ∧ ∀ d, d ∈ bc ops.toList p.1 → d ∉ ((x, false) :: ra).map (·.1))
  (cD : ∀ p, p ∈ l ++ (x, false) :: ra → p.1 < ops.size) (fv : listed.size = ops.size)
  (sx : ∀ j, j < ops.size → (listed.getD j true = false ↔ j ∈ (l ++ (x, false) :: ra).map (·.1))) (x9 : ∀ j, j < ops.size → j ∉ (l ++ (x, false) :: ra).map (·.1) → ∀ d, d ∈ bc ops.toList j → d ∉ (l ++ (x, false) :: ra).map (·.1))
  (hf : tq P T ops.toList t ((x, false) :: ra) ((y, false) :: rb) K l aZ env h) (hs : kk C μ h S env a w) : wpAny P .any ops Q (n + (ra.length + 1)) listed a w := by
 induction n generalizing l aZ listed env h a w μ S with
 | zero => exact qd hT ops fY jU hlen Qp hxA U6 U7 zO hK hd 0 l aZ listed env h a w μ S hn MW U8 zX cD fv sx x9 hf hs (fun m hm => absurd hm (Nat.succ_ne_zero m))
 | succ n ih => exact qd hT ops fY jU hlen Qp hxA U6 U7 zO hK hd (n + 1) l aZ listed env h a w μ S hn MW U8 zX cD fv sx x9 hf hs (fun m hm => by (obtain rfl : m = n := Nat.succ.inj hm); exact ih)
def Left (ops : Array Oper) (l : List (Nat × Bool)) (R : List Nat) (listed : Array Bool) : Prop :=
 listed.size = ops.size ∧ (∀ j, j < ops.size → (listed.getD j true = false ↔ j ∈ l.map (·.1) ++ R)) ∧ ∀ j, j < ops.size → j ∉ l.map (·.1) ++ R → ∀ d, d ∈ bc ops.toList j → d ∉ l.map (·.1) ++ R
def Snd (P : Program) (T : lq) (C : Start) (ops : Array Oper) (t : List (Nat × List Nat)) (Q : Exit → Act → World → Prop) (E : List (Nat × List Nat) → Env → List ak → Prop) (R : List Nat) (c : List (Nat × Bool) → Prop) : Prop :=
 ∀ (l : List (Nat × Bool)) (aZ : List (Nat × List Nat)) (listed : Array Bool) (env : Env) (h : List ak) (a : Act) (w : World) (μ : Mu) (S : Nat → Prop), c l → (∀ p, p ∈ l → p.1 < ops.size) → Left ops l R listed →
  kD P T ops.toList t E l aZ env h → kk C μ h S env a w → wpAny P .any ops Q (l.length + R.length) listed a w
theorem zQ (hT : cd P T) (ops : Array Oper) {t : List (Nat × List Nat)} (fY : ∀ i x, iI (b8 t i) x = true → zL ops.toList x i) (jU : ∀ i, i < ops.size → ∀ d, d ∈ bc ops.toList i → d < ops.size ∧ d ≠ i)
  {K : Env → List ak → Prop} {Q : Exit → Act → World → Prop} (hK : ∀ env h a w μ S, K env h → kk C μ h S env a w → Q .normal a w) (hd : ∀ o ∈ ops.toList, kn C.nt o = true) (A : List (Nat × Bool)) (hA : ∀ p, p ∈ A → p.1 < ops.size) :
  Snd P T C ops t Q (fun aZ env h => xn P T ops.toList t K A aZ env h) (A.map (·.1)) (fun l => bn ops t (l ++ A) = true) := by
 intro l aZ listed env h a w μ S hc cD hL hf hs
 obtain ⟨fv, sx, x9⟩ := hL
 rw [show l.length + (A.map (·.1)).length = (l ++ A).length from by simp]
 rw [← arx] at sx x9
 exact sj hT ops fY jU hK hd _ (l ++ A) aZ listed env h a w μ S rfl hc (fun p hp => by rcases aqV.1 hp with q | q; exact cD p q; exact hA p q) fv sx x9 (po l aZ env h hf) hs
theorem Qq {ops : Array Oper} {t : List (Nat × List Nat)} {Q : Exit → Act → World → Prop} {E : List (Nat × List Nat) → Env → List ak → Prop} {R : List Nat} {c : List (Nat × Bool) → Prop} (hE : Snd P T C ops t Q E R c) (o1 : List (Nat × Bool)) (h1 : ∀ p, p ∈ o1 → p.1 < ops.size) :
  Snd P T C ops t Q (fun aZ env h => kD P T ops.toList t E o1 aZ env h) (o1.map (·.1) ++ R) (fun l => c (l ++ o1)) := by
 intro l aZ listed env h a w μ S hc cD hL hf hs
 have e : (l ++ o1).map (·.1) ++ R = l.map (·.1) ++ (o1.map (·.1) ++ R) := by simp
 have := hE (l ++ o1) aZ listed env h a w μ S hc (fun p hp => by rcases aqV.1 hp with q | q; exact cD p q; exact h1 p q) (by unfold Left; rw [e]; exact hL) (pq l aZ env h hf) hs
 rw [show l.length + (o1.map (·.1) ++ R).length = (l ++ o1).length + R.length from by simp; omega]
 exact this
structure BrC (ops : Array Oper) (t : List (Nat × List Nat)) (x y : Nat) (R : List Nat) (cX cY : List (Nat × Bool) → Prop) (l : List (Nat × Bool)) : Prop where
 pw : bn ops t l = true
 hd : ∀ p, p ∈ l → dh ops t p (x, false) = true ∧ dh ops t p (y, false) = true ∧ (∀ d, d ∈ bc ops.toList p.1 → d ∉ R) ∧ p.1 ∉ R
 x : cX l
 y : cY l
theorem MY (hT : cd P T) (ops : Array Oper) {t : List (Nat × List Nat)} (fY : ∀ i x, iI (b8 t i) x = true → zL ops.toList x i) (jU : ∀ i, i < ops.size → ∀ d, d ∈ bc ops.toList i → d < ops.size ∧ d ≠ i)
  {Q : Exit → Act → World → Prop} (hd : ∀ o ∈ ops.toList, kn C.nt o = true) {x y : Nat} {RX RY : List Nat} {EX EY : List (Nat × List Nat) → Env → List ak → Prop} {cX cY : List (Nat × Bool) → Prop} (hEX : pr EX) (hEY : pr EY)
  (hX : Snd P T C ops t Q EX RX cX) (hY : Snd P T C ops t Q EY RY cY) (hcX : ∀ l1 p l2, cX (l1 ++ p :: l2) → cX (l1 ++ l2)) (hcY : ∀ l1 p l2, cY (l1 ++ p :: l2) → cY (l1 ++ l2))
  (hlen : RX.length = RY.length) (Qp : ∀ j, j ∈ x :: RX ↔ j ∈ y :: RY) (hxs : x < ops.size) (hxd : ∀ d, d ∈ bc ops.toList x → d ∉ x :: RX) (U6 : x ∉ RX) (U7 : y ∉ RY) (zO : ∀ j, j ∈ RX → j = y ∨ iI (b8 t j) x = true ∨ iI (b8 t j) y = true) :
  Snd P T C ops t Q (fun aZ env h => kD P T ops.toList t EX [(x, false)] aZ env h ∧ kD P T ops.toList t EY [(y, false)] aZ env h) (x :: RX) (BrC ops t x y (x :: RX) cX cY) := by
 have hE : pr (fun aZ env h => kD P T ops.toList t EX [(x, false)] aZ env h ∧ kD P T ops.toList t EY [(y, false)] aZ env h) := yf (lQ hEX _) (lQ hEY _)
 intro l
 generalize hn : l.length = n
 induction n generalizing l with
 | zero => ?z
 | succ n ih => ?s
 all_goals
  intro aZ listed env h a w μ S hc cD hL hf hs
  obtain ⟨fv, sx, x9⟩ := hL
  have U3 : ∀ d, d < ops.size → (listed.getD d false = true ↔ d ∉ l.map (·.1) ++ x :: RX) := fun d MP => by
   have := sx d MP
   have e : listed.getD d false = listed.getD d true := by simp [Array.getD, fv, MP]
   rw [e, ← this]
   cases listed.getD d true <;> simp
  refine ⟨fun h0 => ?_, fun i hi => ?_⟩
 case z.refine_1 | s.refine_1 =>
  exfalso
  have first : ∃ p, p < ops.size ∧ p ∈ l.map (·.1) ++ x :: RX ∧ ∀ d, d ∈ bc ops.toList p → d ∉ l.map (·.1) ++ x :: RX := by
   cases l with
   | nil => exact ⟨x, hxs, by simp, fun d xW hm => hxd d xW (by simpa using hm)⟩
   | cons p r =>
    have hp := cD p atv
    refine ⟨p.1, hp, by simp, fun d xW hm => ?_⟩
    rw [aqV] at hm
    rcases hm with hm | hm
    ·simp only [adr, aqY, arj] at hm
     rcases hm with rfl | ⟨q, hq, rfl⟩
     ·exact (jU _ hp _ xW).2 rfl
     ·exact wo (gF [] _ hc.pw hq) xW
    ·exact (hc.hd p atv).2.2.1 d xW hm
  obtain ⟨p, hp, hpm, hpd⟩ := first
  have ho := arl hp
  have : p ∈ Region.ready .any ops listed := by
   rw [mem_ready]
   refine ⟨(sx p hp).2 hpm, _, ho, fun e he hb => ?_⟩
   have hm : e.on ∈ bc ops.toList p := (kC ho).2 ⟨e, he, hb, rfl⟩
   rw [U3 _ (jU p hp _ hm).1]
   exact hpd _ hm
  rw [h0] at this
  simp at this
 all_goals
  rw [mem_ready] at hi
  obtain ⟨h1, oi, qW, BT⟩ := hi
  have pG := (aqT.1 qW).1
  have uy : ops.toList[i]? = some oi := by simpa using qW
  have Dt : kn C.nt oi = true := hd oi aub
  have ux : ∀ d, d ∈ bc ops.toList i → d ∉ l.map (·.1) ++ x :: RX := fun d qc => by
   exact asV
  have qP : ∀ z, zL ops.toList z i → z ∉ l.map (·.1) ++ x :: RX := by
   have gen : ∀ z j, zL ops.toList z j → j < ops.size → (∀ d, d ∈ bc ops.toList j → d ∉ l.map (·.1) ++ x :: RX) → z ∉ l.map (·.1) ++ x :: RX := fun z j ha => by
    induction ha with
    | base hx => exact fun _ hj => hj _ hx
    | step qc _ ih => exact fun hj hjd => ih (jU _ hj _ qc).1 (x9 _ (jU _ hj _ qc).1 (hjd _ qc))
   exact fun z ha => gen z i ha pG ux
  have hyA : y ∈ x :: RX := (Qp y).2 atv
  have zP := (sx i pG).1 h1
  rw [aqV] at zP
  have split : i ∈ l.map (·.1) ∨ i = x ∨ i = y := by
   rcases zP with zP | zP
   ·exact .inl zP
   ·rcases aqY.1 zP with rfl | hq
    ·exact .inr (.inl rfl)
    ·rcases zO i hq with h2 | h2 | h2
     ·exact .inr (.inr h2)
     ·exact absurd (by simp : x ∈ l.map (·.1) ++ x :: RX) (qP _ (fY _ _ h2))
     ·exact absurd (by rw [aqV]; exact .inr hyA) (qP _ (fY _ _ h2))
  have aqB : ∀ q, q ∈ l → q.1 ∉ x :: RX := fun q hq => (hc.hd q hq).2.2.2
  rcases split with zP | rfl | rfl
 case z.refine_2.inl => obtain rfl := List.length_eq_zero_iff.1 hn; simp at zP
 case s.refine_2.inl =>
  obtain ⟨p, hp, U4⟩ := arj.1 zP
  obtain ⟨l1, l2, rfl⟩ := asB hp
  obtain ⟨i', st⟩ := p
  simp only at U4
  subst U4
  obtain ⟨U5, hpw⟩ := fX l1 _ hc.pw
  have GV := pL hE (P := P) (T := T) (ops := ops) (t := t) uy l1 l2 aZ env h (fun q hq => nh fY (U5 q hq) (by rw [aqV]; exact .inl (arj.2 ⟨q, arZ _ hq, rfl⟩)) ux qP) hf
  have Ds : i' ∉ (l1 ++ l2).map (·.1) ++ x :: RX := fun hm => by
   rw [aqV] at hm
   rcases hm with hm | hm
   ·obtain ⟨q, hq, he⟩ := arj.1 hm
    rcases aqV.1 hq with hq | hq
    ·exact ig (U5 q hq) he
    ·exact ig (gF l1 _ hc.pw hq) he.symm
   ·exact aqB (i', st) atv hm
  obtain ⟨r1, r2⟩ := ng (L' := (l1 ++ l2).map (·.1) ++ x :: RX) (fun j => by
   simp only [arx, adr, aqV, aqY]
   constructor
   ·rintro ((h | h | h) | h)
    ·exact .inr (.inl (.inl h))
    ·exact .inl h
    ·exact .inr (.inl (.inr h))
    ·exact .inr (.inr h)
   ·rintro (h | (h | h) | h)
    ·exact .inl (.inr (.inl h))
    ·exact .inl (.inl h)
    ·exact .inl (.inr (.inr h))
    ·exact .inr h) Ds fv sx x9 ux
  have nf : mH P T ops.toList (fun env' h' => kD P T ops.toList t (fun aZ env h => kD P T ops.toList t EX [(x, false)] aZ env h ∧ kD P T ops.toList t EY [(y, false)] aZ env h) (l1 ++ l2) aZ env' h') [oi] env h := nS (cn (fun v h' hk => hk.2.2) GV)
  have TU : BrC ops t x y (x :: RX) cX cY (l1 ++ l2) := ⟨hpw, fun q hq => hc.hd q (by
   simp only [aqV, aqY] at hq ⊢
   exact hq.imp id .inr), hcX _ _ _ hc.x, hcY _ _ _ hc.y⟩
  have q : wpOp P ops Q i' (wpAny P .any ops Q (n + (x :: RX).length) (listed.setIfInBounds i' true)) a w := ja hT ops (fun env' h' a' w' μ' S' hk iv => ih (l1 ++ l2) (by simp at hn ⊢; omega) aZ _ env' h' a' w' μ' S' TU (fun q hq => cD q (by
   simp only [aqV, aqY] at hq ⊢
   exact hq.imp id .inr)) ⟨by simpa using fv, r1, r2⟩ hk iv) i' oi qW Dt env h a w μ S nf hs
  rw [show n + (x :: RX).length = n + 1 + RX.length from by simp; omega] at q
  exact q
 case z.refine_2.inr.inl | s.refine_2.inr.inl =>
  have oB : kD P T ops.toList t EX (l ++ [(i, false)]) aZ env h := pq l aZ env h (sq (fun _ _ _ q => q.1) l aZ env h hf)
  have GV := pL hEX (P := P) (T := T) (ops := ops) (t := t) uy l [] aZ env h (fun q hq => nh fY (hc.hd q hq).1 (by rw [aqV]; exact .inl (arj.2 ⟨q, hq, rfl⟩)) ux qP) oB
  have Ds : i ∉ l.map (·.1) ++ RX := fun hm => by
   rcases aqV.1 hm with hm | hm
   ·obtain ⟨q, hq, he⟩ := arj.1 hm
    exact ig (hc.hd q hq).1 he
   ·exact U6 hm
  obtain ⟨r1, r2⟩ := ng (L' := l.map (·.1) ++ RX) (fun j => by
   simp only [aqV, aqY]
   constructor
   ·rintro (h | h | h)
    ·exact atm
    ·exact .inl h
    ·exact .inr (.inr h)
   ·rintro (h | h | h)
    ·exact atm
    ·exact .inl h
    ·exact .inr (.inr h)) Ds fv sx x9 ux
  have nf : mH P T ops.toList (fun env' h' => kD P T ops.toList t EX l aZ env' h') [oi] env h := nS (cn (fun v h' hk => by have := hk.2.2; rwa [asc] at this) GV)
  have q : wpOp P ops Q i (wpAny P .any ops Q (l.length + RX.length) (listed.setIfInBounds i true)) a w := ja hT ops (fun env' h' a' w' μ' S' hk iv => hX l aZ _ env' h' a' w' μ' S' hc.x cD ⟨by simpa using fv, r1, r2⟩ hk iv) i oi qW Dt env h a w μ S nf hs
  rw [hn] at q
  exact q
 case z.refine_2.inr.inr | s.refine_2.inr.inr =>
  have oB : kD P T ops.toList t EY (l ++ [(i, false)]) aZ env h := pq l aZ env h (sq (fun _ _ _ q => q.2) l aZ env h hf)
  have GV := pL hEY (P := P) (T := T) (ops := ops) (t := t) uy l [] aZ env h (fun q hq => nh fY (hc.hd q hq).2.1 (by rw [aqV]; exact .inl (arj.2 ⟨q, hq, rfl⟩)) ux qP) oB
  have Ds : i ∉ l.map (·.1) ++ RY := fun hm => by
   rcases aqV.1 hm with hm | hm
   ·obtain ⟨q, hq, he⟩ := arj.1 hm
    exact ig (hc.hd q hq).2.1 he
   ·exact U7 hm
  obtain ⟨r1, r2⟩ := ng (L' := l.map (·.1) ++ RY) (fun j => by
   rw [aqV, Qp j, aqV]
   simp only [aqY]
   constructor
   ·rintro (h | h | h)
    ·exact atm
    ·exact .inl h
    ·exact .inr (.inr h)
   ·rintro (h | h | h)
    ·exact atm
    ·exact .inl h
    ·exact .inr (.inr h)) Ds fv sx x9 ux
  have nf : mH P T ops.toList (fun env' h' => kD P T ops.toList t EY l aZ env' h') [oi] env h := nS (cn (fun v h' hk => by have := hk.2.2; rwa [asc] at this) GV)
  have q : wpOp P ops Q i (wpAny P .any ops Q (l.length + RY.length) (listed.setIfInBounds i true)) a w := ja hT ops (fun env' h' a' w' μ' S' hk iv => hY l aZ _ env' h' a' w' μ' S' hc.y cD ⟨by simpa using fv, r1, r2⟩ hk iv) i oi qW Dt env h a w μ S nf hs
  rw [hn, ← hlen] at q
  exact q
theorem pz {ops : Array Oper} {t : List (Nat × List Nat)} : ∀ (l A : List (Nat × Bool)), bn ops t (l ++ A) = true → bn ops t l = true
 | [], _, _ => rfl
 | p :: l, A, h => by
  simp only [aqR, bn, As, aqW] at h ⊢
  exact ⟨fun q hq => h.1 q (arZ _ hq), pz l A h.2⟩
theorem yg {ops : Array Oper} {t : List (Nat × List Nat)} {ord : List (Nat × Bool)} {x y : Nat} {RX RY : List Nat} (h : Qr ops t ord x y RX RY = true) :
  RX.length = RY.length ∧ (∀ p, p ∈ ord → dh ops t p (x, false) = true ∧ dh ops t p (y, false) = true ∧ (∀ d, d ∈ bc ops.toList p.1 → d ∉ x :: RX) ∧ p.1 ∉ x :: RX) ∧ (∀ j, j ∈ x :: RX ↔ j ∈ y :: RY) ∧
  (∀ d, d ∈ bc ops.toList x → d ∉ x :: RX) ∧ x ∉ RX ∧ y ∉ RY ∧ (∀ j, j ∈ RX → j = y ∨ iI (b8 t j) x = true ∨ iI (b8 t j) y = true) := by
 unfold Qr at h
 simp only [As] at h
 obtain ⟨⟨⟨⟨⟨⟨⟨h1, h2⟩, h3⟩, h4⟩, h5⟩, h6⟩, h7⟩, h8⟩ := h
 rw [aqW] at h2 h3 h4 h5 h8
 have no : ∀ (L : List Nat) (z : Nat), (!(iI L z)) = true → z ∉ L := fun L z hz hm => by rw [pJ _ _ hm] at hz; cases hz
 refine ⟨No h1, fun p hp => ?_, fun j => ⟨fun hj => jD _ _ (h3 j hj), fun hj => jD _ _ (h4 j hj)⟩, fun d hd => no _ _ (h5 d hd), no _ _ h6, no _ _ h7, fun j hj => ?_⟩
 ·have := h2 p hp
  rw [As, As, As, aqW] at this
  exact ⟨this.1.1.1, this.1.1.2, fun d qc => no _ _ (this.1.2 d qc), no _ _ this.2⟩
 ·have := h8 j hj
  rw [arC, arC] at this
  rcases this with (q | q) | q
  ·exact .inl (No q)
  ·exact .inr (.inl q)
  ·exact .inr (.inr q)
theorem GW (hT : cd P T) (ops : Array Oper) {ord : List (Nat × Bool)} {x : Nat} {o1 : List (Nat × Bool)} {x1 : Nat} {sy : List (Nat × Bool)} {y1 : Nat} {BU : List (Nat × Bool)} {y : Nat} {rb : List (Nat × Bool)} (hc : wq ops ord x o1 x1 sy y1 BU y rb = true)
  {K : Env → List ak → Prop} {Q : Exit → Act → World → Prop} (hK : ∀ env h a w μ S, K env h → kk C μ h S env a w → Q .normal a w) (hd : ∀ o ∈ ops.toList, kn C.nt o = true) {env : Env} {h : List ak} {a : Act} {w : World}
  (hf : fw3 P T ops.toList (p4 ops.toList (ord ++ (x, false) :: (o1 ++ (x1, false) :: sy)) []) x o1 x1 sy y1 BU y rb K ord [] env h) (hs : kk C μ h S env a w) : wpAny P .any ops Q ops.size (Array.replicate ops.size false) a w := by
 unfold wq at hc
 simp only [As] at hc
 obtain ⟨⟨⟨⟨⟨⟨⟨hlen, hcv⟩, kQ⟩, Fh⟩, Nr⟩, T1⟩, lk⟩, nv⟩ := hc
 rw [aqW] at hcv kQ
 have hlen := No hlen
 generalize ht : p4 ops.toList (ord ++ (x, false) :: (o1 ++ (x1, false) :: sy)) [] = t at *
 have fY : ∀ i x, iI (b8 t i) x = true → zL ops.toList x i := by rw [← ht]; exact pK _ [] (fun i x hx => by simp [b8, iI] at hx)
 generalize hal : ord ++ (x, false) :: (o1 ++ (x1, false) :: sy) = al at *
 have cD : ∀ p, p ∈ al → p.1 < ops.size := fun p hp => by
  have := kQ p hp
  rw [As] at this
  exact arp this.1
 have wu : ∀ j, j < ops.size → j ∈ al.map (·.1) := fun j hj => jD _ _ (hcv j (ash.2 hj))
 have jU : ∀ i, i < ops.size → ∀ d, d ∈ bc ops.toList i → d < ops.size ∧ d ≠ i := fun i hi d qc => by
  obtain ⟨p, hp, rfl⟩ := arj.1 (wu i hi)
  have := kQ p hp
  rw [As, aqW] at this
  have := this.2 d qc
  rw [As] at this
  exact ⟨arp this.1, fun he => by rw [he, arY] at this; cases this.2⟩
 obtain ⟨b1, b2, b3, b4, b5, b6, b7⟩ := yg lk
 obtain ⟨c1, c2, c3, c4, c5, c6, c7⟩ := yg nv
 have mx : ∀ p, p ∈ ord ∨ p = (x, false) ∨ p ∈ o1 ∨ p = (x1, false) ∨ p ∈ sy → p.1 < ops.size := fun p hp => cD p (by
  rw [← hal]; simp only [aqV, aqY]; exact hp)
 have mid : ∀ j, j ∈ x1 :: sy.map (·.1) → j < ops.size := fun j hj => by
  rcases aqY.1 hj with rfl | hj
  ·exact mx (j, false) (.inr (.inr (.inr (.inl rfl))))
  ·obtain ⟨p, hp, rfl⟩ := arj.1 hj
   exact mx p (.inr (.inr (.inr (.inr hp))))
 have am8 : ∀ j, j ∈ x :: (o1.map (·.1) ++ x1 :: sy.map (·.1)) → j < ops.size := fun j hj => by
  rcases aqY.1 hj with rfl | hj
  ·exact mx (j, false) (.inr (.inl rfl))
  ·rcases aqV.1 hj with hj | hj
   ·obtain ⟨p, hp, rfl⟩ := arj.1 hj
    exact mx p (.inr (.inr (.inl hp)))
   ·exact mid j hj
 have app : ∀ {A : List (Nat × Bool)} (l1 : List (Nat × Bool)) (p : Nat × Bool) (l2 : List (Nat × Bool)), bn ops t ((l1 ++ p :: l2) ++ A) = true → bn ops t ((l1 ++ l2) ++ A) = true := fun {A} l1 p l2 q => by
  rw [amb] at q ⊢
  exact (fX l1 _ q).2
 have s1 := zQ (C := C) hT ops fY jU hK hd sy (fun p hp => mx p (.inr (.inr (.inr (.inr hp)))))
 have s2 := zQ (C := C) hT ops fY jU hK hd BU (fun p hp => mid p.1 ((c3 p.1).2 (arf _ (arj.2 ⟨p, hp, rfl⟩))))
 have s3 := zQ (C := C) hT ops fY jU hK hd rb (fun p hp => am8 p.1 ((b3 p.1).2 (arf _ (arj.2 ⟨p, hp, rfl⟩))))
 have in1 := MY (C := C) hT ops fY jU hd (x := x1) (y := y1) (nm sy) (nm BU) s1 s2 app app c1 c3 (mid x1 atv) c4 c5 c6 c7
 have in2 := Qq in1 o1 (fun p hp => mx p (.inr (.inr (.inl hp))))
 have out := MY (C := C) hT ops fY jU hd (x := x) (y := y) (lQ (yf (lQ (nm sy) _) (lQ (nm BU) _)) o1) (nm rb) in2 s3 (fun l1 p l2 q => by
  rw [amb] at q ⊢
  obtain ⟨q1, q2, q3, q4⟩ := q
  refine ⟨(fX l1 _ q1).2, fun r hr => q2 r ?_, ?_, ?_⟩
  ·simp only [aqV, aqY] at hr ⊢
   rcases hr with hr | hr | hr
   ·exact .inl hr
   ·exact .inr (.inl (.inr hr))
   ·exact .inr (.inr hr)
  ·have q3 : bn ops t ((l1 ++ (p :: l2 ++ o1)) ++ sy) = true := q3
   show bn ops t ((l1 ++ (l2 ++ o1)) ++ sy) = true
   rw [amb] at q3 ⊢
   exact (fX l1 _ q3).2
  ·have q4 : bn ops t ((l1 ++ (p :: l2 ++ o1)) ++ BU) = true := q4
   show bn ops t ((l1 ++ (l2 ++ o1)) ++ BU) = true
   rw [amb] at q4 ⊢
   exact (fX l1 _ q4).2) app b1 b3 (am8 x atv) b4 b5 b6 b7
 have hR : ∀ j, j ∈ ord.map (·.1) ++ x :: (o1.map (·.1) ++ x1 :: sy.map (·.1)) ↔ j ∈ al.map (·.1) := fun j => by rw [← hal]; simp
 have fv : ops.size = ord.length + (x :: (o1.map (·.1) ++ x1 :: sy.map (·.1))).length := by rw [← hlen, ← hal]; simp
 have := out ord [] (Array.replicate ops.size false) env h a w μ S ⟨pz ord _ T1, b2, ⟨pz _ _ Fh, c2, Fh, Nr⟩, T1⟩ (fun p hp => mx p (.inl hp))
  ⟨by simp, fun j hj => ⟨fun _ => (hR j).2 (wu j hj), fun _ => by simp [Array.getD, hj]⟩, fun j hj hn => absurd ((hR j).2 (wu j hj)) hn⟩
  (mu (fun aZ env h q => ⟨mu (E := fun aZ env h => fw P T ops.toList t K ((x1, false) :: sy) aZ env h ∧ fw P T ops.toList t K ((y1, false) :: BU) aZ env h) (fun aZ env h q => ⟨jQ _ _ _ _ q.1, jQ _ _ _ _ q.2⟩) ((x, false) :: o1) aZ env h q.1, jQ _ _ _ _ q.2⟩) ord [] env h hf) hs
 rw [← fv] at this
 exact this
theorem Qs {J : List (Nat × PV) → List ak → Prop} {env : Env} {h : List ak} {a : Act} {w : World} (hg : rY C.h.length J env h) : ∀ {μ : Mu} {S : Nat → Prop}, kk C μ h S env a w → ∃ σ η μ3 S3, kk C μ3 η S3 (tm kG σ) a w ∧ J σ η := by
 induction hg with
 | mk σ η ht hj =>
  intro μ S hs
  obtain ⟨μ3, S3, hs3⟩ := tn hs ht
  exact ⟨σ, η, μ3, S3, hs3, hj⟩
 | ex h1 hx hk ih =>
  intro μ S hs
  obtain ⟨μ1, MZ⟩ := hs.ex hx
  exact ih MZ
 | ab id i j sub h1 ha hk ih =>
  intro μ S hs
  obtain ⟨F, MZ⟩ := hs.ab ha
  exact ih F MZ
theorem Qt {m : Nat} {A B : XQ → Env → List ak → Prop} {Q : XQ} {env : Env} {h : List ak} {a : Act} {w : World} {S : Nat → Prop} (hv : pg m A B Q env h) : ∀ {μ : Mu}, kk C μ h S env a w →
  ∃ μ' h', kk C μ' h' S env a w ∧ (A (XQ.then (B Q) Q) env h' ∨ ∃ J, A (XQ.then (rY m J) Q) env h' ∧ ∀ σ η, J σ η → B Q (tm kG σ) η) := by
 induction hv with
 | direct hd => exact fun hs => ⟨_, _, hs, .inl hd⟩
 | cut J ha hb => exact fun hs => ⟨_, _, hs, .inr ⟨J, ha, hb⟩⟩
 | ex h1 hx hk ih =>
  intro μ hs
  obtain ⟨μ1, MZ⟩ := hs.ex hx
  exact ih MZ
 | ab id i j sub h1 ha hk ih =>
  intro μ hs
  obtain ⟨F, MZ⟩ := hs.ab ha
  exact ih F MZ
theorem ki (hT : cd P T) (qQ : P.follows .mixedOrders = true) : ∀ (c : Code) (Q : XQ) (env : Env) (h : List ak) (a : Act) (w : World) (μ : Mu) (S : Nat → Prop),
  vc P T C.h.length c Q env h → codeOk C.nt c = true → kk C μ h S env a w → c.wp P (tj C Q) a w
 | .skip, Q, env, h, a, w, μ, S, hv, _, hs => wp_skip ⟨μ, h, S, env, hs, hv⟩
 | .label _, Q, env, h, a, w, μ, S, hv, _, hs => wp_label ⟨μ, h, S, env, hs, hv⟩
 | .exit _, Q, env, h, a, w, μ, S, hv, _, hs => wp_exit ⟨μ, h, S, env, hs, hv⟩
 | .ret, Q, env, h, a, w, μ, S, hv, _, hs => wp_ret ⟨μ, h, S, env, hs, hv⟩
 | .region id ops d, Q, env, h, a, w, μ, S, hv, ud, hs => by
  simp only [codeOk, As, aqW] at ud
  have hd : ∀ o ∈ ops.toList, kn C.nt o = true := ud.1
  cases d with
  | false =>
   refine wp_region_list (qM hT ops (Q := tj C Q) (fun env h a w μ S hq hs => ⟨μ, h, S, env, hs, hq⟩) ops.toList env h a w μ S hv hd hs)
  | true =>
   have quiet : qO P T ops.toList h (fun env' => Q .normal env' h) ops.toList env → (Code.region id ops true).wp P (tj C Q) a w := fun hv => by
    refine wp_region_quiet (C := bF w) qQ (by simpa using ud.2) (bF.drew w) ?_
    exact nR hT ops h w μ S (fun env a hq hs w' hw' => ⟨μ, h, S, env, hs.agree hw', hq⟩) ops.toList env a hv hd hs
   have hv : (match ops.toList.all (fun o => yh o.op) with
    | true => qO P T ops.toList h (fun env' => Q .normal env' h) ops.toList env
    | false => qR P T C.h.length ops (fun env' h' => Q .normal env' h') env h) := hv
   split at hv
   ·exact quiet hv
   ·cases hv with
    | quiet hq => exact quiet hq
    | orders σ η hc ux hk =>
     refine wp_region_any qQ ?_
     refine wj hT ops (C := C) (K := fun env' h' => pf C.h.length env' h' σ η) (Q := tj C Q) (fun env' h' a' w' μ' S' ht iv => ?_) hd ops.size _ [] env h a _ μ S hc (by simpa using ux) (hs.agree (bF.drew w))
     obtain ⟨μ2, S2, hs2⟩ := tn iv ht
     exact ⟨μ2, η, S2, _, hs2, hk⟩
    | aa1 ord x ra y rb hc hf =>
     refine wp_region_any qQ ?_
     unfold BV at hc
     simp only [As] at hc
     obtain ⟨⟨⟨⟨⟨⟨⟨⟨⟨⟨⟨⟨hlen, am9⟩, hcv⟩, kQ⟩, MW⟩, U8⟩, zX⟩, ana⟩, anb⟩, hxA⟩, U6⟩, U7⟩, zO⟩ := hc
     rw [aqW] at hcv kQ zX ana anb hxA zO
     have hlen := No hlen
     have cD : ∀ p, p ∈ ord ++ (x, false) :: ra → p.1 < ops.size := fun p hp => by
      have := kQ p hp
      rw [As] at this
      exact arp this.1
     have wu : ∀ j, j < ops.size → j ∈ (ord ++ (x, false) :: ra).map (·.1) := fun j hj => jD _ _ (hcv j (ash.2 hj))
     have no : ∀ (L : List Nat) (z : Nat), (!(iI L z)) = true → z ∉ L := fun L z hz hm => by rw [pJ _ _ hm] at hz; cases hz
     rw [← hlen]
     exact MX hT ops (C := C) (pK _ [] (fun i x hx => by simp [b8, iI] at hx)) (fun i hi d qc => by
      obtain ⟨p, hp, rfl⟩ := arj.1 (wu i hi)
      have := kQ p hp
      rw [As, aqW] at this
      have := this.2 d qc
      rw [As] at this
      exact ⟨arp this.1, fun he => by rw [he, arY] at this; cases this.2⟩)
      (No am9) (fun j => ⟨fun hj => jD _ _ (ana j hj), fun hj => jD _ _ (anb j hj)⟩) (fun d qc => no _ _ (hxA d qc)) (no _ _ U6) (no _ _ U7)
      (fun p hp => by
       have := zO p hp
       rw [arC, arC] at this
       rcases this with (h1 | h1) | h1
       ·exact .inl (No h1)
       ·exact .inr (.inl h1)
       ·exact .inr (.inr h1))
      (K := M0 Q) (Q := tj C Q) (fun env h a w μ S hq hs => ⟨μ, h, S, env, hs, hq⟩) hd ord.length ord [] _ env h a _ μ S rfl MW U8 (fun p hp => by
       have := zX p hp
       rw [As, As, aqW] at this
       exact ⟨this.1.1, this.1.2, fun d qc => no _ _ (this.2 d qc)⟩) cD (by simp [hlen]) (fun j hj => ⟨fun _ => wu j hj, fun _ => by simp [Array.getD, hlen, hj]⟩) (fun j hj hn => absurd (wu j hj) hn) (pA _ _ _ _ hf) (hs.agree (bF.drew w))
    | aa2 ord x o1 x1 sy y1 BU y rb hc hf =>
     refine wp_region_any qQ ?_
     exact GW (C := C) hT ops hc (K := M0 Q) (Q := tj C Q) (fun env h a w μ S hq hs => ⟨μ, h, S, env, hs, hq⟩) hd hf (hs.agree (bF.drew w))
    | float ord hc hf =>
     refine wp_region_any qQ ?_
     unfold EJ at hc
     simp only [As, aqW, arE] at hc
     obtain ⟨⟨⟨hlen, hcv⟩, kQ⟩, hpo⟩ := hc
     have hlen := No hlen
     have cD : ∀ p, p ∈ ord → p.1 < ops.size := fun p hp => arp (kQ p hp).1
     have hnd : (ord.map (·.1)).Nodup := by
      have : ∀ (l : List (Nat × Bool)), bn ops (p4 ops.toList ord []) l = true → (l.map (·.1)).Nodup := fun l => by
       induction l with
       | nil => simp
       | cons p r ih =>
        intro hh
        simp only [bn, As, aqW] at hh
        simp only [adr, List.nodup_cons]
        refine ⟨fun hm => ?_, ih hh.2⟩
        obtain ⟨q, hq, he⟩ := arj.1 hm
        have := hh.1 q hq
        unfold dh at this
        simp only [As, arE] at this
        have := this.1.1
        rw [he, arY] at this
        cases this
      exact this _ hpo
     have wu : ∀ j, j < ops.size → j ∈ ord.map (·.1) := fun j hj => jD _ _ (hcv j (ash.2 hj))
     exact sj hT ops (C := C) (pK ord [] (fun i x hx => by simp [b8, iI] at hx)) (fun i hi d qc => by
      obtain ⟨p, hp, rfl⟩ := arj.1 (wu i hi)
      have := (kQ p hp).2 d qc
      exact ⟨arp this.1, fun he => by rw [he, arY] at this; cases this.2⟩)
      (K := fun env' h' => Q .normal env' h') (Q := tj C Q) (fun env h a w μ S hq hs => ⟨μ, h, S, env, hs, hq⟩) hd ops.size ord [] _ env h a _ μ S hlen hpo cD atv (fun j hj => ⟨fun _ => wu j hj, fun _ => by simp [Array.getD, hj]⟩) (fun j hj hn => absurd (wu j hj) hn) (jQ _ _ _ _ hf) (hs.agree (bF.drew w))
 | .seq x y, Q, env, h, a, w, μ, S, hv, ud, hs => by
  simp only [codeOk, As] at ud
  have hv : pg C.h.length (vc P T C.h.length x) (vc P T C.h.length y) Q env h := hv
  obtain ⟨μ, h, hs, hd | ⟨J, ha, hb⟩⟩ := Qt hv hs
  ·refine wp_seq (Code.wp_mono (fun e a' w' hl => ?_) (ki hT qQ x _ env h a w μ S hd ud.1 hs))
   cases e with
   | normal =>
    obtain ⟨μ', h', S', env', iv, hq⟩ := hl
    exact ki hT qQ y Q env' h' a' w' μ' S' hq ud.2 iv
   | exit id => exact hl
   | goto l => exact hl
   | ret => exact hl
   | panic ch => exact hl
   | outgrown => exact hl
  ·refine wp_seq (Code.wp_mono (fun e a' w' hl => ?_) (ki hT qQ x _ env h a w μ S ha ud.1 hs))
   cases e with
   | normal =>
    obtain ⟨μ', h', S', env', iv, hg⟩ := hl
    obtain ⟨σ, η, μ3, S3, hs3, hj⟩ := Qs hg iv
    exact ki hT qQ y Q _ η a' w' μ3 S3 (hb σ η hj) ud.2 hs3
   | exit id => exact hl
   | goto l => exact hl
   | ret => exact hl
   | panic ch => exact hl
   | outgrown => exact hl
 | .cond c x y, Q, env, h, a, w, μ, S, hv, ud, hs => by
  simp only [codeOk, As] at ud
  have hv : (match ev env c with
   | .bool t => eA t (vc P T C.h.length x Q env h) (vc P T C.h.length y Q env h)
   | _ => False) := hv
  have hc := bh hs.tmps c
  split at hv
  ·rename_i b he
   rw [he] at hc
   obtain ⟨h1, h2⟩ := iV hv
   exact wp_cond_split hc.j3 (fun hb => ki hT qQ x Q env h a w μ S (h1 hb) ud.1 hs) (fun hb => ki hT qQ y Q env h a w μ S (h2 hb) ud.2 hs)
  ·exact hv.elim
 | .block id c, Q, env, h, a, w, μ, S, hv, ud, hs => by
  refine wp_block (Code.wp_mono (fun e a' w' hl => ?_) (ki hT qQ c _ env h a w μ S hv ud hs))
  cases e with
  | exit id' =>
   obtain ⟨μ', h', S', env', iv, hq⟩ := hl
   show if id' = id then tj C Q .normal a' w' else tj C Q (.exit id') a' w'
   simp only [XQ.inBlock] at hq
   by_cases hid : id' = id
   ·rw [if_pos hid]
    subst hid
    rw [show Nat.beq id' id' = true by simp] at hq
    exact ⟨μ', h', S', env', iv, hq⟩
   ·rw [if_neg hid]
    have : Nat.beq id' id = false := by
     cases hb : Nat.beq id' id with
     | true => exact (hid (No hb)).elim
     | false => rfl
    rw [this] at hq
    exact ⟨μ', h', S', env', iv, hq⟩
  | normal => exact hl
  | goto l => exact hl
  | ret => exact hl
  | panic ch => exact hl
  | outgrown => exact hl
 | .loop c, Q, env, h, a, w, μ, S, hv, ud, hs => by
  intro b k cs
  replace hv : mo C.h.length (fun next => vc P T C.h.length c (XQ.then next Q)) env h := hv
  have key : ∀ (a : Act) (w : World) (μ : Mu) (S : Nat → Prop), kk C μ h S env a w → ∃ e a' w', tj C Q e a' w' ∧ Arrives P (lone (b.at a (.code c :: .inLoop c :: k)) cs w) b k cs e a' w' := by
   clear hs
   induction hv with
   | take σ η ht hk ih =>
    intro a w μ S hs
    obtain ⟨μ0, S0, Zy⟩ := tn hs ht
    exact ih a w μ0 S0 Zy
   | ex h1 hx hk ih =>
    intro a w μ S hs
    obtain ⟨μ1, MZ⟩ := hs.ex hx
    exact ih a w μ1 S MZ
   | ab id i j sub h1 ha hk ih =>
    intro a w μ S hs
    obtain ⟨F, MZ⟩ := hs.ab ha
    exact ih F a w μ S MZ
   | step N hN hb ih =>
    intro a w μ S hs
    obtain ⟨e, a₁, w₁, hq, BW⟩ := ki hT qQ c _ _ _ a w μ S hb ud hs b (.inLoop c :: k) cs
    cases e with
    | normal =>
     obtain ⟨μ2, h2, S2, aqO, hs2, hn⟩ := hq
     obtain ⟨e₂, a₂, w₂, hq₂, harr₂⟩ := ih _ _ hn a₁ w₁ μ2 S2 hs2
     exact ⟨e₂, a₂, w₂, hq₂, .of_steps (Steps.trans BW (.one step_inLoop)) harr₂⟩
    | exit id => exact ⟨_, a₁, w₁, hq, .pass (x := .inLoop c) rfl (fun _ _ => .inl atv) BW⟩
    | goto l => exact ⟨_, a₁, w₁, hq, .pass (x := .inLoop c) rfl (fun _ _ => .inl atv) BW⟩
    | ret => exact ⟨_, a₁, w₁, hq, .pass (x := .inLoop c) rfl (fun _ _ => .inl atv) BW⟩
    | panic ch => exact ⟨_, a₁, w₁, hq, .pass (x := .inLoop c) rfl (fun _ _ => .inl atv) BW⟩
    | outgrown => exact ⟨_, a₁, w₁, hq, .pass (x := .inLoop c) rfl (fun _ _ => .inl atv) BW⟩
  obtain ⟨e, a', w', hq, BW⟩ := key a w μ S hs
  exact ⟨e, a', w', hq, .of_steps (.one step_loop) BW⟩
 | .rangeFunc _ _ _ _, Q, env, h, a, w, μ, S, hv, _, _ => hv.elim
 | .scope _, Q, env, h, a, w, μ, S, hv, _, _ => hv.elim
 | .goto _, Q, env, h, a, w, μ, S, hv, _, _ => hv.elim
 | .refuse _, Q, env, h, a, w, μ, S, hv, _, _ => hv.elim
theorem M1 (hT : cd P T) (hH : bw μ h S w) (t : Nat) (px : PV) (v : Value) (hx : aY μ h S w px v) {K : PV → Prop} (hp : rO T t px h K) : ∃ pv val, K pv ∧ aY μ h S w pv val ∧ (do loadVar t (← asAddr v) : Sem Value).run P w = .ok val w := by
 obtain ⟨pv, val, hK, hv, hr⟩ := vw (P := P) (dst := none) (ty := 0) (pos := "") (after := #[]) (guard := none) (a := ⟨#[v], []⟩) hT hH t (.tmp 0) px (by simpa [Act.eval] using hx) hp
 refine ⟨pv, val, hK, hv, ?_⟩
 have := hr w (bF.refl w)
 have he : (execOp (Act.eval ⟨#[v], []⟩) ⟨none, .load t (.tmp 0), 0, "", #[], none⟩) = (do pure (Next.value (← Instr.loadAt t v)) : Sem Next) := rfl
 rw [he] at this
 have aqC : ∃ ad, v = .pointer (some ad) := by
  unfold rO at hp
  split at hp
  ·obtain ⟨b, off, vf, e1, _⟩ := hx.rI; exact ⟨_, e1⟩
  ·rename_i id gen i off
   split at hp
   ·rename_i g sz n e f hg
    obtain ⟨rfl, _⟩ := hp
    have hr := hx.oV
    unfold a6 at hr
    rw [dK hg] at hr
    obtain ⟨_, _, hr⟩ := hr
    obtain ⟨_, b, base, _, _, hv⟩ := hr rfl
    exact ⟨_, hv⟩
   ·exact asY
  ·exact asY
 obtain ⟨ad, rfl⟩ := aqC
 simp only [Instr.loadAt, Instr.sureAddr, asAddr, Sem.run_bind, Sem.run_pure, Result.andThen_ok] at this ⊢
 cases hl : (loadVar t ad).run P w with
 | ok u w' =>
  rw [hl] at this
  simp only [Result.andThen] at this
  injection this with h1 h2
  injection h1 with h1
  rw [h1, h2]
 | halt x w' => rw [hl] at this; cases this
theorem mJ (hT : cd P T) (hs : kk C μ h S env a w) : ∀ (rs : List ResultVar) (K : List PV → Prop), pM T env h rs K → ∃ (vs : List PV) (us : List Value), K vs ∧ us.length = vs.length ∧ (∀ (j : Nat) (pv : PV), vs[j]? = some pv → ∃ u, us[j]? = some u ∧ aY μ h S w pv u) ∧
  (rs.mapM (fun | .tmp t => pure (a.tmps.getD t undef) | .cell ad t => (do loadVar t (← asAddr (a.tmps.getD ad undef))) : ResultVar → Sem Value)).run P w = .ok us w
 | [], K, hp => ⟨[], [], hp, rfl, fun j pv hj => by simp at hj, rfl⟩
 | .tmp t :: r, K, hp => by
  obtain ⟨vs, us, hK, h1, h2, h3⟩ := mJ hT hs r _ hp
  refine ⟨env t :: vs, a.tmps.getD t undef :: us, hK, by simp [h1], fun j pv hj => ?_, ?_⟩
  ·cases j with
   | zero => simp at hj; subst hj; exact ⟨_, rfl, hs.tmps t⟩
   | succ j => simp at hj; obtain ⟨u, q1, q2⟩ := h2 j pv hj; exact ⟨u, by simpa using q1, q2⟩
  ·simp only [List.mapM_cons, Sem.run_bind, Sem.run_pure, Result.andThen_ok, h3]
 | .cell ad t :: r, K, hp => by
  obtain ⟨pv, val, hK, hv, hr⟩ := M1 hT hs.core.heap t _ _ (hs.tmps ad) hp
  obtain ⟨vs, us, hK, h1, h2, h3⟩ := mJ hT hs r _ hK
  refine ⟨pv :: vs, val :: us, hK, by simp [h1], fun j eg hj => ?_, ?_⟩
  ·cases j with
   | zero => simp at hj; subst hj; exact ⟨_, rfl, hv⟩
   | succ j => simp at hj; obtain ⟨u, q1, q2⟩ := h2 j eg hj; exact ⟨u, by simpa using q1, q2⟩
  ·simp only [List.mapM_cons, Sem.run_bind, hr, Result.andThen_ok, h3, Sem.run_pure]
end
section
variable {P : Program} {T : lq}
def valOf : List Value → Value
 | [v] => v
 | us => .tuple us.toArray
theorem BX {fn : Func} {tmps : Array Value} {us : List Value} {w : World}
  (hm : (fn.results.toList.mapM (fun | .tmp t => pure (tmps.getD t undef) | .cell ad t => (do loadVar t (← asAddr (tmps.getD ad undef))) : ResultVar → Sem Value)).run P w = .ok us w) :
  (results fn tmps).run P w = .ok (valOf us) w := by
 unfold results
 rw [Array.mapM_eq_mapM_toList]
 simp only [map_eq_pure_bind, bind_assoc, pure_bind, Sem.run_bind]
 have key : ∀ X : Result (List Value), X = .ok us w → (X.andThen fun a w' => Sem.run P (pure (if h : a.toArray.size = 1 then a.toArray[0] else Value.tuple a.toArray)) w') = .ok (valOf us) w := by
  rintro _ rfl
  simp only [Result.andThen_ok, Sem.run_pure]
  congr 1
  match us with
  | [] => rfl
  | [v] => rfl
  | v :: u :: r => simp [valOf]
 exact key _ hm
theorem M3 {C : Start} {m : Nat} {R : PV → List ak → Prop} {env : Env} {h : List ak} {a : Act} {w : World} {S : Nat → Prop} {vs : List PV} {us : List Value} (hE : Ends m R h vs) : ∀ {μ : Mu}, kk C μ h S env a w →
  (∀ (j : Nat) (pv : PV), vs[j]? = some pv → ∃ u, us[j]? = some u ∧ aY μ h S w pv u) → ∃ μ' h', kk C μ' h' S env a w ∧ (∀ (j : Nat) (pv : PV), vs[j]? = some pv → ∃ u, us[j]? = some u ∧ aY μ' h' S w pv u) ∧
   vs.all kg = true ∧ ∃ (k : List Nat) (res : PV) (η : List ak), k8 (kU η k) = true ∧ m ≤ k.length ∧ Fz h' η k (oneOf vs) res ∧ lN h' η k m 0 η k ∧ R res η := by
 induction hE with
 | mk hn k res η hk hm hz hh hR => exact fun hs h2 => ⟨_, _, hs, h2, hn, k, res, η, hk, hm, hz, hh, hR⟩
 | ex h1 hx hk ih =>
  intro μ hs h2
  obtain ⟨μ1, hf, hc⟩ := EH hs.core hx
  exact ih (hs.turn hf hc) (fun j pv hj => let ⟨u, q1, q2⟩ := h2 j pv hj; ⟨u, q1, q2.fr hf hs.core.ok⟩)
 | ab id i j sub h1 ha hk ih =>
  intro μ hs h2
  obtain ⟨hf, hc⟩ := EI hs.core (ha (FAb μ _ sub))
  exact ih _ (hs.turn hf hc) (fun j pv hj => let ⟨u, q1, q2⟩ := h2 j pv hj; ⟨u, q1, q2.fr hf hs.core.ok⟩)
theorem ACall.amW (hT : cd P T) (qQ : P.follows .mixedOrders = true) {f : FuncId} {fn : Func} {c : Code} (hf : P.funcs[f]? = some fn) (hb : fn.body = some c) (rZ : (fn.name == "runtime.NumGoroutine") = false)
  (args : List PV) (h : List ak) (R : PV → List ak → Prop) (hn : Nat.ble args.length fn.ntmps = true) (ud : codeOk fn.ntmps c = true)
  (hv : vc P T h.length c (amV T fn.results.toList h.length R) (pj args) h) : ACall P f args h R := by
 refine ⟨⟨fn, c, hf, hb, rZ⟩, fun w vs μ S hH hM fv mN => ?_⟩
 have hn := arp hn
 let C : Start := ⟨μ, h, S, w, fn.ntmps⟩
 have hs : kk C μ h S (pj args) ⟨vs ++ Array.replicate (fn.ntmps - vs.size) undef, []⟩ w := by
  refine ⟨⟨hH, hM⟩, Fr.refl, fun t => ?_, by simp; show _ = fn.ntmps; omega, fun t ht => ?_, rfl⟩
  ·unfold pj
   rw [arc]
   cases ha : args[t]? with
   | none => trivial
   | some pv =>
    obtain ⟨v, h1, h2⟩ := mN t pv ha
    have cD : t < vs.size := (aqT.1 h1).1
    have : (vs ++ Array.replicate (fn.ntmps - vs.size) undef).getD t undef = v := by
     rw [Array.getD_eq_getD_getElem?, arI cD, h1]; rfl
    simp only [asF]
    rw [this]
    exact aY.Qh h2
  ·unfold pj
   rw [arc, arA]
   ·rfl
   ·exact arN hn ht
 refine calls_of_wp hf hb ?_
 refine Code.wp_mono (fun e a' w' hl => ?_) (ki (C := C) hT qQ c _ _ h _ w μ S hv ud hs)
 obtain ⟨μ', h', S', env', iv, hq⟩ := hl
 have fin : pM T env' h' fn.results.toList (Ends h.length R h') → a'.defers = [] ∧ ∃ v, (results fn a'.tmps).run P w' = .ok v w' ∧
   (∃ (v' : Value) (res : PV) (Qu : List ak) (μ'' : Mu) (S'' : Nat → Prop), Ending.returned v = .returned v' ∧ R res Qu ∧ aY μ'' Qu S'' w' res v' ∧ bw μ'' Qu S'' w' ∧ nC μ'' Qu S'' w' ∧ Fr μ h S w μ'' Qu S'' w') := fun hr => by
  obtain ⟨U9, us, hE, h1, h2, h3⟩ := mJ hT iv _ _ hr
  refine ⟨iv.defers, _, BX h3, ?_⟩
  obtain ⟨μ', h', iv, h2, UZ, k, res, η, hk, hm, hz, hh, hR⟩ := M3 hE iv h2
  have hvr : aY μ' h' S' w' (oneOf U9) (valOf us) := by
   have key : (∀ v, U9 ≠ [v]) → aY μ' h' S' w' (oneOf U9) (valOf us) := fun nr => by
    have e1 : oneOf U9 = .aU U9 := by
     match U9, nr with
     | [], _ => rfl
     | [v], nr => exact (nr v rfl).elim
     | a :: b :: r, _ => rfl
    have e2 : valOf us = .tuple us.toArray := by
     match us, h1 with
     | [], _ => rfl
     | [v], h1 =>
      match U9, h1, nr with
      | [x], _, nr => exact (nr x rfl).elim
     | a :: b :: r, _ => rfl
    rw [e1, e2]
    refine ⟨_, rfl, by simpa using h1, fun j pv hj => ?_⟩
    obtain ⟨u, q1, q2⟩ := h2 j pv hj
    refine ⟨u, by simpa using q1, ?_⟩
    have hp : kg pv = true := (aqW.1 UZ) pv (arh hj)
    cases pv with
    | aU ps => cases hp
    | _ => exact q2
   match U9, us, h1 with
   | [v], [u], _ =>
    obtain ⟨u', q1, q2⟩ := h2 0 v rfl
    simp at q1
    subst q1
    exact q2
   | [], us, _ => exact key (fun v hv => by cases hv)
   | a :: b :: r, us, _ => exact key (fun v hv => by cases hv)
  obtain ⟨mQ, _, _⟩ := sh iv.core hh hk
  exact ⟨_, res, η, jJ μ' h' k, x5 μ' h' k S', rfl, hR, (pn iv.core hh hz).2.2 _ hvr, mQ.heap, mQ.ok, U0 (C := C) iv.core iv.fr hh hk hm⟩
 cases e with
 | ret => exact fin hq
 | normal => exact fin hq
 | exit id => exact hq.elim
 | goto l => exact hq.elim
 | panic ch => exact hq.elim
 | outgrown => exact hq.elim
theorem ACall.mono {f : FuncId} {args : List PV} {h : List ak} {R R' : PV → List ak → Prop} (hc : ACall P f args h R) (hr : ∀ res h', R res h' → R' res h') : ACall P f args h R' :=
 ⟨hc.1, fun w vs μ S hH hM fv ha => (hc.2 w vs μ S hH hM fv ha).mono fun e w' ⟨v, res, h', μ', S', he, hR, rest⟩ => ⟨v, res, h', μ', S', he, hr _ _ hR, rest⟩⟩
end
def lM (N : Nat) : PV → PV
 | .own id gen off len => .own (N + id) gen off len
 | .aM id gen i off => .aM (N + id) gen i off
 | .kP id => .kP (N + id)
 | .kX f bp => .kX f (nT (N + ·) bp)
 | v => v
def Dw (N : Nat) : PV → PV
 | .agg cs => .agg (cs.map (lM N))
 | v => lM N v
def pe (N : Nat) : PV → PV
 | .aU vs => .aU (vs.map (Dw N))
 | v => Dw N v
def fC (N : Nat) : ak → ak
 | .row g sz n e f => .row g sz n e (fun i => (f i).map (lM N))
 | .dead => .dead
def Mr : PV → Bool
 | .agg cs => cs.all bZ
 | v => bZ v
def lO : PV → Bool
 | .eu _ _ _ => false
 | .dY _ => false
 | .fm _ _ _ _ _ => false
 | _ => true
def Va : PV → Bool
 | .agg cs => cs.all lO
 | v => lO v
def Et : PV → Bool
 | .aU vs => vs.all Va
 | v => Va v
def Mg : ak → Prop
 | .row _ _ n _ f => ∀ i, i < n → (f i).all lO = true
 | .dead => True
section
variable {P : Program} {T : lq} {μ μ0 : Mu} {h h0 : List ak} {S S0 S' : Nat → Prop} {w w' : World}
def im (μ : Mu) (N : Nat) (μ0 : Mu) : Mu := fun id => if id < N then μ id else μ0 (id - N)
theorem tR {N : Nat} {a : PV} (h : ir a = true) : lM N a = a := by cases a <;> first | rfl | cases h
theorem lp (N : Nat) (hN : h.length = N) (id : Nat) : (h ++ h0.map (fC N))[N + id]? = (h0[id]?).map (fC N) := by
 subst hN
 rw [arn att, asu, ark]
theorem nU (N id : Nat) : im μ N μ0 (N + id) = μ0 id := by
 unfold im
 rw [if_neg att, asu]
theorem cN (G : PV → Prop) (hG : ∀ pv v, G pv → aE S0 w' pv v → aE S' w' pv v) {pv : PV} {v : Value} (hg : G pv) (hc : bm μ0 h0 S0 w' pv v) :
  bm (im μ h.length μ0) (h ++ h0.map (fC h.length)) S' w' (lM h.length pv) v := by
 have pB : ∀ (id gen i off : Nat) (v : Value), a6 μ0 h0 w' id gen i off v → a6 (im μ h.length μ0) (h ++ h0.map (fC h.length)) w' (h.length + id) gen i off v := fun id gen i off v hc => by
  unfold a6 at hc ⊢
  rw [lp _ rfl, nU]
  obtain ⟨h1, h2⟩ := hc
  refine ⟨h1, ?_⟩
  cases ho : h0[id]? with
  | none => rw [ho] at h2; exact h2
  | some o =>
   rw [ho] at h2
   cases o with
   | dead => trivial
   | row g sz n e f => exact h2
 cases pv with
 | own id gen off len =>
  have hc : aV μ0 h0 w' id gen off len v := hc
  show aV _ _ _ (h.length + id) gen off len v
  unfold aV at hc ⊢
  rw [lp _ rfl, nU]
  obtain ⟨h1, h2⟩ := hc
  refine ⟨h1, ?_⟩
  cases ho : h0[id]? with
  | none => rw [ho] at h2; exact h2
  | some o =>
   rw [ho] at h2
   cases o with
   | dead => trivial
   | row g sz n e f => exact h2
 | aM id gen i off => exact pB _ _ _ _ _ hc
 | kX f bp => exact oh.map (O := fun id g u => a6 (im μ h.length μ0) (h ++ h0.map (fC h.length)) w' id g 0 0 u) (oh.mono (show k6 μ0 h0 w' f bp v from hc) (fun id g u hu => pB id g 0 0 u hu))
 | kP id =>
  have hc : ew μ0 h0 w' id v := hc
  show ew _ _ _ (h.length + id) v
  unfold ew at hc ⊢
  rw [lp _ rfl, nU]
  obtain ⟨h1, h2⟩ := hc
  refine ⟨h1, ?_⟩
  cases ho : h0[id]? with
  | none => rw [ho] at h2; exact h2
  | some o =>
   rw [ho] at h2
   cases o with
   | dead => trivial
   | row g sz n e f => exact h2
 | fO => exact hc
 | fm sz n e f F => exact hc
 | agg cs => exact (show False from hc).elim
 | aU cs => exact (show False from hc).elim
 | int k n => exact hG _ _ hg hc
 | bool b => exact hG _ _ hg hc
 | str s => exact hG _ _ hg hc
 | bf => exact hG _ _ hg hc
 | dt => exact hG _ _ hg hc
 | eu sz n f => exact hG _ _ hg hc
 | dY cs => exact hG _ _ hg hc
 | fn f => exact hG _ _ hg hc
theorem cO (G : PV → Prop) (hG : ∀ pv v, G pv → aE S0 w' pv v → aE S' w' pv v) {pv : PV} {v : Value} (hg : match pv with | .agg cs => ∀ c ∈ cs, G c | v => G v) (hc : gn μ0 h0 S0 w' pv v) :
  gn (im μ h.length μ0) (h ++ h0.map (fC h.length)) S' w' (Dw h.length pv) v := by
 cases pv with
 | agg cs =>
  obtain ⟨vs, h1, h2, h3⟩ := hc
  refine ⟨vs, h1, by simpa using h2, fun j pv hj => ?_⟩
  rw [ark] at hj
  cases hx : cs[j]? with
  | none => rw [hx] at hj; cases hj
  | some c =>
   rw [hx] at hj
   injection hj with hj
   subst hj
   obtain ⟨u, q1, q2⟩ := h3 j c hx
   exact ⟨u, q1, cN G hG (hg c (arh hx)) q2⟩
 | fO => trivial
 | fm sz n e f F => exact cN (μ := μ) (μ0 := μ0) (h := h) (h0 := h0) (pv := .fm sz n e f F) G hG hg hc
 | aU cs => exact (show False from hc).elim
 | own id gen off len => exact cN (μ := μ) (μ0 := μ0) (h := h) (h0 := h0) (pv := .own id gen off len) G hG hg hc
 | aM id gen i off => exact cN (μ := μ) (μ0 := μ0) (h := h) (h0 := h0) (pv := .aM id gen i off) G hG hg hc
 | kP id => exact cN (μ := μ) (μ0 := μ0) (h := h) (h0 := h0) (pv := .kP id) G hG hg hc
 | kX f bp => exact cN (μ := μ) (μ0 := μ0) (h := h) (h0 := h0) (pv := .kX f bp) G hG hg hc
 | int k n => exact cN (μ := μ) (μ0 := μ0) (h := h) (h0 := h0) (pv := .int k n) G hG hg hc
 | bool b => exact cN (μ := μ) (μ0 := μ0) (h := h) (h0 := h0) (pv := .bool b) G hG hg hc
 | str s => exact cN (μ := μ) (μ0 := μ0) (h := h) (h0 := h0) (pv := .str s) G hG hg hc
 | bf => exact cN (μ := μ) (μ0 := μ0) (h := h) (h0 := h0) (pv := .bf) G hG hg hc
 | dt => exact cN (μ := μ) (μ0 := μ0) (h := h) (h0 := h0) (pv := .dt) G hG hg hc
 | eu sz n f => exact cN (μ := μ) (μ0 := μ0) (h := h) (h0 := h0) (pv := .eu sz n f) G hG hg hc
 | dY cs => exact cN (μ := μ) (μ0 := μ0) (h := h) (h0 := h0) (pv := .dY cs) G hG hg hc
 | fn f => exact cN (μ := μ) (μ0 := μ0) (h := h) (h0 := h0) (pv := .fn f) G hG hg hc
def Qv (G : PV → Prop) : PV → Prop
 | .aU vs => ∀ v ∈ vs, (match v with | .agg cs => ∀ c ∈ cs, G c | v => G v)
 | .agg cs => ∀ c ∈ cs, G c
 | v => G v
theorem wv (G : PV → Prop) (hG : ∀ pv v, G pv → aE S0 w' pv v → aE S' w' pv v) {pv : PV} {v : Value} (hg : Qv G pv) (hc : aY μ0 h0 S0 w' pv v) :
  aY (im μ h.length μ0) (h ++ h0.map (fC h.length)) S' w' (pe h.length pv) v := by
 cases pv with
 | aU cs =>
  obtain ⟨vs, h1, h2, h3⟩ := hc
  refine ⟨vs, h1, by simpa using h2, fun j pv hj => ?_⟩
  rw [ark] at hj
  cases hx : cs[j]? with
  | none => rw [hx] at hj; cases hj
  | some c =>
   rw [hx] at hj
   injection hj with hj
   subst hj
   obtain ⟨u, q1, q2⟩ := h3 j c hx
   exact ⟨u, q1, cO G hG (hg c (arh hx)) q2⟩
 | agg cs => exact cO (μ := μ) (μ0 := μ0) (h := h) (h0 := h0) (pv := .agg cs) G hG hg hc
 | fO => trivial
 | fm sz n e f F => exact cO (μ := μ) (μ0 := μ0) (h := h) (h0 := h0) (pv := .fm sz n e f F) G hG hg hc
 | own id gen off len => exact cO (μ := μ) (μ0 := μ0) (h := h) (h0 := h0) (pv := .own id gen off len) G hG hg hc
 | aM id gen i off => exact cO (μ := μ) (μ0 := μ0) (h := h) (h0 := h0) (pv := .aM id gen i off) G hG hg hc
 | kP id => exact cO (μ := μ) (μ0 := μ0) (h := h) (h0 := h0) (pv := .kP id) G hG hg hc
 | kX f bp => exact cO (μ := μ) (μ0 := μ0) (h := h) (h0 := h0) (pv := .kX f bp) G hG hg hc
 | int k n => exact cO (μ := μ) (μ0 := μ0) (h := h) (h0 := h0) (pv := .int k n) G hG hg hc
 | bool b => exact cO (μ := μ) (μ0 := μ0) (h := h) (h0 := h0) (pv := .bool b) G hG hg hc
 | str s => exact cO (μ := μ) (μ0 := μ0) (h := h) (h0 := h0) (pv := .str s) G hG hg hc
 | bf => exact cO (μ := μ) (μ0 := μ0) (h := h) (h0 := h0) (pv := .bf) G hG hg hc
 | dt => exact cO (μ := μ) (μ0 := μ0) (h := h) (h0 := h0) (pv := .dt) G hG hg hc
 | eu sz n f => exact cO (μ := μ) (μ0 := μ0) (h := h) (h0 := h0) (pv := .eu sz n f) G hG hg hc
 | dY cs => exact cO (μ := μ) (μ0 := μ0) (h := h) (h0 := h0) (pv := .dY cs) G hG hg hc
 | fn f => exact cO (μ := μ) (μ0 := μ0) (h := h) (h0 := h0) (pv := .fn f) G hG hg hc
theorem yi (hH : bw μ h S w) (hM : nC μ h S w) {μc : Mu} {Sc : Nat → Prop} (hF : Fr μc [] Sc w μ0 h0 S0 w') (Vb : bw μ0 h0 S0 w') (zY : nC μ0 h0 S0 w')
  (G : PV → Prop) (hG : ∀ pv v, G pv → aE S0 w' pv v → aE S' w' pv v) (ane : ∀ (id g sz n : Nat) (e : TypeId) (f : Nat → List PV), h0[id]? = some (ak.row g sz n e f) → ∀ i, i < n → ∀ c ∈ f i, (eC c = false → G c) ∧ (eC c = true → OG G c))
  (hS1 : ∀ b, S b → S' b) (hS2 : ∀ b, S' b → S b ∨ w.heap.size ≤ b) (hS3 : ∀ b, S' b → b < w'.heap.size) (hS4 : ∀ b, S' b → ¬ bH μ0 h0 b) :
  bw (im μ h.length μ0) (h ++ h0.map (fC h.length)) S' w' ∧ nC (im μ h.length μ0) (h ++ h0.map (fC h.length)) S' w' ∧ Fr μ h S w (im μ h.length μ0) (h ++ h0.map (fC h.length)) S' w' := by
 have w4 : ∀ b, ¬ bH μc [] b := fun b => je
 have iu : ∀ b, b < w.heap.size → w'.heap[b]? = w.heap[b]? := fun b hb => hF.blocks b hb (w4 b)
 have Dx : ∀ b, bH μ0 h0 b → w.heap.size ≤ b := fun b hb => (hF.own b hb).resolve_left (w4 b)
 have mj : ∀ id o, h[id]? = some o → (h ++ h0.map (fC h.length))[id]? = some o ∧ im μ h.length μ0 id = μ id := fun id o hid => by
  have cD := (At.1 hid).1
  exact ⟨by rw [art cD]; exact hid, by unfold im; rw [if_pos cD]⟩
 have inv : ∀ (id g sz n : Nat) (e : TypeId) (f : Nat → List PV), (h ++ h0.map (fC h.length))[id]? = some (ak.row g sz n e f) →
   (h[id]? = some (ak.row g sz n e f) ∧ im μ h.length μ0 id = μ id) ∨ ∃ wI f0, id = h.length + wI ∧ h0[wI]? = some (ak.row g sz n e f0) ∧ im μ h.length μ0 id = μ0 wI ∧ f = fun i => (f0 i).map (lM h.length) := fun id g sz n e f hid => by
  rcases arO id h.length with cD | NB
  ·rw [art cD] at hid
   exact .inl ⟨hid, by unfold im; rw [if_pos cD]⟩
  ·obtain ⟨wI, rfl⟩ : ∃ wI, id = h.length + wI := ⟨id - h.length, by omega⟩
   rw [lp _ rfl] at hid
   cases ho : h0[wI]? with
   | none => rw [ho] at hid; cases hid
   | some o =>
    rw [ho] at hid
    cases o with
    | dead => cases hid
    | row g0 Ql n0 e0 f0 =>
     injection hid with hid
     injection hid with e1 e2 e3 e4 e5
     subst e1 e2 e3 e4 e5
     exact .inr ⟨wI, f0, rfl, ho, nU _ _, rfl⟩
 have uv : ∀ b, w8 (im μ h.length μ0) (h ++ h0.map (fC h.length)) b → w8 μ h b ∨ w8 μ0 h0 b := fun b ⟨id, g, sz, n, e, f, base, hid, hm⟩ => by
  rcases inv id g sz n e f hid with ⟨h1, h2⟩ | ⟨wI, f0, rfl, h1, h2, _⟩
  ·rw [h2] at hm; exact .inl ⟨id, g, sz, n, e, f, base, h1, hm⟩
  ·rw [h2] at hm; exact .inr ⟨wI, g, sz, n, e, f0, base, h1, hm⟩
 have aqD : ∀ {c : PV} {sz n : Nat} {e : TypeId} {f : Nat → List PV} {F : Nat → Prop}, lM h.length c = .fm sz n e f F → c = .fm sz n e f F := fun {c} _ _ _ _ _ hc => by
  cases c <;> first | exact hc | cases hc
 have lZ : ∀ id i j b, cA (h ++ h0.map (fC h.length)) id i j b → cA h id i j b ∨ ∃ wI, id = h.length + wI ∧ cA h0 wI i j b := fun id i j b ⟨g, sz, n, e, f, bs, n', e', f', F', q1, q2, q3, q4⟩ => by
  rcases inv id g sz n e f q1 with ⟨h1, h2⟩ | ⟨wI, f0, rfl, h1, h2, rfl⟩
  ·exact .inl ⟨_, _, _, _, _, _, _, _, _, _, h1, q2, q3, q4⟩
  ·rw [ark] at q3
   cases hx : (f0 i)[j]? with
   | none => rw [hx] at q3; cases q3
   | some c =>
    rw [hx] at q3
    injection q3 with q3
    rw [aqD q3] at hx
    exact .inr ⟨wI, rfl, _, _, _, _, _, _, _, _, _, _, h1, q2, hx, q4⟩
 have kh : ∀ b, bH (im μ h.length μ0) (h ++ h0.map (fC h.length)) b → bH μ h b ∨ bH μ0 h0 b := fun b hb => by
  rcases hb with hb | ⟨x, y, z, hb⟩
  ·exact (uv b hb).imp .inl .inl
  ·rcases lZ x y z b hb with q | ⟨_, _, q⟩
   ·exact .inl (.inr ⟨_, _, _, q⟩)
   ·exact .inr (.inr ⟨_, _, _, q⟩)
 have ji : Fr μ h S w (im μ h.length μ0) (h ++ h0.map (fC h.length)) S' w' := by
  refine ⟨by simp, fun b hb _ => iu b hb, hS1, fun b hb => (hS2 b hb).imp id .inr, fun b hb => (kh b hb).imp id (Dx b), hF.size, hF.os, hF.tape, hF.output, fun id g sz n e f hid => ?_, fun id hid => (mj id _ hid).1, fun b k hb hc => iq.of_same (iu b hc.lt) hc, fun id g sz n e f b base hid hm kY => ⟨let ⟨es, c, q⟩ := kY; ⟨es, c, (iu b (aqT.1 q).1).trans q⟩, .inr ⟨⟨_, _, _, _, _, (mj id _ hid).1⟩, (mj id _ hid).2.trans hm⟩⟩, fun b _ _ _ hx kY => let ⟨es, c, q⟩ := kY; ⟨es, c, (iu b (aqT.1 q).1).trans q⟩⟩
  obtain ⟨h1, h2⟩ := mj id _ hid
  rw [h1]
  exact ⟨aqP _, fun _ => ⟨h2, rfl, rfl, rfl⟩⟩
 refine ⟨fun id g sz n e f hid => ?_, ⟨fun b hb hs => ?_, fun b hb => ?_, hS3, ?_, hM.vJ ji, fun b hb x y z hx => ?_, fun b x y z x' y' z' hx qB => ?_⟩, ji⟩
 rotate_right 2
 ·rcases uv b hb with h1 | h1
  ·rcases lZ x y z b hx with h2 | ⟨_, _, h2⟩
   ·exact hM.hv b h1 _ _ _ h2
   ·have a1 := hM.lt b (.inl h1)
    have a2 := Dx b (.inr ⟨_, _, _, h2⟩)
    omega
  ·rcases lZ x y z b hx with h2 | ⟨_, _, h2⟩
   ·have a1 := hM.lt b (.inr ⟨_, _, _, h2⟩)
    have a2 := Dx b (.inl h1)
    omega
   ·exact zY.hv b h1 _ _ _ h2
 ·rcases lZ x y z b hx with h1 | ⟨u1, rfl, h1⟩
  ·rcases lZ x' y' z' b qB with h2 | ⟨u2, rfl, h2⟩
   ·exact hM.hh b _ _ _ _ _ _ h1 h2
   ·have a1 := hM.lt b (.inr ⟨_, _, _, h1⟩)
    have a2 := Dx b (.inr ⟨_, _, _, h2⟩)
    omega
  ·rcases lZ x' y' z' b qB with h2 | ⟨u2, rfl, h2⟩
   ·have a1 := hM.lt b (.inr ⟨_, _, _, h2⟩)
    have a2 := Dx b (.inr ⟨_, _, _, h1⟩)
    omega
   ·obtain ⟨e1, e2, e3⟩ := zY.hh b _ _ _ _ _ _ h1 h2
    exact ⟨by rw [e1], e2, e3⟩
 ·rcases inv id g sz n e f hid with ⟨h1, h2⟩ | ⟨wI, f0, rfl, h1, h2, rfl⟩
  ·obtain ⟨q1, q2⟩ := hH id g sz n e f h1
   refine ⟨q1, ?_⟩
   rw [h2]
   cases hm : μ id with
   | none => rw [hm] at q2; exact q2
   | some p =>
    obtain ⟨b, base⟩ := p
    rw [hm] at q2
    obtain ⟨o, r1, r2⟩ := q2
    have cD : b < w.heap.size := (aqT.1 r1).1
    exact ⟨o, (iu b cD).trans r1, r2.mono (fun i y pv v hi hy hr => hr.fr ji hM (fun bs n' e' f' F' he b2 nv => iu b2 (hM.lt b2 (.inr ⟨id, i, y, _, _, _, _, _, _, _, _, _, _, h1, hi, he ▸ hy, nv⟩))))⟩
  ·obtain ⟨q1, q2⟩ := Vb wI g sz n e f0 h1
   refine ⟨fun i hi => by simpa using q1 i hi, ?_⟩
   rw [h2]
   cases hm : μ0 wI with
   | none => rw [hm] at q2; exact q2
   | some p =>
    obtain ⟨b, base⟩ := p
    rw [hm] at q2
    obtain ⟨o, r1, r2⟩ := q2
    refine ⟨o, r1, ?_⟩
    cases o with
    | cells cur e' z =>
     obtain ⟨x1, x2, x3, r3⟩ := r2
     refine ⟨x1, x2, x3, fun i j pv hi hj => ?_⟩
     rw [ark] at hj
     cases hx : (f0 i)[j]? with
     | none => rw [hx] at hj; cases hj
     | some c =>
      rw [hx] at hj
      injection hj with hj
      subst hj
      obtain ⟨v, s1, s2⟩ := r3 i j c hi hx
      obtain ⟨g1, g2⟩ := ane wI g sz n e f0 h1 i hi c (arh hx)
      refine ⟨v, s1, ?_⟩
      cases ho : eC c with
      | false => exact bm.k (cN G hG (g1 ho) s2.c) (by cases c <;> first | rfl | cases ho)
      | true =>
       cases c with
       | fm lh n2 e2 f2 F2 => exact jH.og hG (show jH S0 w' (.fm lh n2 e2 f2 F2) v from s2) (g2 rfl)
       | _ => cases ho
    | map es c =>
     obtain ⟨x1, r3⟩ := r2
     refine ⟨x1, fun i hi => ?_⟩
     obtain ⟨kp, vp, en, y1, y2, y3, y4⟩ := r3 i hi
     exact ⟨kp, vp, en, by show (f0 i).map (lM h.length) = _; rw [y1]; show [lM h.length kp, lM h.length vp] = _; rw [tR y2, tR y3], y2, y3, y4⟩
    | _ => exact r2.elim
 ·rcases kh b hb with h1 | h1
  ·rcases hS2 b hs with h2 | h2
   ·exact hM.apart b h1 h2
   ·have := hM.lt b h1; omega
  ·exact hS4 b hs h1
 ·rcases kh b hb with h1 | h1
  ·exact ars (hM.lt b h1) hF.size
  ·exact zY.lt b h1
 ·intro i j gi NC ni ei fi gj lK nj ej fj b o o' hi hj lY lj
  rcases inv i _ _ _ _ _ hi with ⟨h1, h2⟩ | ⟨wI, f0, rfl, h1, h2, _⟩
  ·rw [h2] at lY
   rcases inv j _ _ _ _ _ hj with ⟨h3, h4⟩ | ⟨id1, f1, rfl, h3, h4, _⟩
   ·rw [h4] at lj; exact hM.inj i j _ _ _ _ _ _ _ _ _ _ _ _ _ h1 h3 lY lj
   ·rw [h4] at lj
    have a1 := hM.lt b (.inl ⟨i, _, _, _, _, _, _, h1, lY⟩)
    have a2 := Dx b (.inl ⟨id1, _, _, _, _, _, _, h3, lj⟩)
    omega
  ·rw [h2] at lY
   rcases inv j _ _ _ _ _ hj with ⟨h3, h4⟩ | ⟨id1, f1, rfl, h3, h4, _⟩
   ·rw [h4] at lj
    have a1 := hM.lt b (.inl ⟨j, _, _, _, _, _, _, h3, lj⟩)
    have a2 := Dx b (.inl ⟨wI, _, _, _, _, _, _, h1, lY⟩)
    omega
   ·rw [h4] at lj
    have := zY.inj wI id1 _ _ _ _ _ _ _ _ _ _ _ _ _ h1 h3 lY lj
    rw [this]
theorem ACall.frame {f : FuncId} {args : List PV} {R : PV → List ak → Prop} (hA : ACall P f args [] R) (h : List ak) (hp : args.all Mr = true) :
  ACall P f args h (fun res h' => ∃ r0 h0, R r0 h0 ∧ res = pe h.length r0 ∧ h' = h ++ h0.map (fC h.length)) := by
 refine ⟨hA.1, fun w vs μ S hH hM fv ha => ?_⟩
 refine (hA.2 w vs (fun _ => none) S (fun id g sz n e f hid => by simp at hid) ⟨fun b hb => absurd hb je, fun b hb => absurd hb je, hM.slt, fun i j g sz n e f g' bs n' e' f' b o o' hi => by simp at hi, hM.known, fun b _ x y z hx => rB hx, fun b _ _ _ _ _ _ hx => absurd hx rB⟩ fv (fun j pv hj => ?_)).mono ?_
 ·obtain ⟨v, h1, h2⟩ := ha j pv hj
  refine ⟨v, h1, ?_⟩
  have Vc := (aqW.1 hp) pv (arh hj)
  cases pv with
  | agg cs =>
   obtain ⟨us, q1, q2, q3⟩ := h2
   refine ⟨us, q1, q2, fun i c hi => ?_⟩
   obtain ⟨u, r1, r2⟩ := q3 i c hi
   have hc := (aqW.1 Vc) c (arh hi)
   exact ⟨u, r1, bm.jd (th hc r2)⟩
  | aU cs => cases Vc
  | own id gen off len => cases Vc
  | aM id gen i off => cases Vc
  | kP id => cases Vc
  | kX f bp => cases Vc
  | fO => cases Vc
  | fm sz n e f F => cases Vc
  | int k n => exact h2
  | bool b => exact h2
  | str s => exact h2
  | bf => exact h2
  | dt => exact h2
  | eu sz n f => exact h2
  | dY cs => exact h2
  | fn f => exact h2
 ·rintro e w' ⟨v, r0, h0, μ0, S0, he, hR, hv, Vb, zY, hF⟩
  have w4 : ∀ b, ¬ bH (fun _ => none) [] b := fun b => je
  obtain ⟨c1, c2, c3⟩ := yi (S' := S0) hH hM hF Vb zY (fun _ => True) (fun _ _ _ h => h) (fun id g sz n e f hid i hi c hcm => ⟨fun _ => trivial, fun hx => by
    obtain ⟨j, hj, hcj⟩ := arW.1 hcm
    obtain ⟨_, q2⟩ := Vb id g sz n e f hid
    cases dX : μ0 id with
    | none => rw [dX] at q2; omega
    | some p =>
     obtain ⟨b, base⟩ := p
     rw [dX] at q2
     obtain ⟨o, _, r2⟩ := q2
     cases o with
     | cells cur e' z =>
      obtain ⟨_, _, _, r3⟩ := r2
      obtain ⟨v, _, s2⟩ := r3 i j c hi (by rw [← hcj]; exact Of hj)
      cases c with
      | fm lh n2 e2 f2 F2 => exact jH.all (show jH S0 w' (.fm lh n2 e2 f2 F2) v from s2)
      | _ => cases hx
     | map es cl =>
      obtain ⟨kp, vp, en, y1, y2, y3, _⟩ := r2.2 i hi
      rw [y1] at hcm
      rcases aqY.1 hcm with q | q
      ·rw [q] at hx; cases kp <;> first | (cases hx; done) | (cases y2; done)
      ·rw [List.mem_singleton.1 q] at hx; cases vp <;> first | (cases hx; done) | (cases y3; done)
     | _ => exact r2.elim⟩) hF.sub
   (fun b hb => (hF.new b hb).imp id (fun h => h.resolve_left (w4 b))) zY.slt (fun b hb ho => zY.apart b ho hb)
  have kQ : Qv (fun _ => True) r0 := by
   unfold Qv
   split
   ·intro v _; split <;> intros <;> trivial
   ·intros; trivial
   ·trivial
  exact ⟨v, _, _, _, S0, he, ⟨r0, h0, hR, rfl, rfl⟩, wv _ (fun _ _ _ h => h) kQ hv, c1, c2, c3⟩
def Vd : ak → Prop
 | .row _ _ n _ f => ∀ i, i < n → ∀ c ∈ f i, (eC c = false → lO c = true) ∧ (eC c = true → OG (fun pv => lO pv = true) c)
 | .dead => True
theorem Mg.p {o : ak} (h : Mg o) : Vd o := by
 cases o with
 | dead => trivial
 | row g sz n e f =>
  intro i hi c hc
  have := (aqW.1 (h i hi)) c hc
  exact ⟨fun _ => this, fun hx => by cases c <;> first | (cases hx; done) | (cases this; done)⟩
theorem ACall.snap {f : FuncId} {args jP : List PV} {R : PV → List ak → Prop} (hA : ACall P f jP [] R) (h : List ak) (hl : jP.length = args.length)
  (hz : ∀ (j : Nat) (pv eg : PV), args[j]? = some pv → jP[j]? = some eg → Fz h [] [] pv eg ∧ kg eg = true) (Es : ∀ r0 h0, R r0 h0 → Et r0 = true ∧ ∀ o ∈ h0, Vd o) :
  ACall P f args h (fun res h' => ∃ r0 h0, R r0 h0 ∧ res = pe h.length r0 ∧ h' = h ++ h0.map (fC h.length)) := by
 refine ⟨hA.1, fun w vs μ S hH hM fv ha => ?_⟩
 have hfz : lN h [] [] 0 0 [] [] := trivial
 obtain ⟨mQ, _, _⟩ := sh (m := 0) ⟨hH, hM⟩ hfz rfl
 refine (hA.2 w vs (jJ μ h []) (x5 μ h [] S) mQ.heap mQ.ok att (fun j eg hj => ?_)).mono ?_
 ·have B4 : j < args.length := by rw [← hl]; exact (At.1 hj).1
  have mB := Of B4
  obtain ⟨v, h1, h2⟩ := ha j _ mB
  obtain ⟨z1, z2⟩ := hz j _ eg mB hj
  exact ⟨v, h1, (pn (m := 0) ⟨hH, hM⟩ hfz z1).2.1 v h2⟩
 ·rintro e w' ⟨v, r0, h0, μ0, S0, he, hR, hv, Vb, zY, hF⟩
  obtain ⟨EF, MJ⟩ := Es r0 h0 hR
  have w4 : ∀ b, ¬ bH (jJ μ h []) [] b := fun b => je
  have hG : ∀ pv v, lO pv = true → aE S0 w' pv v → aE S w' pv v := fun pv v hf hp => by
   cases hp with
   | int k n => exact .int k n
   | bool b => exact .bool b
   | str s => exact .str s
   | bf => exact .bf
   | dt => exact .dt
   | fn f => exact .fn f
   | lV => cases hf
   | eu => cases hf
   | dY => cases hf
  obtain ⟨c1, c2, c3⟩ := yi (S' := S) hH hM hF Vb zY (fun pv => lO pv = true) hG (fun id g sz n e f hid i hi c hc => MJ _ (arh hid) i hi c hc) (fun _ hb => hb) (fun b hb => .inl hb) (fun b hb => ars (hM.slt b hb) hF.size)
   (fun b hb ho => by
    have h1 := (hF.own b ho).resolve_left (w4 b)
    have h2 := hM.slt b hb
    omega)
  have kQ : Qv (fun pv => lO pv = true) r0 := by
   cases r0 with
   | aU vs =>
    intro v hv
    have := (aqW.1 EF) v hv
    cases v with
    | agg cs => exact fun c hc => (aqW.1 this) c hc
    | _ => exact this
   | agg cs => exact fun c hc => (aqW.1 EF) c hc
   | _ => exact EF
  exact ⟨v, _, _, _, S, he, ⟨r0, h0, hR, rfl, rfl⟩, wv _ hG kQ hv, c1, c2, c3⟩
end
def lC (σ : Nat → Nat) : PV → PV
 | .own id gen off len => .own (σ id) gen off len
 | .aM id gen i off => .aM (σ id) gen i off
 | .kP id => .kP (σ id)
 | .kX f bp => .kX f (nT σ bp)
 | v => v
def u6 (σ : Nat → Nat) : PV → PV
 | .agg cs => .agg (cs.map (lC σ))
 | v => lC σ v
def Cv (σ : Nat → Nat) : PV → PV
 | .aU vs => .aU (vs.map (u6 σ))
 | v => u6 σ v
def oK (σ : Nat → Nat) : ak → ak
 | .row g sz n e f => .row g sz n e (fun i => (f i).map (lC σ))
 | .dead => .dead
theorem yj {σ : Nat → Nat} {a : PV} (h : ir (lC σ a) = true) : lC σ a = a := by cases a <;> first | rfl | cases h
theorem yk {σ : Nat → Nat} {a : PV} (h : ir a = true) : lC σ a = a := by cases a <;> first | rfl | cases h
section
variable {P : Program} {T : lq} {μ μ0 μ1 : Mu} {h h0 h1 hc : List ak} {S S0 S1 : Nat → Prop} {w w' : World} {σ : Nat → Nat}
theorem M4 {pv : PV} {v : Value} (gh : ∀ j, (∃ g sz n e f, h0[j]? = some (ak.row g sz n e f) ∧ (∃ f', h1[σ j]? = some (ak.row g sz n e f')) ∧ μ1 (σ j) = μ0 j) ∨ (h0[j]? = some ak.dead ∧ h1[σ j]? = some ak.dead) ∨ h0[j]? = none)
  (hS : ∀ b, S0 b → S1 b) (hc : bm μ0 h0 S0 w pv v) : bm μ1 h1 S1 w (lC σ pv) v := by
 have pB : ∀ (id gen i off : Nat) (v : Value), a6 μ0 h0 w id gen i off v → a6 μ1 h1 w (σ id) gen i off v := fun id gen i off v hc => by
  unfold a6 at hc ⊢
  obtain ⟨q1, q2⟩ := hc
  refine ⟨q1, ?_⟩
  rcases gh id with ⟨g, sz, n, e, f, r1, ⟨f', r2⟩, r3⟩ | ⟨r1, r2⟩ | r1
  ·rw [r1] at q2
   rw [r2]
   show gen ≤ g ∧ _
   rw [r3]
   exact q2
  ·rw [r2]; trivial
  ·rw [r1] at q2; exact q2.elim
 cases pv with
 | own id gen off len =>
  have hc : aV μ0 h0 w id gen off len v := hc
  show aV μ1 h1 w (σ id) gen off len v
  unfold aV at hc ⊢
  obtain ⟨q1, q2⟩ := hc
  refine ⟨q1, ?_⟩
  rcases gh id with ⟨g, sz, n, e, f, r1, ⟨f', r2⟩, r3⟩ | ⟨r1, r2⟩ | r1
  ·rw [r1] at q2
   rw [r2]
   show gen ≤ g ∧ _
   rw [r3]
   exact q2
  ·rw [r2]; trivial
  ·rw [r1] at q2; exact q2.elim
 | aM id gen i off => exact pB _ _ _ _ _ hc
 | kX f bp => exact oh.map (O := fun id g u => a6 μ1 h1 w id g 0 0 u) (oh.mono (show k6 μ0 h0 w f bp v from hc) (fun id g u hu => pB id g 0 0 u hu))
 | kP id =>
  have hc : ew μ0 h0 w id v := hc
  show ew μ1 h1 w (σ id) v
  unfold ew at hc ⊢
  obtain ⟨q1, q2⟩ := hc
  refine ⟨q1, ?_⟩
  rcases gh id with ⟨g, sz, n, e, f, r1, ⟨f', r2⟩, r3⟩ | ⟨r1, r2⟩ | r1
  ·rw [r1] at q2
   rw [r2]
   obtain ⟨b, base, x1, x2⟩ := q2
   exact ⟨b, base, r3.trans x1, x2⟩
  ·rw [r2]; trivial
  ·rw [r1] at q2; exact q2.elim
 | fO => exact hc
 | fm sz n e f F => exact hc
 | agg cs => exact (show False from hc).elim
 | aU cs => exact (show False from hc).elim
 | int k n => exact aE.mono (fun _ _ => rfl) hS hc
 | bool b => exact aE.mono (fun _ _ => rfl) hS hc
 | str s => exact aE.mono (fun _ _ => rfl) hS hc
 | bf => exact aE.mono (fun _ _ => rfl) hS hc
 | dt => exact aE.mono (fun _ _ => rfl) hS hc
 | eu sz n f => exact aE.mono (fun _ _ => rfl) hS hc
 | dY cs => exact aE.mono (fun _ _ => rfl) hS hc
 | fn f => exact aE.mono (fun _ _ => rfl) hS hc
theorem fq {pv : PV} {v : Value} (aI : ∀ pv v, bm μ0 h0 S0 w pv v → bm μ1 h1 S1 w (lC σ pv) v) (hc : gn μ0 h0 S0 w pv v) : gn μ1 h1 S1 w (u6 σ pv) v := by
 cases pv with
 | agg cs =>
  obtain ⟨vs, q1, q2, q3⟩ := hc
  refine ⟨vs, q1, by simpa using q2, fun j pv hj => ?_⟩
  rw [ark] at hj
  cases hx : cs[j]? with
  | none => rw [hx] at hj; cases hj
  | some c =>
   rw [hx] at hj
   injection hj with hj
   subst hj
   obtain ⟨u, r1, r2⟩ := q3 j c hx
   exact ⟨u, r1, aI _ _ r2⟩
 | fO => trivial
 | fm sz n e f F => exact aI (.fm sz n e f F) v hc
 | aU cs => exact (show False from hc).elim
 | own id gen off len => exact aI (.own id gen off len) v hc
 | aM id gen i off => exact aI (.aM id gen i off) v hc
 | kP id => exact aI (.kP id) v hc
 | kX f bp => exact aI (.kX f bp) v hc
 | int k n => exact aI (.int k n) v hc
 | bool b => exact aI (.bool b) v hc
 | str s => exact aI (.str s) v hc
 | bf => exact aI .bf v hc
 | dt => exact aI .dt v hc
 | eu sz n f => exact aI (.eu sz n f) v hc
 | dY cs => exact aI (.dY cs) v hc
 | fn f => exact aI (.fn f) v hc
theorem M5 {pv : PV} {v : Value} (aI : ∀ pv v, bm μ0 h0 S0 w pv v → bm μ1 h1 S1 w (lC σ pv) v) (hc : aY μ0 h0 S0 w pv v) : aY μ1 h1 S1 w (Cv σ pv) v := by
 cases pv with
 | aU cs =>
  obtain ⟨vs, q1, q2, q3⟩ := hc
  refine ⟨vs, q1, by simpa using q2, fun j pv hj => ?_⟩
  rw [ark] at hj
  cases hx : cs[j]? with
  | none => rw [hx] at hj; cases hj
  | some c =>
   rw [hx] at hj
   injection hj with hj
   subst hj
   obtain ⟨u, r1, r2⟩ := q3 j c hx
   exact ⟨u, r1, fq aI r2⟩
 | agg cs => exact fq (pv := .agg cs) aI hc
 | fO => trivial
 | fm sz n e f F => exact fq (pv := .fm sz n e f F) aI hc
 | own id gen off len => exact fq (pv := .own id gen off len) aI hc
 | aM id gen i off => exact fq (pv := .aM id gen i off) aI hc
 | kP id => exact fq (pv := .kP id) aI hc
 | kX f bp => exact fq (pv := .kX f bp) aI hc
 | int k n => exact fq (pv := .int k n) aI hc
 | bool b => exact fq (pv := .bool b) aI hc
 | str s => exact fq (pv := .str s) aI hc
 | bf => exact fq (pv := .bf) aI hc
 | dt => exact fq (pv := .dt) aI hc
 | eu sz n f => exact fq (pv := .eu sz n f) aI hc
 | dY cs => exact fq (pv := .dY cs) aI hc
 | fn f => exact fq (pv := .fn f) aI hc
structure Sel (σ : Nat → Nat) (m : Nat) (h : List ak) : Prop where
 lt : ∀ j, j < m → σ j < h.length
 new : ∀ j, m ≤ j → σ j = h.length + (j - m)
 inj : ∀ i j, i < m → j < m → σ i = σ j → i = j
theorem Sel.aqE {m : Nat} (hs : Sel σ m h) {i j : Nat} (he : σ i = σ j) : i = j := by
 rcases arO i m with hi | hi
 ·rcases arO j m with hj | hj
  ·exact hs.inj i j hi hj he
  ·have := hs.lt i hi; have := hs.new j hj; omega
 ·rcases arO j m with hj | hj
  ·have := hs.lt j hj; have := hs.new i hi; omega
  ·have := hs.new i hi; have := hs.new j hj; omega
structure Ve (σ : Nat → Nat) (h h0 h' : List ak) : Prop where
 Dl : ∀ id, (∀ j, j < h0.length → σ j ≠ id) → h'[id]? = h[id]?
 ND : ∀ j o, h0[j]? = some o → h'[σ j]? = some (oK σ o)
 len : h.length ≤ h'.length
def wx (μ : Mu) (σ : Nat → Nat) (m : Nat) : Mu := fun j => if j < m then μ (σ j) else none
open Classical in
noncomputable def M6 (μ : Mu) (σ : Nat → Nat) (m : Nat) (μ0 : Mu) : Mu := fun id => if hx : ∃ j, j < m ∧ σ j = id then μ0 (Classical.choose hx) else μ id
theorem Qw {m : Nat} (M7 : ∀ i j, σ i = σ j → i = j) {j : Nat} (hj : j < m) : M6 μ σ m μ0 (σ j) = μ0 j := by
 have hx : ∃ i, i < m ∧ σ i = σ j := ⟨j, hj, rfl⟩
 unfold M6
 rw [dif_pos hx, M7 _ _ (Classical.choose_spec hx).2]
theorem zR {m id : Nat} (hn : ∀ j, j < m → σ j ≠ id) : M6 μ σ m μ0 id = μ id := by
 unfold M6
 rw [dif_neg]
 rintro ⟨j, h1, h2⟩
 exact hn j h1 h2
theorem dO (lR : Sel σ hc.length h) (gh : ∀ j o, hc[j]? = some o → h[σ j]? = some (oK σ o)) {pv : PV} {v : Value} (hr : bm μ h S w (lC σ pv) v) : bm (wx μ σ hc.length) hc S w pv v := by
 have get : ∀ id, (∃ g sz n e f, hc[id]? = some (ak.row g sz n e f) ∧ h[σ id]? = some (oK σ (ak.row g sz n e f)) ∧ wx μ σ hc.length id = μ (σ id)) ∨ (hc[id]? = some ak.dead ∧ h[σ id]? = some ak.dead) ∨ h[σ id]? = none := fun id => by
  cases ho : hc[id]? with
  | none =>
   refine .inr (.inr (arA ?_))
   have NB : hc.length ≤ id := List.getElem?_eq_none_iff.1 ho
   have := lR.new id NB
   omega
  | some o =>
   have cD := (At.1 ho).1
   cases o with
   | dead => exact .inr (.inl ⟨rfl, gh id _ ho⟩)
   | row g sz n e f => exact .inl ⟨g, sz, n, e, f, rfl, gh id _ ho, by unfold wx; rw [if_pos cD]⟩
 have pB : ∀ (id gen i off : Nat) (v : Value), a6 μ h w (σ id) gen i off v → a6 (wx μ σ hc.length) hc w id gen i off v := fun id gen i off v hr => by
  unfold a6 at hr ⊢
  obtain ⟨q1, q2⟩ := hr
  refine ⟨q1, ?_⟩
  rcases get id with ⟨g, sz, n, e, f, r1, r2, r3⟩ | ⟨r1, r2⟩ | r1
  ·rw [r2] at q2
   rw [r1]
   show gen ≤ g ∧ _
   rw [r3]
   exact q2
  ·rw [r1]; trivial
  ·rw [r1] at q2; exact q2.elim
 cases pv with
 | own id gen off len =>
  have hr : aV μ h w (σ id) gen off len v := hr
  show aV _ hc w id gen off len v
  unfold aV at hr ⊢
  obtain ⟨q1, q2⟩ := hr
  refine ⟨q1, ?_⟩
  rcases get id with ⟨g, sz, n, e, f, r1, r2, r3⟩ | ⟨r1, r2⟩ | r1
  ·rw [r2] at q2
   rw [r1]
   show gen ≤ g ∧ _
   rw [r3]
   exact q2
  ·rw [r1]; trivial
  ·rw [r1] at q2; exact q2.elim
 | aM id gen i off => exact pB _ _ _ _ _ hr
 | kX f bp => exact oh.mono (oh.anf (show k6 μ h w f (nT σ bp) v from hr)) (fun id g u hu => pB _ _ _ _ _ hu)
 | kP id =>
  have hr : ew μ h w (σ id) v := hr
  show ew _ hc w id v
  unfold ew at hr ⊢
  obtain ⟨q1, q2⟩ := hr
  refine ⟨q1, ?_⟩
  rcases get id with ⟨g, sz, n, e, f, r1, r2, r3⟩ | ⟨r1, r2⟩ | r1
  ·rw [r2] at q2
   rw [r1]
   obtain ⟨b, base, x1, x2⟩ := q2
   exact ⟨b, base, r3.trans x1, x2⟩
  ·rw [r1]; trivial
  ·rw [r1] at q2; exact q2.elim
 | fO => exact hr
 | fm sz n e f F => exact hr
 | agg cs => exact (show False from hr).elim
 | aU cs => exact (show False from hr).elim
 | int k n => exact hr
 | bool b => exact hr
 | str s => exact hr
 | bf => exact hr
 | dt => exact hr
 | eu sz n f => exact hr
 | dY cs => exact hr
 | fn f => exact hr
theorem GX (lR : Sel σ hc.length h) (gh : ∀ j o, hc[j]? = some o → h[σ j]? = some (oK σ o)) {pv : PV} {v : Value} (hr : gn μ h S w (u6 σ pv) v) : gn (wx μ σ hc.length) hc S w pv v := by
 cases pv with
 | agg cs =>
  obtain ⟨vs, q1, q2, q3⟩ := hr
  refine ⟨vs, q1, by simpa using q2, fun j pv hj => ?_⟩
  obtain ⟨u, r1, r2⟩ := q3 j (lC σ pv) (by rw [ark, hj]; rfl)
  exact ⟨u, r1, dO lR gh r2⟩
 | fO => trivial
 | fm sz n e f F => exact dO (μ := μ) (S := S) (w := w) (pv := .fm sz n e f F) lR gh hr
 | aU cs => exact (show False from hr).elim
 | own id gen off len => exact dO (μ := μ) (S := S) (w := w) (pv := .own id gen off len) lR gh hr
 | aM id gen i off => exact dO (μ := μ) (S := S) (w := w) (pv := .aM id gen i off) lR gh hr
 | kP id => exact dO (μ := μ) (S := S) (w := w) (pv := .kP id) lR gh hr
 | kX f bp => exact dO (μ := μ) (S := S) (w := w) (pv := .kX f bp) lR gh hr
 | int k n => exact dO (μ := μ) (S := S) (w := w) (pv := .int k n) lR gh hr
 | bool b => exact dO (μ := μ) (S := S) (w := w) (pv := .bool b) lR gh hr
 | str s => exact dO (μ := μ) (S := S) (w := w) (pv := .str s) lR gh hr
 | bf => exact dO (μ := μ) (S := S) (w := w) (pv := .bf) lR gh hr
 | dt => exact dO (μ := μ) (S := S) (w := w) (pv := .dt) lR gh hr
 | eu sz n f => exact dO (μ := μ) (S := S) (w := w) (pv := .eu sz n f) lR gh hr
 | dY cs => exact dO (μ := μ) (S := S) (w := w) (pv := .dY cs) lR gh hr
 | fn f => exact dO (μ := μ) (S := S) (w := w) (pv := .fn f) lR gh hr
theorem M8 {c : PV} {sz n : Nat} {e : TypeId} {f : Nat → List PV} {F : Nat → Prop} (hc : lC σ c = .fm sz n e f F) : c = .fm sz n e f F := by cases c <;> first | exact hc | cases hc
theorem Qx {c : PV} (h : eC c = false) : eC (lC σ c) = false := by cases c <;> first | rfl | cases h
theorem ACall.ND {f : FuncId} {args kJ : List PV} {R : PV → List ak → Prop} (hA : ACall P f args hc R) (h : List ak) (lR : Sel σ hc.length h) (gh : ∀ j o, hc[j]? = some o → h[σ j]? = some (oK σ o))
  (mN : kJ = args.map (u6 σ)) (nxt : List ak → List ak) (aqF : ∀ h0, hc.length ≤ h0.length → Ve σ h h0 (nxt h0)) :
  ACall P f kJ h (fun res h' => ∃ r0 h0, R r0 h0 ∧ res = Cv σ r0 ∧ h' = nxt h0) := by
 refine ⟨hA.1, fun w vs μ S hH hM fv ha => ?_⟩
 subst mN
 have M7 : ∀ i j, σ i = σ j → i = j := fun i j => lR.aqE
 have Qy : ∀ b, w8 (wx μ σ hc.length) hc b → w8 μ h b := fun b ⟨j, g, sz, n, e, f, base, q1, q2⟩ => by
  have cD := (At.1 q1).1
  unfold wx at q2
  rw [if_pos cD] at q2
  exact ⟨σ j, g, sz, n, e, _, base, gh j _ q1, q2⟩
 have GY : ∀ j x y b, cA hc j x y b → cA h (σ j) x y b := fun j x y b ⟨g, sz, n, e, f, bs, n', e', f', F', q1, q2, q3, q4⟩ => ⟨g, sz, n, e, _, bs, n', e', f', F', gh j _ q1, q2, by
  show ((f x).map (lC σ))[y]? = _
  rw [ark, q3]; rfl, q4⟩
 have M9 : ∀ b, bH (wx μ σ hc.length) hc b → bH μ h b ∧ True := fun b hb => by
  rcases hb with hb | ⟨x, y, z, hb⟩
  ·exact ⟨.inl (Qy b hb), trivial⟩
  ·exact ⟨.inr ⟨_, _, _, GY _ _ _ _ hb⟩, trivial⟩
 have hHc : bw (wx μ σ hc.length) hc S w := fun j g sz n e f hj => by
  have cD := (At.1 hj).1
  obtain ⟨q1, q2⟩ := hH (σ j) _ _ _ _ _ (gh j _ hj)
  refine ⟨fun i hi => by simpa using q1 i hi, ?_⟩
  have hm : wx μ σ hc.length j = μ (σ j) := by unfold wx; rw [if_pos cD]
  rw [hm]
  cases dX : μ (σ j) with
  | none => rw [dX] at q2; exact q2
  | some p =>
   obtain ⟨b, base⟩ := p
   rw [dX] at q2
   obtain ⟨o, r1, r2⟩ := q2
   refine ⟨o, r1, ?_⟩
   cases o with
   | cells cur e' z =>
    obtain ⟨x1, x2, x3, r3⟩ := r2
    refine ⟨x1, x2, x3, fun i k pv hi hk => ?_⟩
    obtain ⟨u, s1, s2⟩ := r3 i k (lC σ pv) hi (by rw [ark, hk]; rfl)
    refine ⟨u, s1, ?_⟩
    cases hx : eC pv with
    | false => exact (dO lR gh s2.c).k hx
    | true =>
     cases pv with
     | fm lh n2 e2 f2 F2 => exact s2
     | _ => cases hx
   | map es c =>
    obtain ⟨x1, r3⟩ := r2
    refine ⟨x1, fun i hi => ?_⟩
    obtain ⟨kp, vp, en, y1, y2, y3, y4⟩ := r3 i hi
    refine ⟨kp, vp, en, ?_, y2, y3, y4⟩
    have y1 : (f i).map (lC σ) = [kp, vp] := y1
    generalize f i = l at y1
    rcases l with _ | ⟨a, _ | ⟨b, _ | ⟨c3, l3⟩⟩⟩ <;> simp at y1
    obtain ⟨rfl, rfl⟩ := y1
    rw [yj y2, yj y3]
   | _ => exact r2.elim
 have hMc : nC (wx μ σ hc.length) hc S w := ⟨fun b hb => hM.apart b (M9 b hb).1, fun b hb => hM.lt b (M9 b hb).1, hM.slt, fun i j gi NC ni ei fi gj lK nj ej fj b o o' hi hj lY lj => by
  have hli := (At.1 hi).1
  have UY := (At.1 hj).1
  unfold wx at lY lj
  rw [if_pos hli] at lY
  rw [if_pos UY] at lj
  exact M7 _ _ (hM.inj _ _ _ _ _ _ _ _ _ _ _ _ _ _ _ (gh i _ hi) (gh j _ hj) lY lj), hM.known, fun b hb x y z hx => hM.hv b (Qy b hb) _ _ _ (GY _ _ _ _ hx), fun b x y z x' y' z' hx qB => by
  obtain ⟨e1, e2, e3⟩ := hM.hh b _ _ _ _ _ _ (GY _ _ _ _ hx) (GY _ _ _ _ qB)
  exact ⟨M7 _ _ e1, e2, e3⟩⟩
 refine (hA.2 w vs _ S hHc hMc atU (fun j pv hj => ?_)).mono ?_
 ·obtain ⟨v, q1, q2⟩ := ha j (u6 σ pv) (by rw [ark, hj]; rfl)
  exact ⟨v, q1, GX lR gh q2⟩
 ·rintro e w' ⟨v, r0, h0, μ0, S0, he, hR, hv, Vb, zY, hF⟩
  have hlen : hc.length ≤ h0.length := hF.len
  have GZ := aqF h0 hlen
  obtain ⟨h', hh'⟩ : ∃ h', h' = nxt h0 := ⟨_, rfl⟩
  rw [← hh'] at GZ
  have hmA : ∀ j, j < h0.length → M6 μ σ h0.length μ0 (σ j) = μ0 j := fun j hj => Qw M7 hj
  have inv : ∀ id o, h'[id]? = some o → (∃ j o0, σ j = id ∧ h0[j]? = some o0 ∧ o = oK σ o0 ∧ M6 μ σ h0.length μ0 id = μ0 j) ∨ ((∀ j, j < h0.length → σ j ≠ id) ∧ h[id]? = some o ∧ M6 μ σ h0.length μ0 id = μ id) := fun id o hid => by
   by_cases hx : ∃ j, j < h0.length ∧ σ j = id
   ·obtain ⟨j, hj, rfl⟩ := hx
    have := GZ.ND j _ (Of hj)
    rw [this] at hid
    injection hid with hid
    exact .inl ⟨j, _, rfl, Of hj, hid.symm, hmA j hj⟩
   ·have hn : ∀ j, j < h0.length → σ j ≠ id := fun j hj he => hx ⟨j, hj, he⟩
    rw [GZ.Dl id hn] at hid
    exact .inr ⟨hn, hid, zR hn⟩
  have apart : ∀ id g sz n e f b base, (∀ j, j < h0.length → σ j ≠ id) → h[id]? = some (ak.row g sz n e f) → μ id = some (b, base) → ¬ bH (wx μ σ hc.length) hc b := fun id g sz n e f b base hn hid hm vI => by
   rcases vI with ⟨j, gj, lK, nj, ej, fj, bj, q1, q2⟩ | ⟨x, y, z, hx⟩
   rotate_left
   ·exact hM.hv b ⟨id, g, sz, n, e, f, base, hid, hm⟩ _ _ _ (GY _ _ _ _ hx)
   have cD := (At.1 q1).1
   unfold wx at q2
   rw [if_pos cD] at q2
   exact hn j att (hM.inj _ _ _ _ _ _ _ _ _ _ _ _ _ _ _ (gh j _ q1) hid q2 hm)
  have wy : ∀ id x y b, (∀ j, j < h0.length → σ j ≠ id) → cA h id x y b → ¬ bH (wx μ σ hc.length) hc b := fun id x y b hn hx vI => by
   rcases vI with vI | ⟨j, x', y', qB⟩
   ·exact hM.hv b (Qy b vI) _ _ _ hx
   ·obtain ⟨e1, _, _⟩ := hM.hh b _ _ _ _ _ _ (GY _ _ _ _ qB) hx
    obtain ⟨_, _, _, _, _, _, _, _, _, _, q1, _⟩ := qB
    have := (At.1 q1).1
    exact hn j att e1
  have Vf : ∀ b, w8 (M6 μ σ h0.length μ0) h' b → w8 μ0 h0 b ∨ ∃ id g sz n e f base, (∀ j, j < h0.length → σ j ≠ id) ∧ h[id]? = some (ak.row g sz n e f) ∧ μ id = some (b, base) := fun b ⟨id, g, sz, n, e, f, base, q1, q2⟩ => by
   rcases inv id _ q1 with ⟨j, o0, rfl, r1, r2, r3⟩ | ⟨r1, r2, r3⟩
   ·rw [r3] at q2
    cases o0 with
    | dead => cases r2
    | row g0 Ql n0 e0 f0 => exact .inl ⟨j, g0, Ql, n0, e0, f0, base, r1, q2⟩
   ·rw [r3] at q2
    exact .inr ⟨id, g, sz, n, e, f, base, r1, r2, q2⟩
  have yl : ∀ id x y b, cA h' id x y b → (∃ j, σ j = id ∧ cA h0 j x y b) ∨ ((∀ j, j < h0.length → σ j ≠ id) ∧ cA h id x y b) := fun id x y b ⟨g, sz, n, e, f, bs, n', e', f', F', q1, q2, q3, q4⟩ => by
   rcases inv id _ q1 with ⟨j, o0, rfl, r1, r2, r3⟩ | ⟨r1, r2, r3⟩
   ·cases o0 with
    | dead => cases r2
    | row g0 Ql n0 e0 f0 =>
     injection r2 with e1 e2 e3 e4 e5
     subst e1 e2 e3 e4 e5
     rw [ark] at q3
     cases hx : (f0 x)[y]? with
     | none => rw [hx] at q3; cases q3
     | some c =>
      rw [hx] at q3
      injection q3 with q3
      rw [M8 q3] at hx
      exact .inl ⟨j, rfl, _, _, _, _, _, _, _, _, _, _, r1, q2, hx, q4⟩
   ·exact .inr ⟨r1, _, _, _, _, _, _, _, _, _, _, r2, q2, q3, q4⟩
  have kh : ∀ b, bH (M6 μ σ h0.length μ0) h' b → bH μ0 h0 b ∨ (bH μ h b ∧ ¬ bH (wx μ σ hc.length) hc b) := fun b hb => by
   rcases hb with hb | ⟨x, y, z, hb⟩
   ·rcases Vf b hb with q | ⟨id, g, sz, n, e, f, base, q1, q2, q3⟩
    ·exact .inl (.inl q)
    ·exact .inr ⟨.inl ⟨id, g, sz, n, e, f, base, q2, q3⟩, apart id _ _ _ _ _ _ _ q1 q2 q3⟩
   ·rcases yl x y z b hb with ⟨j, _, q⟩ | ⟨q1, q2⟩
    ·exact .inl (.inr ⟨_, _, _, q⟩)
    ·exact .inr ⟨.inr ⟨_, _, _, q2⟩, wy _ _ _ _ q1 q2⟩
  have mixed : ∀ b, bH μ0 h0 b → bH μ h b → ¬ bH (wx μ σ hc.length) hc b → False := fun b q1 q2 q3 => by
   rcases hF.own b q1 with r | r
   ·exact q3 r
   ·have := hM.lt b q2; omega
  have ji : Fr μ h S w (M6 μ σ h0.length μ0) h' S0 w' := by
   refine ⟨GZ.len, fun b hb w4 => hF.blocks b hb (fun ho => w4 (M9 b ho).1), hF.sub, fun b hb => ?_, fun b hb => ?_, hF.size, hF.os, hF.tape, hF.output, fun id g sz n e f hid => ?_, fun id hid => ?_, fun b k hb dT => ?_, fun id g sz n e f b base hid hm kY => ?_, fun b id x y hx kY => ?_⟩
   rotate_right
   ·by_cases ho : bH (wx μ σ hc.length) hc b
    ·rcases ho with ho | ⟨j, x', y', ho⟩
     ·exact absurd hx (hM.hv b (Qy b ho) _ _ _)
     ·exact hF.p8 b j x' y' ho kY
    ·obtain ⟨es, c, q⟩ := kY
     exact ⟨es, c, (hF.blocks b (aqT.1 q).1 ho).trans q⟩
   ·rcases hF.new b hb with q | q | q
    ·exact .inl q
    ·exact .inr (.inl (M9 b q).1)
    ·exact .inr (.inr q)
   ·rcases kh b hb with q | ⟨q, _⟩
    ·rcases hF.own b q with r | r
     ·exact .inl (M9 b r).1
     ·exact .inr r
    ·exact .inl q
   ·by_cases hx : ∃ j, j < hc.length ∧ σ j = id
    ·obtain ⟨j, hj, rfl⟩ := hx
     have mB : j < h0.length := by omega
     have Fu := Of hj
     have vI := gh j _ Fu
     rw [vI] at hid
     cases hoc : hc[j] with
     | dead => rw [hoc] at hid; cases hid
     | row gc szc nc ec fc =>
      rw [hoc] at hid Fu
      injection hid with hid
      injection hid with e1 e2 e3 e4 e5
      subst e1 e2 e3 e4
      have hg := hF.vK j _ _ _ _ _ Fu
      have hs := GZ.ND j _ (Of mB)
      rw [Of mB] at hg
      rw [hs]
      cases ho0 : h0[j] with
      | dead => trivial
      | row g' bs n' e' f' =>
       rw [ho0] at hg
       refine ⟨hg.1, fun NB => ?_⟩
       obtain ⟨a1, a2, a3, a4⟩ := hg.2 NB
       refine ⟨?_, a2, a3, a4⟩
       rw [hmA j mB, a1]
       unfold wx
       rw [if_pos hj]
    ·have hn : ∀ j, j < h0.length → σ j ≠ id := fun j hj he => by
      rcases arO j hc.length with h1 | h1
      ·exact hx ⟨j, h1, he⟩
      ·have := lR.new j h1
       have := (At.1 hid).1
       omega
     rw [GZ.Dl id hn, hid]
     exact ⟨aqP _, fun _ => ⟨zR hn, rfl, rfl, rfl⟩⟩
   ·by_cases hx : ∃ j, j < hc.length ∧ σ j = id
    ·obtain ⟨j, hj, rfl⟩ := hx
     have mB : j < h0.length := by omega
     have Fu := Of hj
     have vI := gh j _ Fu
     rw [vI] at hid
     cases hoc : hc[j] with
     | row gc szc nc ec fc => rw [hoc] at hid; cases hid
     | dead =>
      rw [hoc] at Fu
      have hd := hF.dead j Fu
      exact GZ.ND j _ hd
    ·have hn : ∀ j, j < h0.length → σ j ≠ id := fun j hj he => by
      rcases arO j hc.length with h1 | h1
      ·exact hx ⟨j, h1, he⟩
      ·have := lR.new j h1
       have := (At.1 hid).1
       omega
     rw [GZ.Dl id hn, hid]
   ·by_cases ho : bH (wx μ σ hc.length) hc b
    ·exact hF.bp b k ho dT
    ·exact iq.of_same (hF.blocks b dT.lt ho) dT
   ·by_cases hx : ∃ j, j < hc.length ∧ σ j = id
    ·obtain ⟨j, hj, rfl⟩ := hx
     have mB : j < h0.length := by omega
     have Fu := Of hj
     have vI := gh j _ Fu
     rw [vI] at hid
     cases hoc : hc[j] with
     | dead => rw [hoc] at hid; cases hid
     | row gc szc nc ec fc =>
      rw [hoc] at hid Fu
      have hmc : wx μ σ hc.length j = some (b, base) := by unfold wx; rw [if_pos hj]; exact hm
      obtain ⟨r1, r2⟩ := hF.maps j _ _ _ _ _ b base Fu hmc kY
      refine ⟨r1, ?_⟩
      rcases r2 with r2 | ⟨⟨g', bs, n', e', f', r2⟩, r3⟩
      ·exact .inl (GZ.ND j _ r2)
      ·exact .inr ⟨⟨_, _, _, _, _, GZ.ND j _ r2⟩, (hmA j mB).trans r3⟩
    ·have hn : ∀ j, j < h0.length → σ j ≠ id := fun j hj he => by
      rcases arO j hc.length with h1 | h1
      ·exact hx ⟨j, h1, he⟩
      ·have := lR.new j h1
       have := (At.1 hid).1
       omega
     obtain ⟨es, c, q⟩ := kY
     exact ⟨⟨es, c, (hF.blocks b (aqT.1 q).1 (apart id _ _ _ _ _ _ _ hn hid hm)).trans q⟩, .inr ⟨⟨_, _, _, _, _, (GZ.Dl id hn).trans hid⟩, (zR hn).trans hm⟩⟩
  have aI : ∀ pv v, bm μ0 h0 S0 w' pv v → bm (M6 μ σ h0.length μ0) h' S0 w' (lC σ pv) v := fun pv v hcr => by
   refine M4 (fun j => ?_) (fun _ hb => hb) hcr
   cases ho : h0[j]? with
   | none => exact .inr (.inr rfl)
   | some o =>
    have cD := (At.1 ho).1
    cases o with
    | dead => exact .inr (.inl ⟨rfl, GZ.ND j _ ho⟩)
    | row g sz n e f => exact .inl ⟨g, sz, n, e, f, rfl, ⟨_, GZ.ND j _ ho⟩, hmA j cD⟩
  refine ⟨v, _, h', _, S0, he, ⟨r0, h0, hR, rfl, ?_⟩, M5 aI hv, fun id g sz n e f hid => ?_, ⟨fun b hb hs => ?_, fun b hb => ?_, zY.slt, ?_, zY.known, fun b hb id x y hx => ?_, fun b id x y id' x' y' hx qB => ?_⟩, ji⟩
  rotate_right 2
  ·rcases Vf b hb with q | ⟨k, g, sz, n, e, f, base, q1, q2, q3⟩
   ·rcases yl id x y b hx with ⟨j, _, r⟩ | ⟨r1, r2⟩
    ·exact zY.hv b q _ _ _ r
    ·exact mixed b (.inl q) (.inr ⟨_, _, _, r2⟩) (wy _ _ _ _ r1 r2)
   ·rcases yl id x y b hx with ⟨j, _, r⟩ | ⟨r1, r2⟩
    ·exact mixed b (.inr ⟨_, _, _, r⟩) (.inl ⟨k, g, sz, n, e, f, base, q2, q3⟩) (apart k _ _ _ _ _ _ _ q1 q2 q3)
    ·exact hM.hv b ⟨k, g, sz, n, e, f, base, q2, q3⟩ _ _ _ r2
  ·rcases yl id x y b hx with ⟨j, rfl, r⟩ | ⟨r1, r2⟩
   ·rcases yl id' x' y' b qB with ⟨j', rfl, t⟩ | ⟨t1, t2⟩
    ·obtain ⟨e1, e2, e3⟩ := zY.hh b _ _ _ _ _ _ r t
     exact ⟨by rw [e1], e2, e3⟩
    ·exact (mixed b (.inr ⟨_, _, _, r⟩) (.inr ⟨_, _, _, t2⟩) (wy _ _ _ _ t1 t2)).elim
   ·rcases yl id' x' y' b qB with ⟨j', rfl, t⟩ | ⟨t1, t2⟩
    ·exact (mixed b (.inr ⟨_, _, _, t⟩) (.inr ⟨_, _, _, r2⟩) (wy _ _ _ _ r1 r2)).elim
    ·exact hM.hh b _ _ _ _ _ _ r2 t2
  ·exact hh'
  ·rcases inv id _ hid with ⟨j, o0, rfl, r1, r2, r3⟩ | ⟨r1, r2, r3⟩
   ·cases o0 with
    | dead => cases r2
    | row g0 Ql n0 e0 f0 =>
     injection r2 with e1 e2 e3 e4 e5
     subst e1 e2 e3 e4 e5
     obtain ⟨q1, q2⟩ := Vb j _ _ _ _ _ r1
     refine ⟨fun i hi => by simpa using q1 i hi, ?_⟩
     rw [r3]
     cases dX : μ0 j with
     | none => rw [dX] at q2; exact q2
     | some p =>
      obtain ⟨b, base⟩ := p
      rw [dX] at q2
      obtain ⟨o, s1, s2⟩ := q2
      refine ⟨o, s1, ?_⟩
      cases o with
      | cells cur e' z =>
       obtain ⟨x1, x2, x3, s3⟩ := s2
       refine ⟨x1, x2, x3, fun i k pv hi hk => ?_⟩
       rw [ark] at hk
       cases hx : (f0 i)[k]? with
       | none => rw [hx] at hk; cases hk
       | some c =>
        rw [hx] at hk
        injection hk with hk
        subst hk
        obtain ⟨u, t1, t2⟩ := s3 i k c hi hx
        refine ⟨u, t1, ?_⟩
        cases hxo : eC c with
        | false => exact (aI _ _ t2.c).k (Qx hxo)
        | true =>
         cases c with
         | fm lh n2 e2 f2 F2 => exact t2
         | _ => cases hxo
      | map es c =>
       obtain ⟨x1, s3⟩ := s2
       refine ⟨x1, fun i hi => ?_⟩
       obtain ⟨kp, vp, en, y1, y2, y3, y4⟩ := s3 i hi
       exact ⟨kp, vp, en, by show (f0 i).map (lC σ) = _; rw [y1]; show [lC σ kp, lC σ vp] = _; rw [yk y2, yk y3], y2, y3, y4⟩
      | _ => exact s2.elim
   ·obtain ⟨q1, q2⟩ := hH id _ _ _ _ _ r2
    refine ⟨q1, ?_⟩
    rw [r3]
    cases dX : μ id with
    | none => rw [dX] at q2; exact q2
    | some p =>
     obtain ⟨b, base⟩ := p
     rw [dX] at q2
     obtain ⟨o, s1, s2⟩ := q2
     have cD : b < w.heap.size := (aqT.1 s1).1
     exact ⟨o, (hF.blocks b cD (apart id _ _ _ _ _ _ _ r1 r2 dX)).trans s1, s2.mono (fun i y pv v hi hy hr => hr.fr ji hM (fun bs n' e' f' F' he b2 nv => by
      have hx : cA h id i y b2 := ⟨_, _, _, _, _, _, _, _, _, _, r2, hi, he ▸ hy, nv⟩
      exact hF.blocks b2 (hM.lt b2 (.inr ⟨_, _, _, hx⟩)) (wy _ _ _ _ r1 hx)))⟩
  ·rcases kh b hb with q | ⟨q1, q2⟩
   ·exact zY.apart b q hs
   ·rcases hF.new b hs with r | r | r
    ·exact hM.apart b q1 r
    ·exact q2 r
    ·have := hM.lt b q1; omega
  ·rcases kh b hb with q | ⟨q1, _⟩
   ·exact zY.lt b q
   ·exact ars (hM.lt b q1) hF.size
  ·intro i j gi NC ni ei fi gj lK nj ej fj b o o' hi hj lY lj
   have Vg : ∀ (i' : Nat) (o1 : ak) (g sz n : Nat) (e : TypeId) (f : Nat → List PV) (oo : Nat) (id g2 lh n2 : Nat) (e2 : TypeId) (f2 : Nat → List PV) (oo2 : Nat), h0[i']? = some (ak.row g sz n e f) → μ0 i' = some (b, oo) → (∀ j, j < h0.length → σ j ≠ id) → h[id]? = some (ak.row g2 lh n2 e2 f2) → μ id = some (b, oo2) → False :=
    fun i' o1 g sz n e f oo id g2 lh n2 e2 f2 oo2 a1 a2 a3 a4 a5 => by
     exact mixed b (.inl ⟨i', g, sz, n, e, f, oo, a1, a2⟩) (.inl ⟨id, g2, lh, n2, e2, f2, oo2, a4, a5⟩) (apart id _ _ _ _ _ _ _ a3 a4 a5)
   rcases inv i _ hi with ⟨i0, oi, rfl, r1, r2, r3⟩ | ⟨r1, r2, r3⟩
   ·rw [r3] at lY
    cases oi with
    | dead => cases r2
    | row g0 Ql n0 e0 f0 =>
     rcases inv j _ hj with ⟨j0, oj, rfl, t1, t2, t3⟩ | ⟨t1, t2, t3⟩
     ·rw [t3] at lj
      cases oj with
      | dead => cases t2
      | row g2 lh n2 e2 f2 => rw [zY.inj i0 j0 _ _ _ _ _ _ _ _ _ _ _ _ _ r1 t1 lY lj]
     ·rw [t3] at lj
      exact (Vg i0 ak.dead _ _ _ _ _ _ _ _ _ _ _ _ _ r1 lY t1 t2 lj).elim
   ·rw [r3] at lY
    rcases inv j _ hj with ⟨j0, oj, rfl, t1, t2, t3⟩ | ⟨t1, t2, t3⟩
    ·rw [t3] at lj
     cases oj with
     | dead => cases t2
     | row g2 lh n2 e2 f2 => exact (Vg j0 ak.dead _ _ _ _ _ _ _ _ _ _ _ _ _ t1 lj r1 r2 lY).elim
    ·rw [t3] at lj
     exact hM.inj i j _ _ _ _ _ _ _ _ _ _ _ _ _ r2 t2 lY lj
def ft (is : List Nat) (N : Nat) (j : Nat) : Nat := match is[j]? with
 | some id => id
 | none => N + (j - is.length)
def aK (h : List ak) : List Nat → List ak → List ak
 | id :: r, o :: l => aK (h.set id o) r l
 | _, _ => h
def bK (h : List ak) (is : List Nat) (h0 : List ak) : List ak :=
 aK h is (h0.map (oK (ft is h.length))) ++ (h0.drop is.length).map (oK (ft is h.length))
theorem eM : ∀ (is : List Nat) (l h : List ak), (aK h is l).length = h.length
 | [], [], _ => rfl
 | [], _ :: _, _ => rfl
 | _ :: _, [], _ => rfl
 | id :: r, o :: l, h => by simp only [aK]; rw [eM r l]; simp
theorem qS : ∀ (is : List Nat) (l h : List ak) (id : Nat), id ∉ is → (aK h is l)[id]? = h[id]?
 | [], [], _, _, _ => rfl
 | [], _ :: _, _, _, _ => rfl
 | _ :: _, [], _, _, _ => rfl
 | i :: r, o :: l, h, id, hn => by
  simp only [aqY, not_or] at hn
  simp only [aK]
  rw [qS r l _ id hn.2, arF (asa hn.1)]
theorem wz : ∀ (is : List Nat) (l h : List ak) (j id : Nat) (o : ak), is.Nodup → is[j]? = some id → l[j]? = some o → id < h.length → (aK h is l)[id]? = some o
 | [], _, _, _, _, _, _, h1, _, _ => by simp at h1
 | _ :: _, [], _, _, _, _, _, _, h2, _ => by simp at h2
 | i :: r, o' :: l, h, j, id, o, hd, h1, h2, cD => by
  simp only [List.nodup_cons] at hd
  simp only [aK]
  cases j with
  | zero =>
   simp at h1 h2
   subst h1 h2
   rw [qS r l _ _ hd.1]
   simp [cD]
  | succ j =>
   exact wz r l _ j id o hd.2 atO atN (by simpa using cD)
theorem aa3 (is : List Nat) (h : List ak) (hd : is.Nodup) (cD : ∀ id ∈ is, id < h.length) : Sel (ft is h.length) is.length h where
 lt j hj := by
  unfold ft
  rw [Of hj]
  exact cD _ (arb hj)
 new j hj := by
  unfold ft
  rw [arA hj]
 inj i j hi hj he := by
  unfold ft at he
  rw [Of hi, Of hj] at he
  exact (List.getElem_inj hd).1 he
theorem Na (is : List Nat) (h h0 : List ak) (hd : is.Nodup) (cD : ∀ id ∈ is, id < h.length) (hle : is.length ≤ h0.length) : Ve (ft is h.length) h h0 (bK h is h0) where
 len := by unfold bK; rw [An, eM]; omega
 Dl id hn := by
  unfold bK
  rcases arO id h.length with h1 | h1
  ·rw [art (by rw [eM]; exact h1), qS]
   intro hm
   obtain ⟨j, hj, rfl⟩ := arW.1 hm
   refine hn j att ?_
   unfold ft
   rw [Of hj]
  ·rw [arn (by rw [eM]; exact h1), eM, arA h1, arA]
   simp only [asn, List.length_drop]
   rcases arO (id - h.length) (h0.length - is.length) with h2 | h2
   ·refine (hn (is.length + (id - h.length)) att ?_).elim
    unfold ft
    rw [arA att]
    simp
    omega
   ·exact h2
 ND j o hj := by
  have mB := (At.1 hj).1
  unfold bK
  rcases arO j is.length with h1 | h1
  ·have hs : ft is h.length j = is[j] := by unfold ft; rw [Of h1]
   have hl := cD _ (arb h1)
   rw [hs, art (by rw [eM]; exact hl)]
   exact wz is _ h j _ _ hd (Of h1) (by rw [ark, hj]; rfl) hl
  ·have hs : ft is h.length j = h.length + (j - is.length) := by unfold ft; rw [arA h1]
   rw [hs, arn (by rw [eM]; omega), eM, ark, arT]
   rw [show is.length + (h.length + (j - is.length) - h.length) = j from by omega, hj]
   rfl
theorem ACall.over {f : FuncId} {args kJ : List PV} {R : PV → List ak → Prop} (hA : ACall P f args hc R) (is : List Nat) (h : List ak) (hl : hc.length = is.length) (hd : is.Nodup) (cD : ∀ id ∈ is, id < h.length)
  (gh : ∀ j o, hc[j]? = some o → h[ft is h.length j]? = some (oK (ft is h.length) o)) (mN : kJ = args.map (u6 (ft is h.length))) :
  ACall P f kJ h (fun res h' => ∃ r0 h0, R r0 h0 ∧ res = Cv (ft is h.length) r0 ∧ h' = bK h is h0) :=
 hA.ND h (by rw [hl]; exact aa3 is h hd cD) gh mN (bK h is) (fun h0 hle => Na is h h0 hd cD att)
end
end Go.Am
