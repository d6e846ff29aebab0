/- Texts of the proof, joined and shortened. -/
import Derived.Test.YtalfppmpmnlnlaaGreatDoorPk2
set_option linter.unusedVariables false
set_option linter.unusedSimpArgs false
namespace Go.Am
open Go Go.RowKit
section
variable {P : Program} {T : oO} {μ : Mu} {h η : List aj} {k : List Nat} {S : Nat → Prop} {w : World} {C : Start} {env : Env} {a : Act}
theorem mP.agree (hs : mP C μ h S env a w) {w' : World} (ha : cy w w') : mP C μ h S env a w' :=
 ⟨⟨hs.core.heap.agree ha hs.core.ok, hs.core.ok.agree ha⟩, hs.fr.trans (Fr.xa ha), fun t => (hs.tmps t).fr (Fr.xa ha) hs.core.ok, hs.size, hs.Xi, hs.defers⟩
theorem BH {pv : PV} {v : Value} {w w' : World} {μ μ' : Mu} {h h' : List aj} {S S' : Nat → Prop} (hs : w9 pv = true) (hv : bG μ h S w pv v) : bG μ' h' S' w' pv v ∧ ∀ v' : Value, bG μ' h' S' w' pv v' → v' = v := by
 cases pv with
 | int k n => obtain rfl := hv.kO; exact ⟨aT.int _ _, fun v' h' => h'.kO⟩
 | bool b => obtain rfl := hv.mD; exact ⟨aT.bool _, fun v' h' => h'.mD⟩
 | str s => obtain rfl := hv.mE; exact ⟨aT.str _, fun v' h' => h'.mE⟩
 | aO => obtain rfl := hv.rj; exact ⟨aT.aO, fun v' h' => h'.rj⟩
 | _ => cases hs
def Dq : PV → Value
 | .int k n => .int k n
 | .bool b => .bool b
 | .str s => .string ⟨⟨s⟩⟩
 | .aO => .slice none 0 0
 | _ => undef
theorem qQ {pv : PV} {w : World} {μ : Mu} {h : List aj} {S : Nat → Prop} (hs : w9 pv = true) : bG μ h S w pv (Dq pv) := by
 cases pv with
 | int k n => exact aT.int _ _
 | bool b => exact aT.bool _
 | str s => exact aT.str _
 | aO => exact aT.aO
 | _ => cases hs
theorem JQ {P : Program} {K : Env → Prop} (all : List Oper) (o : Oper) (rest : List Oper) (env : Env) (h : List aj) {j : Nat} {want : Bool} (hg : o.guard = some (j, want)) :
  vN P T all h K (o :: rest) env = (match (all[j]?).bind (·.dst) with
     | some t => match env t with
      | .bool b => eH b
        (match (generalizing := false) want with
         | true => Wl P T o.op (qb env t (.bool true)) h (fun v => vN P T all h K rest (dx (qb env t (.bool true)) o.dst v))
         | false => vN P T all h K rest (dx (qb env t (.bool true)) o.dst (.dG [])))
        (match (generalizing := false) want with
         | true => vN P T all h K rest (dx (qb env t (.bool false)) o.dst (.dG []))
         | false => Wl P T o.op (qb env t (.bool false)) h (fun v => vN P T all h K rest (dx (qb env t (.bool false)) o.dst v)))
      | .dG [] => vN P T all h K rest (dx env o.dst (.dG []))
      | _ => False
     | none => False) := by
 obtain ⟨dst, op, ty, pos, after, guard⟩ := o
 have hg : guard = some (j, want) := hg
 rw [hg]
 rfl
theorem sg (hT : di P T) (ops : Array Oper) {K : Env → Prop} {Q : Act → Prop} (h : List aj) (w : World) (μ : Mu) (S : Nat → Prop) (hK : ∀ env a, K env → mP C μ h S env a w → Q a) :
  ∀ (l : List Oper) (env : Env) (a : Act), vN P T ops.toList h K l env → (∀ o ∈ l, mR C.nt o = true) → mP C μ h S env a w → wpQuiet P ops (cy w) Q l a
 | [], env, a, hp, _, hs => hK env a hp hs
 | o :: rest, env, a, hp, hd, hs => by
  have Rw : ∀ t, o.dst = some t → t < C.nt := fun t ht => by
   have := hd o agk
   unfold mR at this
   rw [ht] at this
   simpa using this
  have Xj : ∀ o ∈ rest, mR C.nt o = true := fun o ho => hd o (by simp [ho])
  have run : ∀ env', mP C μ h S env' a w → Wl P T o.op env' h (fun v => vN P T ops.toList h K rest (dx env' o.dst v)) → o.quiet P a (cy w) (wpQuiet P ops (cy w) Q rest) := fun env' j8 yP => by
   obtain ⟨dst, op, ty, pos, after, guard⟩ := o
   have still : cm T op env' h (fun v => vN P T ops.toList h K rest (dx env' dst v)) → Oper.quiet P ⟨dst, op, ty, pos, after, guard⟩ a (cy w) (wpQuiet P ops (cy w) Q rest) := fun yP => by
    obtain ⟨v, val, Rx, hv, hr⟩ := mY (P := P) (env := env') hT j8.core.heap j8.tmps (dst := dst) (ty := ty) (pos := pos) (after := after) (guard := guard) yP
    refine ⟨val, fun w' Xk => ?_, sg hT ops h w μ S hK rest _ _ Rx Xj (j8.put Fr.refl j8.core hv Rw)⟩
    unfold Oper.quietAt
    rw [hr w' Xk]
    exact ⟨rfl, rfl⟩
   cases op with
   | call c =>
    obtain ⟨Zs, args, ts⟩ := c
    cases Zs with
    | value fo =>
     have Jm := bQ j8.tmps fo
     change O8 P (ev env' fo) (args.toList.map (ev env')) h _ at yP
     unfold O8 at yP
     split at yP
     ·rename_i f hef
      rw [hef] at Jm
      replace yP := bB yP
      obtain ⟨SV, j7, v, hz, adJ, ⟨⟨fn, c, Qi, HC, w8⟩, hA⟩, Rx⟩ := yP
      obtain ⟨Sy, Rx⟩ := bB Rx
      refine ⟨Dq v, fun w' Xk => ?_, sg hT ops h w μ S hK rest _ _ Rx Xj (j8.put Fr.refl j8.core (qQ Sy) Rw)⟩
      have Wm := j8.agree Xk
      obtain ⟨hl, hzz⟩ := wU.get _ _ hz
      have sG := (xh (k := []) (η := []) (m := 0) Wm.core trivial rfl).1
      have HD := hA w' (args.map a.eval) (lG μ h []) (Dp μ h [] S) sG.heap sG.ok (by simpa using hl.symm) (fun j fC hj => by
       have H4 : j < args.toList.length := by have := (so.1 hj).1; simpa [hl] using this
       have hx : (args.toList.map (ev env'))[j]? = some (ev env' args.toList[j]) := by rw [aet, As H4]; rfl
       refine ⟨a.eval args.toList[j], by rw [Array.getElem?_map]; have := As H4; simp only [aew] at this; rw [this]; rfl, ?_⟩
       have hv := (tV (k := []) (η := []) (m := 0) Wm.core trivial (hzz j _ fC hx hj)).2.2 _ (bQ Wm.tmps args.toList[j])
       have rZ := (aei.1 adJ) fC (ael hj)
       cases fC with
       | dG ps => cases rZ
       | _ => exact hv)
      have lq : (execOp a.eval ⟨dst, .call ⟨.value fo, args, ts⟩, ty, pos, after, guard⟩).run P w' = .ok (.enter f (args.map a.eval)) w' := by
       simp only [execOp, resolve, Jm.Od, Deferred.ofValue, invoke, callFunc, Sem.run_bind, Sem.run_pure, Result.andThen_ok, Array.append_empty, Array.empty_append]
       have By : ¬ fn.name = "runtime.NumGoroutine" := by simpa using w8
       simp [program, Sem.run, Result.andThen, Qi, By, HC]
      unfold Oper.quietAt
      rw [lq]
      refine ⟨rfl, HD.mono fun e Of ⟨u, res, h', μ', S', he, hR, hv, hH, hM, hF⟩ => ?_⟩
      subst hR
      have hu := (BH (w' := w) (μ' := μ) (h' := h) (S' := S) Sy (qQ (w := Of) (μ := μ') (h := h') (S := S') Sy)).1
      have FC := (BH (w' := Of) (μ' := μ') (h' := h') (S' := S') Sy (qQ (w := w) (μ := μ) (h := h) (S := S) Sy)).2 u hv
      refine ⟨by rw [he, FC], Xk.trans ⟨fun b hb => hF.blocks b hb jQ, hF.size, hF.os, hF.tape, hF.output⟩⟩
     ·exact yP.elim
    | _ => exact still yP
   | _ => exact still yP
  have skip : ∀ env', mP C μ h S env' a w → vN P T ops.toList h K rest (dx env' o.dst (.dG [])) → wpQuiet P ops (cy w) Q rest (a.put o.dst undef) := fun env' j8 yP =>
   sg hT ops h w μ S hK rest _ _ yP Xj (j8.put Fr.refl j8.core vJ Rw)
  unfold wpQuiet
  cases hg : o.guard with
  | none =>
   have hp : Wl P T o.op env h (fun v => vN P T ops.toList h K rest (dx env o.dst v)) := by
    obtain ⟨dst, op, ty, pos, after, guard⟩ := o
    subst hg
    exact hp
   rw [if_pos (by simp [Region.wanted, hg])]
   exact run env hs hp
  | some p =>
   obtain ⟨j, want⟩ := p
   rw [JQ ops.toList o rest env h hg] at hp
   split at hp
   ·rename_i t hj
    split at hp
    ·rename_i b he
     have hy := vI hs hj he
     obtain ⟨ht, hf⟩ := kz hp
     have j8 := hs.BD he
     cases b with
     | true =>
      have hp := ht rfl
      cases want with
      | true => rw [if_pos ags]; exact run _ j8 hp
      | false => rw [if_neg ags]; exact skip _ j8 hp
     | false =>
      have hp := hf rfl
      cases want with
      | true => rw [if_neg ags]; exact skip _ j8 hp
      | false => rw [if_pos ags]; exact run _ j8 hp
    ·rename_i he
     rw [if_neg (by simp [Region.wanted, hg, sf hs hj he])]
     exact skip _ hs hp
    ·exact afL
   ·exact afL
theorem yk : ∀ (σ : List (Nat × PV)) (t : Nat), KF h η k env σ → (∃ v, Fz h η k (env t) v ∧ yl nr σ t = v) ∨ yl nr σ t = .jc
 | [], t, _ => .inr rfl
 | (t', v) :: r, t, hh => by
  obtain ⟨h1, h2⟩ := hh
  by_cases htt : t = t'
  ·subst htt
   exact .inl ⟨v, h1, by simp [yl, BC]⟩
  ·simp only [yl]
   rw [Fj _ _ htt]
   exact yk r t h2
theorem ym (hs : mP C μ h S env a w) {σ : List (Nat × PV)} (ht : tR C.h.length env h σ η) : ∃ μ' S', mP C μ' η S' (yl nr σ) a w := by
 obtain ⟨k, hk, hm, he, hh⟩ := ht
 obtain ⟨sG, _, _⟩ := xh hs.core hh hk
 refine ⟨lG μ h k, Dp μ h k S, sG, SW hs.core hs.fr hh hk hm, fun t => ?_, hs.size, fun t bP => ?_, hs.defers⟩
 ·rcases yk σ t he with ⟨v, h1, h2⟩ | h1
  ·rw [h2]; exact (tV hs.core hh h1).2.2 _ (hs.tmps t)
  ·rw [h1]; trivial
 ·rcases yk σ t he with ⟨v, h1, h2⟩ | h1
  ·rw [hs.Xi t bP] at h1
   rw [h2]
   cases h1
   rfl
  ·exact h1
theorem yj.mono {Q Q' : XQ} {e : Exit} {w : World} (hq : ∀ env h, Q e env h → Q' e env h) (hl : yj C Q e a w) : yj C Q' e a w := by
 obtain ⟨μ, h, S, env, hs, hQ⟩ := hl
 exact ⟨μ, h, S, env, hs, hq env h hQ⟩
theorem lv : ∀ (l : List Nat) (x : Nat), kb l x = true → x ∈ l
 | [], _, h => by cases h
 | a :: r, x, h => by
  unfold kb at h
  split at h
  ·rename_i hb
   have := Is hb
   simp [this]
  ·exact aen _ (lv r x h)
theorem HI : ∀ (l : List Nat) (F : Nat → Prop), Wn l F → ∀ i ∈ l, F i
 | [], _, _, i, hi => by simp at hi
 | [j], F, h, i, hi => by simp at hi; subst hi; exact h
 | j :: k :: r, F, h, i, hi => by
  obtain ⟨h1, h2⟩ := h
  simp only [aej] at hi
  rcases hi with rfl | hi
  ·exact h1
  ·exact HI (k :: r) F h2 i (by simpa using hi)
theorem kG (hT : di P T) (ops : Array Oper) {K : Env → List aj → Prop} {Q : Exit → Act → World → Prop} {next : Act → World → Prop} (hK : ∀ env h a w μ S, K env h → mP C μ h S env a w → next a w) (i : Nat) (o : Oper) (ho : ops[i]? = some o)
  (hd : mR C.nt o = true) (env : Env) (h : List aj) (a : Act) (w : World) (μ : Mu) (S : Nat → Prop) (hp : qP P T ops.toList K [o] env h) (hs : mP C μ h S env a w) : wpOp P ops Q i next a w := by
 have Rw : ∀ t, o.dst = some t → t < C.nt := fun t ht => by
  unfold mR at hd
  rw [ht] at hd
  simpa using hd
 have run : ∀ env', mP C μ h S env' a w → pop P T o.op env' h (fun v h' => K (dx env' o.dst v) h') → o.wp P a w next Q := fun env' j8 yP => by
  obtain ⟨dst, op, ty, pos, after, guard⟩ := o
  refine Dm (env := env') hT j8.core j8.tmps yP _ _ fun v val h' μ' S' w' Rx hv hc hf => ?_
  exact hK _ h' _ w' μ' S' Rx (j8.put hf hc hv Rw)
 have skip : ∀ env', mP C μ h S env' a w → K (dx env' o.dst (.dG [])) h → next (a.put o.dst undef) w := fun env' j8 yP =>
  hK _ h _ w μ S yP (j8.put Fr.refl j8.core vJ Rw)
 unfold wpOp
 simp only [ho]
 cases hg : o.guard with
 | none =>
  have hp : pop P T o.op env h (fun v h' => K (dx env o.dst v) h') := by
   obtain ⟨dst, op, ty, pos, after, guard⟩ := o
   subst hg
   exact hp
  rw [if_pos (by simp [Region.wanted, hg])]
  exact .inl (run env hs hp)
 | some p =>
  obtain ⟨j, want⟩ := p
  rw [vK ops.toList o [] env h hg] at hp
  split at hp
  ·rename_i t hj
   split at hp
   ·rename_i b he
    have hy := vI hs hj he
    obtain ⟨ht, hf⟩ := kz hp
    have j8 := hs.BD he
    cases b with
    | true =>
     have hp := ht rfl
     cases want with
     | true => rw [if_pos ags]; exact .inl (run _ j8 hp)
     | false => rw [if_neg ags]; exact skip _ j8 hp
    | false =>
     have hp := hf rfl
     cases want with
     | true => rw [if_neg ags]; exact skip _ j8 hp
     | false => rw [if_pos ags]; exact .inl (run _ j8 hp)
   ·rename_i he
    rw [if_neg (by simp [Region.wanted, hg, sf hs hj he])]
    exact skip _ hs hp
   ·exact afL
  ·exact afL
theorem BI (hT : di P T) (ops : Array Oper) {K : Env → List aj → Prop} {Q : Exit → Act → World → Prop} (hK : ∀ env h a w μ S, K env h → mP C μ h S env a w → Q .normal a w) (hd : ∀ o ∈ ops.toList, mR C.nt o = true) :
  ∀ (f : Nat) (listed : Array Bool) (done : List Nat) (env : Env) (h : List aj) (a : Act) (w : World) (μ : Mu) (S : Nat → Prop), O9 ops f listed done = true → Wo P T ops.toList K f done env h → mP C μ h S env a w →
   wpAny P .any ops Q f listed a w
 | 0, listed, done, env, h, a, w, μ, S, hc, hp, hs => by
  refine ⟨?_, hK env h a w μ S hp hs⟩
  simpa [O9] using hc
 | f + 1, listed, done, env, h, a, w, μ, S, hc, hp, hs => by
  simp only [O9, an, aei] at hc
  obtain ⟨rZ, hc⟩ := hc
  refine ⟨fun h0 => by rw [h0] at rZ; simp at rZ, fun i hi => ?_⟩
  obtain ⟨Ob, hc'⟩ := hc i hi
  have Pa := HI _ _ hp i (lv _ _ Ob)
  split at Pa
  ·rename_i o ho
   have Mk : ops[i]? = some o := by simpa using ho
   exact kG hT ops (fun env' h' a' w' μ' S' hk j8 => BI hT ops hK hd f _ (i :: done) env' h' a' w' μ' S' hc' hk j8) i o Mk (hd o (by have := (so.1 ho); obtain ⟨h1, h2⟩ := this; rw [← h2]; exact aef h1)) env h a w μ S Pa hs
  ·exact Pa.elim
theorem Pb {op : Op} {env : Env} {h : List aj} {G : PV → List aj → Prop} (hs : cm T op env h (fun v => G v h)) : pop P T op env h G := by
 cases op with
 | store t a x => exact hs.elim
 | box t x => exact hs.elim
 | alloc t => exact hs.elim
 | makeSlice t l c => exact hs.elim
 | buildSlice t len parts => exact hs.elim
 | convert s d x =>
  simp only [pop]
  split
  ·rename_i e1 e2 e3
   simp only [cm, e1, e2, e3] at hs
  ·exact hs
 | binOp bo t x y ty =>
  simp only [pop]
  split
  ·rename_i e1 e2 e3
   simp only [cm, Lw, e1, e2, e3] at hs
  ·exact hs
 | makeMap t r => exact hs.elim
 | mapUpdate t m k x => exact hs.elim
 | call c =>
  obtain ⟨callee, args, ts⟩ := c
  cases callee with
  | value fo => exact hs.elim
  | builtin b => cases b with
   | append => exact hs.elim
   | copy => exact hs.elim
   | _ => (simp only [pop]; exact hs)
  | _ => (simp only [pop]; exact hs)
 | _ => (simp only [pop]; exact hs)
theorem BJ {st : Bool} {op : Op} {env : Env} {h : List aj} {G : PV → List aj → Prop} (hs : CN P T st op env h G) : pop P T op env h G := by
 cases st with
 | true => exact Pb hs
 | false => exact hs
theorem sh {all : List Oper} {st : Bool} {o : Oper} {K : Env → List aj → Prop} {env : Env} {h : List aj} (hp : fs P T all st o (fun v h' => K (dx env o.dst v) h') env h) : qP P T all K [o] env h := by
 unfold fs at hp
 cases hg : o.guard with
 | none =>
  rw [hg] at hp
  obtain ⟨dst, op, ty, pos, after, guard⟩ := o
  have hg : guard = none := hg
  subst hg
  exact BJ hp
 | some q =>
  obtain ⟨j, want⟩ := q
  rw [hg] at hp
  rw [vK all o [] env h hg]
  simp only at hp ⊢
  generalize (all[j]?).bind (·.dst) = d at hp ⊢
  cases d with
  | none => exact hp.elim
  | some t =>
   simp only at hp ⊢
   generalize hv : env t = v at hp ⊢
   cases v with
   | bool b =>
    simp only at hp ⊢
    cases b with
    | true =>
     refine .mk (fun _ => ?_) (fun hc => by cases hc)
     rw [zY hv]
     cases want with
     | true => exact BJ hp
     | false => exact hp
    | false =>
     refine .mk (fun hc => by cases hc) (fun _ => ?_)
     rw [zY hv]
     cases want with
     | true => exact hp
     | false => exact BJ hp
   | dG l => cases l with
    | nil => exact hp
    | cons a r => exact hp.elim
   | _ => exact hp.elim
inductive Fk (all : List Oper) : Nat → Nat → Prop
 | base {x i : Nat} (h : x ∈ bK all i) : Fk all x i
 | step {x d i : Nat} (h : d ∈ bK all i) (hx : Fk all x d) : Fk all x i
theorem Fl : ∀ (l acc : List Nat) (x : Nat), x ∈ ddL l acc → x ∈ l ∨ x ∈ acc
 | [], acc, x, h => .inr h
 | a :: r, acc, x, h => by
  unfold ddL at h
  cases hi : kb acc a with
  | true => rw [hi] at h; exact (Fl r acc x h).imp (aen _) id
  | false =>
   rw [hi] at h
   rcases Fl r (a :: acc) x h with h | h
   ·exact .inl (aen _ h)
   ·simp only [aej] at h
    rcases h with rfl | h
    ·exact .inl agk
    ·exact .inr h
theorem uz : ∀ (l : List Nat) (x : Nat), x ∈ l → kb l x = true
 | a :: r, x, h => by
  unfold kb
  cases hb : Nat.beq a x with
  | true => rfl
  | false =>
   simp only [aej] at h
   rcases h with rfl | h
   ·rw [aeZ] at hb; cases hb
   ·exact uz r x h
theorem uA {all : List Oper} : ∀ (ord : List (Nat × Bool)) (t : List (Nat × List Nat)), (∀ i x, kb (dc t i) x = true → Fk all x i) → ∀ i x, kb (dc (uP all ord t) i) x = true → Fk all x i
 | [], t, hg => hg
 | (j, b) :: r, t, hg => uA r _ (fun i x hx => by
  unfold dc at hx
  cases hb : Nat.beq j i with
  | false => rw [hb] at hx; exact hg i x hx
  | true =>
   rw [hb] at hx
   have := Is hb
   subst this
   rcases Fl _ _ _ (lv _ _ hx) with hm | hm
   ·rw [aeh, List.mem_flatMap] at hm
    rcases hm with hm | ⟨d, hd, hm⟩
    ·exact .base hm
    ·exact .step hd (hg d x (uz _ _ hm))
   ·simp at hm)
theorem iV {ops : Array Oper} {t : List (Nat × List Nat)} {p : Nat × Bool} : ∀ (l1 l2 : List (Nat × Bool)), bW ops t (l1 ++ p :: l2) = true → (∀ o, o ∈ l1 → ep ops t o p = true) ∧ bW ops t (l1 ++ l2) = true
 | [], l2, h => by
  simp only [aeS, bW, an] at h
  exact ⟨fun o ho => by simp at ho, h.2⟩
 | a :: l1, l2, h => by
  simp only [List.cons_append, bW, an, aei] at h ⊢
  obtain ⟨h1, h2⟩ := iV l1 l2 h.2
  refine ⟨fun o ho => ?_, fun q hq => h.1 q (by simp only [aeh, aej] at hq ⊢; exact hq.imp id .inr), h2⟩
  simp only [aej] at ho
  rcases ho with rfl | ho
  ·exact h.1 p agk
  ·exact h1 o ho
theorem nf {ops : Array Oper} {i : Nat} {o : Oper} (ho : ops[i]? = some o) {d : Nat} : d ∈ bK ops.toList i ↔ ∃ e, e ∈ o.after ∧ Region.binds .any e = true ∧ e.on = d := by
 unfold bK
 have : ops.toList[i]? = some o := by simpa using ho
 rw [this]
 unfold Pc
 rw [List.mem_filterMap]
 constructor
 ·rintro ⟨e, he, hx⟩
  cases hb : Region.binds .any e with
  | true => rw [hb] at hx; exact ⟨e, by simpa using he, hb, by simpa using hx⟩
  | false => rw [hb] at hx; cases hx
 ·rintro ⟨e, he, hb, hx⟩
  exact ⟨e, by simpa using he, by rw [hb]; simp [hx]⟩
theorem xi (hT : di P T) (ops : Array Oper) {t : List (Nat × List Nat)} (iW : ∀ i x, kb (dc t i) x = true → Fk ops.toList x i) (lV : ∀ i, i < ops.size → ∀ d, d ∈ bK ops.toList i → d < ops.size ∧ d ≠ i)
  {K : Env → List aj → Prop} {Q : Exit → Act → World → Prop} (hK : ∀ env h a w μ S, K env h → mP C μ h S env a w → Q .normal a w) (hd : ∀ o ∈ ops.toList, mR C.nt o = true) :
  ∀ (n : Nat) (l : List (Nat × Bool)) (bI : List (Nat × List Nat)) (listed : Array Bool) (env : Env) (h : List aj) (a : Act) (w : World) (μ : Mu) (S : Nat → Prop), l.length = n → bW ops t l = true → (∀ p, p ∈ l → p.1 < ops.size) → listed.size = ops.size →
   (∀ j, j < ops.size → (listed.getD j true = false ↔ j ∈ l.map (·.1))) → (∀ j, j < ops.size → j ∉ l.map (·.1) → ∀ d, d ∈ bK ops.toList j → d ∉ l.map (·.1)) → CO P T ops.toList t K l bI env h → mP C μ h S env a w → wpAny P .any ops Q n listed a w
 | 0, l, bI, listed, env, h, a, w, μ, S, hn, _, _, iQ, xt, _, hf, hs => by
  obtain rfl : l = [] := List.length_eq_zero_iff.1 hn
  refine ⟨?_, hK env h a w μ S hf hs⟩
  cases hr : Region.ready .any ops listed with
  | nil => rfl
  | cons j r =>
   have hj : j ∈ Region.ready .any ops listed := by rw [hr]; simp
   rw [mem_ready] at hj
   obtain ⟨h1, o, ho, _⟩ := hj
   have := (xt j (aed.1 ho).1).1 h1
   simp at this
 | n + 1, l, bI, listed, env, h, a, w, μ, S, hn, Wp, bP, iQ, xt, Dr, hf, hs => by
  have SY : ∀ d, d < ops.size → (listed.getD d false = true ↔ d ∉ l.map (·.1)) := fun d O6 => by
   have := xt d O6
   have e : listed.getD d false = listed.getD d true := by simp [Array.getD, iQ, O6]
   rw [e, ← this]
   cases listed.getD d true <;> simp
  refine ⟨fun h0 => ?_, fun i hi => ?_⟩
  ·exfalso
   cases l with
   | nil => simp at hn
   | cons p r =>
    have hp := bP p agk
    have ho := aev hp
    have : p.1 ∈ Region.ready .any ops listed := by
     rw [mem_ready]
     refine ⟨(xt p.1 hp).2 agk, _, ho, fun e he hb => ?_⟩
     have hm : e.on ∈ bK ops.toList p.1 := (nf ho).2 ⟨e, he, hb, rfl⟩
     obtain ⟨d1, d2⟩ := lV p.1 hp _ hm
     rw [SY _ d1]
     intro hc
     simp only [aeg, aej, aeo] at hc
     rcases hc with hc | ⟨q, hq, hc⟩
     ·exact d2 hc
     ·simp only [bW, an, aei] at Wp
      have := Wp.1 q hq
      unfold ep at this
      simp only [an, aeD] at this
      rw [hc, uz _ _ hm] at this
      exact absurd this.1.2 agk
    rw [h0] at this
    simp at this
  ·rw [mem_ready] at hi
   obtain ⟨h1, oi, wa, HJ⟩ := hi
   have uq := (aed.1 wa).1
   have zG : ∀ d, d ∈ bK ops.toList i → d ∉ l.map (·.1) := fun d vd => by
    exact afF
   have vO : ∀ x, Fk ops.toList x i → x ∉ l.map (·.1) := by
    have gen : ∀ x j, Fk ops.toList x j → j < ops.size → (∀ d, d ∈ bK ops.toList j → d ∉ l.map (·.1)) → x ∉ l.map (·.1) := fun x j ha => by
     induction ha with
     | base hx => exact fun _ hj => hj _ hx
     | step vd _ ih => exact fun hj hjd => ih (lV _ hj _ vd).1 (Dr _ (lV _ hj _ vd).1 (hjd _ vd))
    exact fun x ha => gen x i ha uq zG
   obtain ⟨p, hp, SZ⟩ := aeo.1 ((xt i uq).1 h1)
   obtain ⟨l1, l2, rfl⟩ := List.append_of_mem hp
   obtain ⟨i', st⟩ := p
   simp only at SZ
   subst SZ
   obtain ⟨S4, adK⟩ := iV l1 l2 Wp
   have zH : ops.toList[i']? = some oi := by simpa using wa
   have LU := xj (P := P) (T := T) (ops := ops) (t := t) (K := K) zH l1 l2 bI env h (fun q hq => by
    have hk := S4 q hq
    unfold ep at hk
    simp only [an, aeH, aeD] at hk
    have hqm : q.1 ∈ (l1 ++ (i', st) :: l2).map (·.1) := aeo.2 ⟨q, by simp [hq], rfl⟩
    have hna : kb (dc t i') q.1 = false := by
     cases hb : kb (dc t i') q.1 with
     | false => rfl
     | true => exact absurd hqm (vO _ (iW _ _ hb))
    rcases hk.2 with uO | ⟨hk1, LV⟩
    ·exact absurd hqm (zG _ (lv _ _ uO))
    ·refine ⟨?_, hna, hk1⟩
     rcases LV with LV | LV
     ·exact LV
     ·rw [hna] at LV; cases LV) hf
   have rZ : ∀ q, q ∈ l1 ++ l2 → q.1 ≠ i' := fun q hq => by
    rw [aeh] at hq
    rcases hq with hq | hq
    ·have hk := S4 q hq
     unfold ep at hk
     simp only [an, aeD] at hk
     intro he
     have this : Nat.beq q.1 i' = false := hk.1.1
     rw [he, aeZ] at this
     cases this
    ·have : ∀ (l1 : List (Nat × Bool)), bW ops t (l1 ++ (i', st) :: l2) = true → ep ops t (i', st) q = true := fun l1 => by
      induction l1 with
      | nil => intro hh; simp only [aeS, bW, an, aei] at hh; exact hh.1 q hq
      | cons b r ih => intro hh; simp only [List.cons_append, bW, an] at hh; exact ih hh.2
     have hk := this l1 Wp
     unfold ep at hk
     simp only [an, aeD] at hk
     intro he
     have := hk.1.1
     rw [he] at this
     rw [aeZ] at this
     cases this
   have Fm : ∀ j, j ∈ (l1 ++ (i', st) :: l2).map (·.1) ↔ j = i' ∨ j ∈ (l1 ++ l2).map (·.1) := fun j => by
    simp only [aeG, aeg, aeh, aej]
    constructor
    ·rintro (h | h | h)
     ·exact .inr (.inl h)
     ·exact .inl h
     ·exact .inr (.inr h)
    ·rintro (h | h | h)
     ·exact .inr (.inl h)
     ·exact .inl h
     ·exact .inr (.inr h)
   have JR : i' ∉ (l1 ++ l2).map (·.1) := fun hm => by
    obtain ⟨q, hq, he⟩ := aeo.1 hm
    exact rZ q hq he
   have rr : qP P T ops.toList (fun env' h' => CO P T ops.toList t K (l1 ++ l2) bI env' h') [oi] env h := sh (du (fun v h' hk => hk.2.2) LU)
   refine kG hT ops (fun env' h' a' w' μ' S' hk j8 => xi hT ops iW lV hK hd n (l1 ++ l2) bI _ env' h' a' w' μ' S' (by simp at hn ⊢; omega) adK (fun q hq => bP q (by rw [aeh] at hq ⊢; exact hq.imp id (aen _))) (by simpa using iQ) (fun j hj => ?_) (fun j hj hjn dd Dk => ?_) hk j8) i' oi wa (hd oi (by have := (so.1 zH); obtain ⟨h1, h2⟩ := this; rw [← h2]; exact aef h1)) env h a w μ S rr hs
   ·by_cases iN : j = i'
    ·subst iN
     constructor
     ·intro hc
      have : (listed.setIfInBounds j true).getD j true = true := by simp [Array.getD, iQ, hj]
      rw [this] at hc; cases hc
     ·intro hc; exact absurd hc JR
    ·have e : (listed.setIfInBounds i' true).getD j true = listed.getD j true := getD_set_ne true (Ne.symm iN)
     rw [e, xt j hj, Fm j]
     constructor
     ·rintro (h | h)
      ·exact absurd h iN
      ·exact h
     ·exact .inr
   ·by_cases iN : j = i'
    ·subst iN
     exact fun hm => zG dd Dk ((Fm dd).2 (.inr hm))
    ·exact fun hm => Dr j hj (fun hc => by rcases (Fm j).1 hc with hc | hc; exact iN hc; exact hjn hc) dd Dk ((Fm dd).2 (.inr hm))
theorem ru {ops : Array Oper} {listed : Array Bool} {i : Nat} {L L' : List Nat} (Fm : ∀ j, j ∈ L ↔ j = i ∨ j ∈ L') (JR : i ∉ L') (iQ : listed.size = ops.size) (xt : ∀ j, j < ops.size → (listed.getD j true = false ↔ j ∈ L))
  (Dr : ∀ j, j < ops.size → j ∉ L → ∀ d, d ∈ bK ops.toList j → d ∉ L) (zG : ∀ d, d ∈ bK ops.toList i → d ∉ L) :
  (∀ j, j < ops.size → ((listed.setIfInBounds i true).getD j true = false ↔ j ∈ L')) ∧ ∀ j, j < ops.size → j ∉ L' → ∀ d, d ∈ bK ops.toList j → d ∉ L' := by
 refine ⟨fun j hj => ?_, fun j hj hjn d Dk hm => ?_⟩
 ·by_cases iN : j = i
  ·subst iN
   constructor
   ·intro hc
    have : (listed.setIfInBounds j true).getD j true = true := by simp [Array.getD, iQ, hj]
    rw [this] at hc; cases hc
   ·intro hc; exact absurd hc JR
  ·have e : (listed.setIfInBounds i true).getD j true = listed.getD j true := getD_set_ne true (Ne.symm iN)
   rw [e, xt j hj, Fm j]
   exact ⟨fun h => h.resolve_left iN, .inr⟩
 ·by_cases iN : j = i
  ·subst iN
   exact zG d Dk ((Fm d).2 (.inr hm))
  ·exact Dr j hj (fun hc => by rcases (Fm j).1 hc with hc | hc; exact iN hc; exact hjn hc) d Dk ((Fm d).2 (.inr hm))
theorem jR {ops : Array Oper} {t : List (Nat × List Nat)} {p q : Nat × Bool} (h : ep ops t p q = true) : p.1 ≠ q.1 := by
 unfold ep at h
 simp only [an, aeD] at h
 intro he
 have := h.1.1
 rw [he, aeZ] at this
 cases this
theorem BK {ops : Array Oper} {t : List (Nat × List Nat)} {p q : Nat × Bool} (h : ep ops t p q = true) : q.1 ∉ bK ops.toList p.1 := by
 unfold ep at h
 simp only [an, aeD] at h
 intro hm
 have := h.1.2
 rw [uz _ _ hm] at this
 cases this
theorem jq {ops : Array Oper} {t : List (Nat × List Nat)} {p q : Nat × Bool} : ∀ (l1 l2 : List (Nat × Bool)), bW ops t (l1 ++ p :: l2) = true → q ∈ l2 → ep ops t p q = true
 | [], l2, h, hq => by simp only [aeS, bW, an, aei] at h; exact h.1 q hq
 | _ :: l1, l2, h, hq => by simp only [List.cons_append, bW, an] at h; exact jq l1 l2 h.2 hq
theorem rv {ops : Array Oper} {t : List (Nat × List Nat)} (iW : ∀ i x, kb (dc t i) x = true → Fk ops.toList x i) {L : List Nat} {q : Nat × Bool} {i : Nat} {st : Bool} (hk : ep ops t q (i, st) = true) (hqL : q.1 ∈ L) (zG : ∀ d, d ∈ bK ops.toList i → d ∉ L) (vO : ∀ x, Fk ops.toList x i → x ∉ L) :
  q.2 = true ∧ kb (dc t i) q.1 = false ∧ qA ops q.1 i = true := by
 unfold ep at hk
 simp only [an, aeH, aeD] at hk
 have hna : kb (dc t i) q.1 = false := by
  cases hb : kb (dc t i) q.1 with
  | false => rfl
  | true => exact absurd hqL (vO _ (iW _ _ hb))
 rcases hk.2 with uO | ⟨hk1, LV⟩
 ·exact absurd hqL (zG _ (lv _ _ uO))
 ·refine ⟨?_, hna, hk1⟩
  rcases LV with LV | LV
  ·exact LV
  ·rw [hna] at LV; cases LV
theorem ve (hT : di P T) (ops : Array Oper) {t : List (Nat × List Nat)} (iW : ∀ i x, kb (dc t i) x = true → Fk ops.toList x i) (lV : ∀ i, i < ops.size → ∀ d, d ∈ bK ops.toList i → d < ops.size ∧ d ≠ i) {x y : Nat} {ra rb : List (Nat × Bool)}
  (hlen : rb.length = ra.length) (Rz : ∀ j, j ∈ ((x, false) :: ra).map (·.1) ↔ j ∈ ((y, false) :: rb).map (·.1)) (Wq : ∀ d, d ∈ bK ops.toList x → d ∉ ((x, false) :: ra).map (·.1)) (S5 : x ∉ ra.map (·.1)) (S6 : y ∉ rb.map (·.1))
  (Fo : ∀ p, p ∈ ra → p.1 = y ∨ kb (dc t p.1) x = true ∨ kb (dc t p.1) y = true)
  {K : Env → List aj → Prop} {Q : Exit → Act → World → Prop} (hK : ∀ env h a w μ S, K env h → mP C μ h S env a w → Q .normal a w) (hd : ∀ o ∈ ops.toList, mR C.nt o = true)
  (n : Nat) (l : List (Nat × Bool)) (bI : List (Nat × List Nat)) (listed : Array Bool) (env : Env) (h : List aj) (a : Act) (w : World) (μ : Mu) (S : Nat → Prop) (hn : l.length = n) (Pd : bW ops t (l ++ ra) = true) (S7 : bW ops t (l ++ rb) = true)
  (FH : ∀ p, p ∈ l → ep ops t p (x, false) = true ∧ ep ops t p (y, false) = true ∧ ∀ d, d ∈ bK ops.toList p.1 → d ∉ ((x, false) :: ra).map (·.1))
  (bP : ∀ p, p ∈ l ++ (x, false) :: ra → p.1 < ops.size) (iQ : listed.size = ops.size)
  (xt : ∀ j, j < ops.size → (listed.getD j true = false ↔ j ∈ (l ++ (x, false) :: ra).map (·.1))) (Dr : ∀ j, j < ops.size → j ∉ (l ++ (x, false) :: ra).map (·.1) → ∀ d, d ∈ bK ops.toList j → d ∉ (l ++ (x, false) :: ra).map (·.1))
  (hf : yn P T ops.toList t ((x, false) :: ra) ((y, false) :: rb) K l bI env h) (hs : mP C μ h S env a w)
  (ih : ∀ m, m + 1 = n → ∀ (l : List (Nat × Bool)) (bI : List (Nat × List Nat)) (listed : Array Bool) (env : Env) (h : List aj) (a : Act) (w : World) (μ : Mu) (S : Nat → Prop), l.length = m → bW ops t (l ++ ra) = true → bW ops t (l ++ rb) = true →
   (∀ p, p ∈ l → ep ops t p (x, false) = true ∧ ep ops t p (y, false) = true ∧ ∀ d, d ∈ bK ops.toList p.1 → d ∉ ((x, false) :: ra).map (·.1)) →
   (∀ p, p ∈ l ++ (x, false) :: ra → p.1 < ops.size) → listed.size = ops.size →
   (∀ j, j < ops.size → (listed.getD j true = false ↔ j ∈ (l ++ (x, false) :: ra).map (·.1))) → (∀ j, j < ops.size → j ∉ (l ++ (x, false) :: ra).map (·.1) → ∀ d, d ∈ bK ops.toList j → d ∉ (l ++ (x, false) :: ra).map (·.1)) →
   yn P T ops.toList t ((x, false) :: ra) ((y, false) :: rb) K l bI env h → mP C μ h S env a w → wpAny P .any ops Q (m + (ra.length + 1)) listed a w) : wpAny P .any ops Q (n + (ra.length + 1)) listed a w := by
 have SY : ∀ d, d < ops.size → (listed.getD d false = true ↔ d ∉ (l ++ (x, false) :: ra).map (·.1)) := fun d O6 => by
  have := xt d O6
  have e : listed.getD d false = listed.getD d true := by simp [Array.getD, iQ, O6]
  rw [e, ← this]
  cases listed.getD d true <;> simp
 have hx := bP (x, false) agk
 refine ⟨fun h0 => ?_, fun i hi => ?_⟩
 ·exfalso
  have first : ∃ p, p < ops.size ∧ p ∈ (l ++ (x, false) :: ra).map (·.1) ∧ ∀ d, d ∈ bK ops.toList p → d ∉ (l ++ (x, false) :: ra).map (·.1) := by
   cases l with
   | nil => exact ⟨x, hx, by simp, fun d Dk hm => Wq d Dk (by simpa using hm)⟩
   | cons p r =>
    have hp := bP p agk
    refine ⟨p.1, hp, by simp, fun d Dk hm => ?_⟩
    rw [aeG, aeh] at hm
    rcases hm with hm | hm
    ·simp only [aeg, aej, aeo] at hm
     rcases hm with rfl | ⟨q, hq, rfl⟩
     ·exact (lV _ hp _ Dk).2 rfl
     ·exact BK (jq [] _ Pd (afb _ hq)) Dk
    ·exact (FH p agk).2.2 d Dk hm
  obtain ⟨p, hp, hpm, hpd⟩ := first
  have ho := aev hp
  have : p ∈ Region.ready .any ops listed := by
   rw [mem_ready]
   refine ⟨(xt p hp).2 hpm, _, ho, fun e he hb => ?_⟩
   have hm : e.on ∈ bK ops.toList p := (nf ho).2 ⟨e, he, hb, rfl⟩
   rw [SY _ (lV p hp _ hm).1]
   exact hpd _ hm
  rw [h0] at this
  simp at this
 ·rw [mem_ready] at hi
  obtain ⟨h1, oi, wa, HJ⟩ := hi
  have uq := (aed.1 wa).1
  have zH : ops.toList[i]? = some oi := by simpa using wa
  have JS : mR C.nt oi = true := hd oi (by obtain ⟨h1, h2⟩ := so.1 zH; rw [← h2]; exact aef h1)
  have zG : ∀ d, d ∈ bK ops.toList i → d ∉ (l ++ (x, false) :: ra).map (·.1) := fun d vd => by
   exact afF
  have vO : ∀ z, Fk ops.toList z i → z ∉ (l ++ (x, false) :: ra).map (·.1) := by
   have gen : ∀ z j, Fk ops.toList z j → j < ops.size → (∀ d, d ∈ bK ops.toList j → d ∉ (l ++ (x, false) :: ra).map (·.1)) → z ∉ (l ++ (x, false) :: ra).map (·.1) := fun z j ha => by
    induction ha with
    | base hx => exact fun _ hj => hj _ hx
    | step vd _ ih => exact fun hj hjd => ih (lV _ hj _ vd).1 (Dr _ (lV _ hj _ vd).1 (hjd _ vd))
   exact fun z ha => gen z i ha uq zG
  have hyA : y ∈ ((x, false) :: ra).map (·.1) := (Rz y).2 agk
  have Fp := (xt i uq).1 h1
  rw [aeG, aeh] at Fp
  have split : i ∈ l.map (·.1) ∨ i = x ∨ i = y := by
   rcases Fp with Fp | Fp
   ·exact .inl Fp
   ·simp only [aeg, aej, aeo] at Fp
    rcases Fp with rfl | ⟨q, hq, rfl⟩
    ·exact .inr (.inl rfl)
    ·rcases Fo q hq with h2 | h2 | h2
     ·exact .inr (.inr h2)
     ·exact absurd (by simp : x ∈ (l ++ (x, false) :: ra).map (·.1)) (vO _ (iW _ _ h2))
     ·exact absurd (by rw [aeG, aeh]; exact .inr hyA) (vO _ (iW _ _ h2))
  rcases split with Fp | rfl | rfl
  ·-- one of those ahead
   obtain ⟨p, hp, SZ⟩ := aeo.1 Fp
   obtain ⟨l1, l2, rfl⟩ := List.append_of_mem hp
   obtain ⟨i', st⟩ := p
   simp only at SZ
   subst SZ
   have e1 : l1 ++ (i', st) :: l2 ++ ra = l1 ++ (i', st) :: (l2 ++ ra) := by simp
   have e2 : l1 ++ (i', st) :: l2 ++ rb = l1 ++ (i', st) :: (l2 ++ rb) := by simp
   rw [e1] at Pd
   rw [e2] at S7
   obtain ⟨S4, adL⟩ := iV l1 _ Pd
   obtain ⟨_, adM⟩ := iV l1 _ S7
   have LU := Ds (P := P) (T := T) (ops := ops) (t := t) (A0 := (x, false) :: ra) (B0 := (y, false) :: rb) (K := K) zH l1 l2 bI env h (fun q hq => rv iW (S4 q hq) (by rw [aeG, aeh]; exact .inl (aeo.2 ⟨q, afb _ hq, rfl⟩)) zG vO) hf
   have JR : i' ∉ ((l1 ++ l2) ++ (x, false) :: ra).map (·.1) := fun hm => by
    simp only [aeG, aeg, aeh, aej, aeo] at hm
    rcases hm with (⟨q, hq, he⟩ | ⟨q, hq, he⟩) | he | ⟨q, hq, he⟩
    ·exact jR (S4 q hq) he
    ·exact jR (jq l1 _ Pd (afb _ hq)) he.symm
    ·exact jR (FH (i', st) agk).1 he
    ·exact jR (jq l1 _ Pd (List.mem_append_right _ hq)) he.symm
   obtain ⟨r1, r2⟩ := ru (L' := ((l1 ++ l2) ++ (x, false) :: ra).map (·.1)) (fun j => by
    simp only [aeG, aeg, aeh, aej]
    constructor
    ·rintro ((h | h | h) | h)
     ·exact .inr (.inl (.inl h))
     ·exact .inl h
     ·exact .inr (.inl (.inr h))
     ·exact .inr (.inr h)
    ·rintro (h | (h | h) | h)
     ·exact .inl (.inr (.inl h))
     ·exact .inl (.inl h)
     ·exact .inl (.inr (.inr h))
     ·exact .inr h) JR iQ xt Dr zG
   have rr : qP P T ops.toList (fun env' h' => yn P T ops.toList t ((x, false) :: ra) ((y, false) :: rb) K (l1 ++ l2) bI env' h') [oi] env h := sh (du (fun v h' hk => hk.2.2) LU)
   obtain ⟨m, rfl⟩ : ∃ m, n = m + 1 := ⟨n - 1, by simp at hn; omega⟩
   rw [show (m + 1).add ra.length = m + (ra.length + 1) from (by show m + 1 + ra.length = _; omega)]
   refine kG hT ops (fun env' h' a' w' μ' S' hk j8 => ih m rfl (l1 ++ l2) bI _ env' h' a' w' μ' S' (by simp at hn ⊢; omega) (by rw [aek]; exact adL) (by rw [aek]; exact adM) (fun q hq => FH q (by
    simp only [aeh, aej] at hq ⊢
    exact hq.imp id .inr)) (fun q hq => bP q (by
    simp only [aeh, aej] at hq ⊢
    rcases hq with (h | h) | h
    ·exact .inl (.inl h)
    ·exact .inl (.inr (.inr h))
    ·exact .inr h)) (by simpa using iQ) r1 r2 hk j8) i' oi wa JS env h a w μ S rr hs
  ·-- the first of the two
   have zU : CO P T ops.toList t K (l ++ (i, false) :: ra) bI env h := JT l bI env h hf
   have LU := xj (P := P) (T := T) (ops := ops) (t := t) (K := K) zH l ra bI env h (fun q hq => rv iW (FH q hq).1 (by simp only [aeG, aeh]; exact .inl (aeo.2 ⟨q, hq, rfl⟩)) zG vO) zU
   have JR : i ∉ (l ++ ra).map (·.1) := fun hm => by
    simp only [aeG, aeh] at hm
    rcases hm with hm | hm
    ·obtain ⟨q, hq, he⟩ := aeo.1 hm
     exact jR (FH q hq).1 he
    ·exact S5 hm
   obtain ⟨r1, r2⟩ := ru (L' := (l ++ ra).map (·.1)) (fun j => by
    simp only [aeG, aeg, aeh, aej]
    constructor
    ·rintro (h | h | h)
     ·exact .inr (.inl h)
     ·exact .inl h
     ·exact .inr (.inr h)
    ·rintro (h | h | h)
     ·exact .inr (.inl h)
     ·exact .inl h
     ·exact .inr (.inr h)) JR iQ xt Dr zG
   have rr : qP P T ops.toList (fun env' h' => CO P T ops.toList t K (l ++ ra) bI env' h') [oi] env h := sh (du (fun v h' hk => hk.2.2) LU)
   refine kG hT ops (fun env' h' a' w' μ' S' hk j8 => xi hT ops iW lV hK hd (n + ra.length) (l ++ ra) bI _ env' h' a' w' μ' S' (by simp [hn]) Pd (fun q hq => bP q (by
    simp only [aeh, aej] at hq ⊢
    exact hq.imp id .inr)) (by simpa using iQ) r1 r2 hk j8) i oi wa JS env h a w μ S rr hs
  ·-- the second
   have zU : CO P T ops.toList t K (l ++ (i, false) :: rb) bI env h := JU l bI env h hf
   have LU := xj (P := P) (T := T) (ops := ops) (t := t) (K := K) zH l rb bI env h (fun q hq => rv iW (FH q hq).2.1 (by simp only [aeG, aeh]; exact .inl (aeo.2 ⟨q, hq, rfl⟩)) zG vO) zU
   have JR : i ∉ (l ++ rb).map (·.1) := fun hm => by
    simp only [aeG, aeh] at hm
    rcases hm with hm | hm
    ·obtain ⟨q, hq, he⟩ := aeo.1 hm
     exact jR (FH q hq).2.1 he
    ·exact S6 hm
   obtain ⟨r1, r2⟩ := ru (L' := (l ++ rb).map (·.1)) (fun j => by
    rw [aeG, aeh, Rz j, aeG]
    simp only [aeg, aeh, aej]
    constructor
    ·rintro (h | h | h)
     ·exact .inr (.inl h)
     ·exact .inl h
     ·exact .inr (.inr h)
    ·rintro (h | h | h)
     ·exact .inr (.inl h)
     ·exact .inl h
     ·exact .inr (.inr h)) JR iQ xt Dr zG
   have rr : qP P T ops.toList (fun env' h' => CO P T ops.toList t K (l ++ rb) bI env' h') [oi] env h := sh (du (fun v h' hk => hk.2.2) LU)
   refine kG hT ops (fun env' h' a' w' μ' S' hk j8 => xi hT ops iW lV hK hd (n + ra.length) (l ++ rb) bI _ env' h' a' w' μ' S' (by simp [hn, hlen]) S7 (fun q hq => by
    rw [aeh] at hq
    rcases hq with h | h
    ·exact bP q (afb _ h)
    ·have : q.1 ∈ ((x, false) :: ra).map (·.1) := (Rz q.1).2 (aen _ (aeo.2 ⟨q, h, rfl⟩))
     obtain ⟨p, hp, he⟩ := aeo.1 this
     rw [← he]
     exact bP p (List.mem_append_right _ hp)) (by simpa using iQ) r1 r2 hk j8) i oi wa JS env h a w μ S rr hs
theorem Pe (hT : di P T) (ops : Array Oper) {t : List (Nat × List Nat)} (iW : ∀ i x, kb (dc t i) x = true → Fk ops.toList x i) (lV : ∀ i, i < ops.size → ∀ d, d ∈ bK ops.toList i → d < ops.size ∧ d ≠ i) {x y : Nat} {ra rb : List (Nat × Bool)}
  (hlen : rb.length = ra.length) (Rz : ∀ j, j ∈ ((x, false) :: ra).map (·.1) ↔ j ∈ ((y, false) :: rb).map (·.1)) (Wq : ∀ d, d ∈ bK ops.toList x → d ∉ ((x, false) :: ra).map (·.1)) (S5 : x ∉ ra.map (·.1)) (S6 : y ∉ rb.map (·.1))
  (Fo : ∀ p, p ∈ ra → p.1 = y ∨ kb (dc t p.1) x = true ∨ kb (dc t p.1) y = true)
  {K : Env → List aj → Prop} {Q : Exit → Act → World → Prop} (hK : ∀ env h a w μ S, K env h → mP C μ h S env a w → Q .normal a w) (hd : ∀ o ∈ ops.toList, mR C.nt o = true)
  (n : Nat) (l : List (Nat × Bool)) (bI : List (Nat × List Nat)) (listed : Array Bool) (env : Env) (h : List aj) (a : Act) (w : World) (μ : Mu) (S : Nat → Prop) (hn : l.length = n) (Pd : bW ops t (l ++ ra) = true) (S7 : bW ops t (l ++ rb) = true)
  (FH : ∀ p, p ∈ l → ep ops t p (x, false) = true ∧ ep ops t p (y, false) = true ∧ ∀ d, d ∈ bK ops.toList p.1 → d ∉ ((x, false) :: ra).map (·.1))
  (bP : ∀ p, p ∈ l ++ (x, false) :: ra → p.1 < ops.size) (iQ : listed.size = ops.size)
  (xt : ∀ j, j < ops.size → (listed.getD j true = false ↔ j ∈ (l ++ (x, false) :: ra).map (·.1))) (Dr : ∀ j, j < ops.size → j ∉ (l ++ (x, false) :: ra).map (·.1) → ∀ d, d ∈ bK ops.toList j → d ∉ (l ++ (x, false) :: ra).map (·.1))
  (hf : yn P T ops.toList t ((x, false) :: ra) ((y, false) :: rb) K l bI env h) (hs : mP C μ h S env a w) : wpAny P .any ops Q (n + (ra.length + 1)) listed a w := by
 induction n generalizing l bI listed env h a w μ S with
 | zero => exact ve hT ops iW lV hlen Rz Wq S5 S6 Fo hK hd 0 l bI listed env h a w μ S hn Pd S7 FH bP iQ xt Dr hf hs (fun m hm => absurd hm (Nat.succ_ne_zero m))
 | succ n ih => exact ve hT ops iW lV hlen Rz Wq S5 S6 Fo hK hd (n + 1) l bI listed env h a w μ S hn Pd S7 FH bP iQ xt Dr hf hs (fun m hm => by (obtain rfl : m = n := Nat.succ.inj hm); exact ih)
def Left (ops : Array Oper) (l : List (Nat × Bool)) (R : List Nat) (listed : Array Bool) : Prop :=
 listed.size = ops.size ∧ (∀ j, j < ops.size → (listed.getD j true = false ↔ j ∈ l.map (·.1) ++ R)) ∧ ∀ j, j < ops.size → j ∉ l.map (·.1) ++ R → ∀ d, d ∈ bK ops.toList j → d ∉ l.map (·.1) ++ R
def Xl (P : Program) (T : oO) (C : Start) (ops : Array Oper) (t : List (Nat × List Nat)) (Q : Exit → Act → World → Prop) (E : List (Nat × List Nat) → Env → List aj → Prop) (R : List Nat) (c : List (Nat × Bool) → Prop) : Prop :=
 ∀ (l : List (Nat × Bool)) (bI : List (Nat × List Nat)) (listed : Array Bool) (env : Env) (h : List aj) (a : Act) (w : World) (μ : Mu) (S : Nat → Prop), c l → (∀ p, p ∈ l → p.1 < ops.size) → Left ops l R listed →
  ng P T ops.toList t E l bI env h → mP C μ h S env a w → wpAny P .any ops Q (l.length + R.length) listed a w
theorem Fq (hT : di P T) (ops : Array Oper) {t : List (Nat × List Nat)} (iW : ∀ i x, kb (dc t i) x = true → Fk ops.toList x i) (lV : ∀ i, i < ops.size → ∀ d, d ∈ bK ops.toList i → d < ops.size ∧ d ≠ i)
  {K : Env → List aj → Prop} {Q : Exit → Act → World → Prop} (hK : ∀ env h a w μ S, K env h → mP C μ h S env a w → Q .normal a w) (hd : ∀ o ∈ ops.toList, mR C.nt o = true) (A : List (Nat × Bool)) (hA : ∀ p, p ∈ A → p.1 < ops.size) :
  Xl P T C ops t Q (fun bI env h => CO P T ops.toList t K A bI env h) (A.map (·.1)) (fun l => bW ops t (l ++ A) = true) := by
 intro l bI listed env h a w μ S hc bP hL hf hs
 obtain ⟨iQ, xt, Dr⟩ := hL
 rw [show l.length + (A.map (·.1)).length = (l ++ A).length from by simp]
 rw [← aeG] at xt Dr
 exact xi hT ops iW lV hK hd _ (l ++ A) bI listed env h a w μ S rfl hc (fun p hp => by rcases aeh.1 hp with q | q; exact bP p q; exact hA p q) iQ xt Dr (tW l bI env h hf) hs
theorem RA {ops : Array Oper} {t : List (Nat × List Nat)} {Q : Exit → Act → World → Prop} {E : List (Nat × List Nat) → Env → List aj → Prop} {R : List Nat} {c : List (Nat × Bool) → Prop} (hE : Xl P T C ops t Q E R c) (o1 : List (Nat × Bool)) (h1 : ∀ p, p ∈ o1 → p.1 < ops.size) :
  Xl P T C ops t Q (fun bI env h => ng P T ops.toList t E o1 bI env h) (o1.map (·.1) ++ R) (fun l => c (l ++ o1)) := by
 intro l bI listed env h a w μ S hc bP hL hf hs
 have e : (l ++ o1).map (·.1) ++ R = l.map (·.1) ++ (o1.map (·.1) ++ R) := by simp
 have := hE (l ++ o1) bI listed env h a w μ S hc (fun p hp => by rcases aeh.1 hp with q | q; exact bP p q; exact h1 p q) (by unfold Left; rw [e]; exact hL) (tX l bI env h hf) hs
 rw [show l.length + (o1.map (·.1) ++ R).length = (l ++ o1).length + R.length from by simp; omega]
 exact this
structure BrC (ops : Array Oper) (t : List (Nat × List Nat)) (x y : Nat) (R : List Nat) (cX cY : List (Nat × Bool) → Prop) (l : List (Nat × Bool)) : Prop where
 pw : bW ops t l = true
 hd : ∀ p, p ∈ l → ep ops t p (x, false) = true ∧ ep ops t p (y, false) = true ∧ (∀ d, d ∈ bK ops.toList p.1 → d ∉ R) ∧ p.1 ∉ R
 x : cX l
 y : cY l
theorem Pf (hT : di P T) (ops : Array Oper) {t : List (Nat × List Nat)} (iW : ∀ i x, kb (dc t i) x = true → Fk ops.toList x i) (lV : ∀ i, i < ops.size → ∀ d, d ∈ bK ops.toList i → d < ops.size ∧ d ≠ i)
  {Q : Exit → Act → World → Prop} (hd : ∀ o ∈ ops.toList, mR C.nt o = true) {x y : Nat} {RX RY : List Nat} {EX EY : List (Nat × List Nat) → Env → List aj → Prop} {cX cY : List (Nat × Bool) → Prop} (hEX : tY EX) (hEY : tY EY)
  (hX : Xl P T C ops t Q EX RX cX) (hY : Xl P T C ops t Q EY RY cY) (hcX : ∀ l1 p l2, cX (l1 ++ p :: l2) → cX (l1 ++ l2)) (hcY : ∀ l1 p l2, cY (l1 ++ p :: l2) → cY (l1 ++ l2))
  (hlen : RX.length = RY.length) (Rz : ∀ j, j ∈ x :: RX ↔ j ∈ y :: RY) (W3 : x < ops.size) (hxd : ∀ d, d ∈ bK ops.toList x → d ∉ x :: RX) (S5 : x ∉ RX) (S6 : y ∉ RY) (Fo : ∀ j, j ∈ RX → j = y ∨ kb (dc t j) x = true ∨ kb (dc t j) y = true) :
  Xl P T C ops t Q (fun bI env h => ng P T ops.toList t EX [(x, false)] bI env h ∧ ng P T ops.toList t EY [(y, false)] bI env h) (x :: RX) (BrC ops t x y (x :: RX) cX cY) := by
 have hE : tY (fun bI env h => ng P T ops.toList t EX [(x, false)] bI env h ∧ ng P T ops.toList t EY [(y, false)] bI env h) := Dt (pQ hEX _) (pQ hEY _)
 intro l
 generalize hn : l.length = n
 induction n generalizing l with
 | zero => ?z
 | succ n ih => ?s
 all_goals
  intro bI listed env h a w μ S hc bP hL hf hs
  obtain ⟨iQ, xt, Dr⟩ := hL
  have SY : ∀ d, d < ops.size → (listed.getD d false = true ↔ d ∉ l.map (·.1) ++ x :: RX) := fun d O6 => by
   have := xt d O6
   have e : listed.getD d false = listed.getD d true := by simp [Array.getD, iQ, O6]
   rw [e, ← this]
   cases listed.getD d true <;> simp
  refine ⟨fun h0 => ?_, fun i hi => ?_⟩
 case z.refine_1 | s.refine_1 =>
  exfalso
  have first : ∃ p, p < ops.size ∧ p ∈ l.map (·.1) ++ x :: RX ∧ ∀ d, d ∈ bK ops.toList p → d ∉ l.map (·.1) ++ x :: RX := by
   cases l with
   | nil => exact ⟨x, W3, by simp, fun d Dk hm => hxd d Dk (by simpa using hm)⟩
   | cons p r =>
    have hp := bP p agk
    refine ⟨p.1, hp, by simp, fun d Dk hm => ?_⟩
    rw [aeh] at hm
    rcases hm with hm | hm
    ·simp only [aeg, aej, aeo] at hm
     rcases hm with rfl | ⟨q, hq, rfl⟩
     ·exact (lV _ hp _ Dk).2 rfl
     ·exact BK (jq [] _ hc.pw hq) Dk
    ·exact (hc.hd p agk).2.2.1 d Dk hm
  obtain ⟨p, hp, hpm, hpd⟩ := first
  have ho := aev hp
  have : p ∈ Region.ready .any ops listed := by
   rw [mem_ready]
   refine ⟨(xt p hp).2 hpm, _, ho, fun e he hb => ?_⟩
   have hm : e.on ∈ bK ops.toList p := (nf ho).2 ⟨e, he, hb, rfl⟩
   rw [SY _ (lV p hp _ hm).1]
   exact hpd _ hm
  rw [h0] at this
  simp at this
 all_goals
  rw [mem_ready] at hi
  obtain ⟨h1, oi, wa, HJ⟩ := hi
  have uq := (aed.1 wa).1
  have zH : ops.toList[i]? = some oi := by simpa using wa
  have JS : mR C.nt oi = true := hd oi (by obtain ⟨h1, h2⟩ := so.1 zH; rw [← h2]; exact aef h1)
  have zG : ∀ d, d ∈ bK ops.toList i → d ∉ l.map (·.1) ++ x :: RX := fun d vd => by
   exact afF
  have vO : ∀ z, Fk ops.toList z i → z ∉ l.map (·.1) ++ x :: RX := by
   have gen : ∀ z j, Fk ops.toList z j → j < ops.size → (∀ d, d ∈ bK ops.toList j → d ∉ l.map (·.1) ++ x :: RX) → z ∉ l.map (·.1) ++ x :: RX := fun z j ha => by
    induction ha with
    | base hx => exact fun _ hj => hj _ hx
    | step vd _ ih => exact fun hj hjd => ih (lV _ hj _ vd).1 (Dr _ (lV _ hj _ vd).1 (hjd _ vd))
   exact fun z ha => gen z i ha uq zG
  have hyA : y ∈ x :: RX := (Rz y).2 agk
  have Fp := (xt i uq).1 h1
  rw [aeh] at Fp
  have split : i ∈ l.map (·.1) ∨ i = x ∨ i = y := by
   rcases Fp with Fp | Fp
   ·exact .inl Fp
   ·rcases aej.1 Fp with rfl | hq
    ·exact .inr (.inl rfl)
    ·rcases Fo i hq with h2 | h2 | h2
     ·exact .inr (.inr h2)
     ·exact absurd (by simp : x ∈ l.map (·.1) ++ x :: RX) (vO _ (iW _ _ h2))
     ·exact absurd (by rw [aeh]; exact .inr hyA) (vO _ (iW _ _ h2))
  have adN : ∀ q, q ∈ l → q.1 ∉ x :: RX := fun q hq => (hc.hd q hq).2.2.2
  rcases split with Fp | rfl | rfl
 case z.refine_2.inl => obtain rfl := List.length_eq_zero_iff.1 hn; simp at Fp
 case s.refine_2.inl =>
  obtain ⟨p, hp, SZ⟩ := aeo.1 Fp
  obtain ⟨l1, l2, rfl⟩ := List.append_of_mem hp
  obtain ⟨i', st⟩ := p
  simp only at SZ
  subst SZ
  obtain ⟨S4, hpw⟩ := iV l1 _ hc.pw
  have LU := uB hE (P := P) (T := T) (ops := ops) (t := t) zH l1 l2 bI env h (fun q hq => rv iW (S4 q hq) (by rw [aeh]; exact .inl (aeo.2 ⟨q, afb _ hq, rfl⟩)) zG vO) hf
  have JR : i' ∉ (l1 ++ l2).map (·.1) ++ x :: RX := fun hm => by
   rw [aeh] at hm
   rcases hm with hm | hm
   ·obtain ⟨q, hq, he⟩ := aeo.1 hm
    rcases aeh.1 hq with hq | hq
    ·exact jR (S4 q hq) he
    ·exact jR (jq l1 _ hc.pw hq) he.symm
   ·exact adN (i', st) agk hm
  obtain ⟨r1, r2⟩ := ru (L' := (l1 ++ l2).map (·.1) ++ x :: RX) (fun j => by
   simp only [aeG, aeg, aeh, aej]
   constructor
   ·rintro ((h | h | h) | h)
    ·exact .inr (.inl (.inl h))
    ·exact .inl h
    ·exact .inr (.inl (.inr h))
    ·exact .inr (.inr h)
   ·rintro (h | (h | h) | h)
    ·exact .inl (.inr (.inl h))
    ·exact .inl (.inl h)
    ·exact .inl (.inr (.inr h))
    ·exact .inr h) JR iQ xt Dr zG
  have rr : qP P T ops.toList (fun env' h' => ng P T ops.toList t (fun bI env h => ng P T ops.toList t EX [(x, false)] bI env h ∧ ng P T ops.toList t EY [(y, false)] bI env h) (l1 ++ l2) bI env' h') [oi] env h := sh (du (fun v h' hk => hk.2.2) LU)
  have hc' : BrC ops t x y (x :: RX) cX cY (l1 ++ l2) := ⟨hpw, fun q hq => hc.hd q (by
   simp only [aeh, aej] at hq ⊢
   exact hq.imp id .inr), hcX _ _ _ hc.x, hcY _ _ _ hc.y⟩
  have q : wpOp P ops Q i' (wpAny P .any ops Q (n + (x :: RX).length) (listed.setIfInBounds i' true)) a w := kG hT ops (fun env' h' a' w' μ' S' hk j8 => ih (l1 ++ l2) (by simp at hn ⊢; omega) bI _ env' h' a' w' μ' S' hc' (fun q hq => bP q (by
   simp only [aeh, aej] at hq ⊢
   exact hq.imp id .inr)) ⟨by simpa using iQ, r1, r2⟩ hk j8) i' oi wa JS env h a w μ S rr hs
  rw [show n + (x :: RX).length = n + 1 + RX.length from by simp; omega] at q
  exact q
 case z.refine_2.inr.inl | s.refine_2.inr.inl =>
  have zU : ng P T ops.toList t EX (l ++ [(i, false)]) bI env h := tX l bI env h (xk (fun _ _ _ q => q.1) l bI env h hf)
  have LU := uB hEX (P := P) (T := T) (ops := ops) (t := t) zH l [] bI env h (fun q hq => rv iW (hc.hd q hq).1 (by rw [aeh]; exact .inl (aeo.2 ⟨q, hq, rfl⟩)) zG vO) zU
  have JR : i ∉ l.map (·.1) ++ RX := fun hm => by
   rcases aeh.1 hm with hm | hm
   ·obtain ⟨q, hq, he⟩ := aeo.1 hm
    exact jR (hc.hd q hq).1 he
   ·exact S5 hm
  obtain ⟨r1, r2⟩ := ru (L' := l.map (·.1) ++ RX) (fun j => by
   simp only [aeh, aej]
   constructor
   ·rintro (h | h | h)
    ·exact .inr (.inl h)
    ·exact .inl h
    ·exact .inr (.inr h)
   ·rintro (h | h | h)
    ·exact .inr (.inl h)
    ·exact .inl h
    ·exact .inr (.inr h)) JR iQ xt Dr zG
  have rr : qP P T ops.toList (fun env' h' => ng P T ops.toList t EX l bI env' h') [oi] env h := sh (du (fun v h' hk => by have := hk.2.2; rwa [aeR] at this) LU)
  have q : wpOp P ops Q i (wpAny P .any ops Q (l.length + RX.length) (listed.setIfInBounds i true)) a w := kG hT ops (fun env' h' a' w' μ' S' hk j8 => hX l bI _ env' h' a' w' μ' S' hc.x bP ⟨by simpa using iQ, r1, r2⟩ hk j8) i oi wa JS env h a w μ S rr hs
  rw [hn] at q
  exact q
 case z.refine_2.inr.inr | s.refine_2.inr.inr =>
  have zU : ng P T ops.toList t EY (l ++ [(i, false)]) bI env h := tX l bI env h (xk (fun _ _ _ q => q.2) l bI env h hf)
  have LU := uB hEY (P := P) (T := T) (ops := ops) (t := t) zH l [] bI env h (fun q hq => rv iW (hc.hd q hq).2.1 (by rw [aeh]; exact .inl (aeo.2 ⟨q, hq, rfl⟩)) zG vO) zU
  have JR : i ∉ l.map (·.1) ++ RY := fun hm => by
   rcases aeh.1 hm with hm | hm
   ·obtain ⟨q, hq, he⟩ := aeo.1 hm
    exact jR (hc.hd q hq).2.1 he
   ·exact S6 hm
  obtain ⟨r1, r2⟩ := ru (L' := l.map (·.1) ++ RY) (fun j => by
   rw [aeh, Rz j, aeh]
   simp only [aej]
   constructor
   ·rintro (h | h | h)
    ·exact .inr (.inl h)
    ·exact .inl h
    ·exact .inr (.inr h)
   ·rintro (h | h | h)
    ·exact .inr (.inl h)
    ·exact .inl h
    ·exact .inr (.inr h)) JR iQ xt Dr zG
  have rr : qP P T ops.toList (fun env' h' => ng P T ops.toList t EY l bI env' h') [oi] env h := sh (du (fun v h' hk => by have := hk.2.2; rwa [aeR] at this) LU)
  have q : wpOp P ops Q i (wpAny P .any ops Q (l.length + RY.length) (listed.setIfInBounds i true)) a w := kG hT ops (fun env' h' a' w' μ' S' hk j8 => hY l bI _ env' h' a' w' μ' S' hc.y bP ⟨by simpa using iQ, r1, r2⟩ hk j8) i oi wa JS env h a w μ S rr hs
  rw [hn, ← hlen] at q
  exact q
theorem tZ {ops : Array Oper} {t : List (Nat × List Nat)} : ∀ (l A : List (Nat × Bool)), bW ops t (l ++ A) = true → bW ops t l = true
 | [], _, _ => rfl
 | p :: l, A, h => by
  simp only [List.cons_append, bW, an, aei] at h ⊢
  exact ⟨fun q hq => h.1 q (afb _ hq), tZ l A h.2⟩
theorem Du {ops : Array Oper} {t : List (Nat × List Nat)} {ord : List (Nat × Bool)} {x y : Nat} {RX RY : List Nat} (h : RB ops t ord x y RX RY = true) :
  RX.length = RY.length ∧ (∀ p, p ∈ ord → ep ops t p (x, false) = true ∧ ep ops t p (y, false) = true ∧ (∀ d, d ∈ bK ops.toList p.1 → d ∉ x :: RX) ∧ p.1 ∉ x :: RX) ∧ (∀ j, j ∈ x :: RX ↔ j ∈ y :: RY) ∧
  (∀ d, d ∈ bK ops.toList x → d ∉ x :: RX) ∧ x ∉ RX ∧ y ∉ RY ∧ (∀ j, j ∈ RX → j = y ∨ kb (dc t j) x = true ∨ kb (dc t j) y = true) := by
 unfold RB at h
 simp only [an] at h
 obtain ⟨⟨⟨⟨⟨⟨⟨h1, h2⟩, h3⟩, h4⟩, h5⟩, h6⟩, h7⟩, h8⟩ := h
 rw [aei] at h2 h3 h4 h5 h8
 have no : ∀ (L : List Nat) (z : Nat), (!(kb L z)) = true → z ∉ L := fun L z hz hm => by rw [uz _ _ hm] at hz; cases hz
 refine ⟨Is h1, fun p hp => ?_, fun j => ⟨fun hj => lv _ _ (h3 j hj), fun hj => lv _ _ (h4 j hj)⟩, fun d hd => no _ _ (h5 d hd), no _ _ h6, no _ _ h7, fun j hj => ?_⟩
 ·have := h2 p hp
  rw [an, an, an, aei] at this
  exact ⟨this.1.1.1, this.1.1.2, fun d vd => no _ _ (this.1.2 d vd), no _ _ this.2⟩
 ·have := h8 j hj
  rw [aeH, aeH] at this
  rcases this with (q | q) | q
  ·exact .inl (Is q)
  ·exact .inr (.inl q)
  ·exact .inr (.inr q)
theorem LW (hT : di P T) (ops : Array Oper) {ord : List (Nat × Bool)} {x : Nat} {o1 : List (Nat × Bool)} {x1 : Nat} {xu : List (Nat × Bool)} {y1 : Nat} {HK : List (Nat × Bool)} {y : Nat} {rb : List (Nat × Bool)} (hc : BL ops ord x o1 x1 xu y1 HK y rb = true)
  {K : Env → List aj → Prop} {Q : Exit → Act → World → Prop} (hK : ∀ env h a w μ S, K env h → mP C μ h S env a w → Q .normal a w) (hd : ∀ o ∈ ops.toList, mR C.nt o = true) {env : Env} {h : List aj} {a : Act} {w : World}
  (hf : fw3 P T ops.toList (uP ops.toList (ord ++ (x, false) :: (o1 ++ (x1, false) :: xu)) []) x o1 x1 xu y1 HK y rb K ord [] env h) (hs : mP C μ h S env a w) : wpAny P .any ops Q ops.size (Array.replicate ops.size false) a w := by
 unfold BL at hc
 simp only [an] at hc
 obtain ⟨⟨⟨⟨⟨⟨⟨hlen, Wr⟩, lz⟩, QU⟩, Og⟩, SA⟩, de⟩, jr⟩ := hc
 rw [aei] at Wr lz
 have hlen := Is hlen
 generalize ht : uP ops.toList (ord ++ (x, false) :: (o1 ++ (x1, false) :: xu)) [] = t at *
 have iW : ∀ i x, kb (dc t i) x = true → Fk ops.toList x i := by rw [← ht]; exact uA _ [] (fun i x hx => by simp [dc, kb] at hx)
 generalize hal : ord ++ (x, false) :: (o1 ++ (x1, false) :: xu) = al at *
 have bP : ∀ p, p ∈ al → p.1 < ops.size := fun p hp => by
  have := lz p hp
  rw [an] at this
  exact aes this.1
 have BM : ∀ j, j < ops.size → j ∈ al.map (·.1) := fun j hj => lv _ _ (Wr j (List.mem_range.2 hj))
 have lV : ∀ i, i < ops.size → ∀ d, d ∈ bK ops.toList i → d < ops.size ∧ d ≠ i := fun i hi d vd => by
  obtain ⟨p, hp, rfl⟩ := aeo.1 (BM i hi)
  have := lz p hp
  rw [an, aei] at this
  have := this.2 d vd
  rw [an] at this
  exact ⟨aes this.1, fun he => by rw [he, aeZ] at this; cases this.2⟩
 obtain ⟨b1, b2, b3, b4, b5, b6, b7⟩ := Du de
 obtain ⟨c1, c2, c3, c4, c5, c6, c7⟩ := Du jr
 have mx : ∀ p, p ∈ ord ∨ p = (x, false) ∨ p ∈ o1 ∨ p = (x1, false) ∨ p ∈ xu → p.1 < ops.size := fun p hp => bP p (by
  rw [← hal]; simp only [aeh, aej]; exact hp)
 have mid : ∀ j, j ∈ x1 :: xu.map (·.1) → j < ops.size := fun j hj => by
  rcases aej.1 hj with rfl | hj
  ·exact mx (j, false) (.inr (.inr (.inr (.inl rfl))))
  ·obtain ⟨p, hp, rfl⟩ := aeo.1 hj
   exact mx p (.inr (.inr (.inr (.inr hp))))
 have aas : ∀ j, j ∈ x :: (o1.map (·.1) ++ x1 :: xu.map (·.1)) → j < ops.size := fun j hj => by
  rcases aej.1 hj with rfl | hj
  ·exact mx (j, false) (.inr (.inl rfl))
  ·rcases aeh.1 hj with hj | hj
   ·obtain ⟨p, hp, rfl⟩ := aeo.1 hj
    exact mx p (.inr (.inr (.inl hp)))
   ·exact mid j hj
 have app : ∀ {A : List (Nat × Bool)} (l1 : List (Nat × Bool)) (p : Nat × Bool) (l2 : List (Nat × Bool)), bW ops t ((l1 ++ p :: l2) ++ A) = true → bW ops t ((l1 ++ l2) ++ A) = true := fun {A} l1 p l2 q => by
  rw [aek] at q ⊢
  exact (iV l1 _ q).2
 have s1 := Fq (C := C) hT ops iW lV hK hd xu (fun p hp => mx p (.inr (.inr (.inr (.inr hp)))))
 have s2 := Fq (C := C) hT ops iW lV hK hd HK (fun p hp => mid p.1 ((c3 p.1).2 (aen _ (aeo.2 ⟨p, hp, rfl⟩))))
 have s3 := Fq (C := C) hT ops iW lV hK hd rb (fun p hp => aas p.1 ((b3 p.1).2 (aen _ (aeo.2 ⟨p, hp, rfl⟩))))
 have in1 := Pf (C := C) hT ops iW lV hd (x := x1) (y := y1) (rz xu) (rz HK) s1 s2 app app c1 c3 (mid x1 agk) c4 c5 c6 c7
 have in2 := RA in1 o1 (fun p hp => mx p (.inr (.inr (.inl hp))))
 have out := Pf (C := C) hT ops iW lV hd (x := x) (y := y) (pQ (Dt (pQ (rz xu) _) (pQ (rz HK) _)) o1) (rz rb) in2 s3 (fun l1 p l2 q => by
  rw [aek] at q ⊢
  obtain ⟨q1, q2, q3, q4⟩ := q
  refine ⟨(iV l1 _ q1).2, fun r hr => q2 r ?_, ?_, ?_⟩
  ·simp only [aeh, aej] at hr ⊢
   rcases hr with hr | hr | hr
   ·exact .inl hr
   ·exact .inr (.inl (.inr hr))
   ·exact .inr (.inr hr)
  ·have q3 : bW ops t ((l1 ++ (p :: l2 ++ o1)) ++ xu) = true := q3
   show bW ops t ((l1 ++ (l2 ++ o1)) ++ xu) = true
   rw [aek] at q3 ⊢
   exact (iV l1 _ q3).2
  ·have q4 : bW ops t ((l1 ++ (p :: l2 ++ o1)) ++ HK) = true := q4
   show bW ops t ((l1 ++ (l2 ++ o1)) ++ HK) = true
   rw [aek] at q4 ⊢
   exact (iV l1 _ q4).2) app b1 b3 (aas x agk) b4 b5 b6 b7
 have hR : ∀ j, j ∈ ord.map (·.1) ++ x :: (o1.map (·.1) ++ x1 :: xu.map (·.1)) ↔ j ∈ al.map (·.1) := fun j => by rw [← hal]; simp
 have iQ : ops.size = ord.length + (x :: (o1.map (·.1) ++ x1 :: xu.map (·.1))).length := by rw [← hlen, ← hal]; simp
 have := out ord [] (Array.replicate ops.size false) env h a w μ S ⟨tZ ord _ SA, b2, ⟨tZ _ _ QU, c2, QU, Og⟩, SA⟩ (fun p hp => mx p (.inl hp))
  ⟨by simp, fun j hj => ⟨fun _ => (hR j).2 (BM j hj), fun _ => by simp [Array.getD, hj]⟩, fun j hj hn => absurd ((hR j).2 (BM j hj)) hn⟩
  (qB (fun bI env h q => ⟨qB (E := fun bI env h => fw P T ops.toList t K ((x1, false) :: xu) bI env h ∧ fw P T ops.toList t K ((y1, false) :: HK) bI env h) (fun bI env h q => ⟨lR _ _ _ _ q.1, lR _ _ _ _ q.2⟩) ((x, false) :: o1) bI env h q.1, lR _ _ _ _ q.2⟩) ord [] env h hf) hs
 rw [← iQ] at this
 exact this
theorem RC {J : List (Nat × PV) → List aj → Prop} {env : Env} {h : List aj} {a : Act} {w : World} (hg : wX C.h.length J env h) : ∀ {μ : Mu} {S : Nat → Prop}, mP C μ h S env a w → ∃ σ η μ3 S3, mP C μ3 η S3 (yl nr σ) a w ∧ J σ η := by
 induction hg with
 | mk σ η ht hj =>
  intro μ S hs
  obtain ⟨μ3, S3, hs3⟩ := ym hs ht
  exact ⟨σ, η, μ3, S3, hs3, hj⟩
 | ex h1 hx hk ih =>
  intro μ S hs
  obtain ⟨μ1, Pg⟩ := hs.ex hx
  exact ih Pg
 | ab id i j sub h1 ha hk ih =>
  intro μ S hs
  obtain ⟨F, Pg⟩ := hs.ab ha
  exact ih F Pg
theorem RD {m : Nat} {A B : XQ → Env → List aj → Prop} {Q : XQ} {env : Env} {h : List aj} {a : Act} {w : World} {S : Nat → Prop} (hv : tS m A B Q env h) : ∀ {μ : Mu}, mP C μ h S env a w →
  ∃ μ' h', mP C μ' h' S env a w ∧ (A (XQ.then (B Q) Q) env h' ∨ ∃ J, A (XQ.then (wX m J) Q) env h' ∧ ∀ σ η, J σ η → B Q (yl nr σ) η) := by
 induction hv with
 | direct hd => exact fun hs => ⟨_, _, hs, .inl hd⟩
 | cut J ha hb => exact fun hs => ⟨_, _, hs, .inr ⟨J, ha, hb⟩⟩
 | ex h1 hx hk ih =>
  intro μ hs
  obtain ⟨μ1, Pg⟩ := hs.ex hx
  exact ih Pg
 | ab id i j sub h1 ha hk ih =>
  intro μ hs
  obtain ⟨F, Pg⟩ := hs.ab ha
  exact ih F Pg
theorem mM (hT : di P T) (vP : P.follows .mixedOrders = true) : ∀ (c : Code) (Q : XQ) (env : Env) (h : List aj) (a : Act) (w : World) (μ : Mu) (S : Nat → Prop),
  vc P T C.h.length c Q env h → codeOk C.nt c = true → mP C μ h S env a w → c.wp P (yj C Q) a w
 | .skip, Q, env, h, a, w, μ, S, hv, _, hs => wp_skip ⟨μ, h, S, env, hs, hv⟩
 | .label _, Q, env, h, a, w, μ, S, hv, _, hs => wp_label ⟨μ, h, S, env, hs, hv⟩
 | .exit _, Q, env, h, a, w, μ, S, hv, _, hs => wp_exit ⟨μ, h, S, env, hs, hv⟩
 | .ret, Q, env, h, a, w, μ, S, hv, _, hs => wp_ret ⟨μ, h, S, env, hs, hv⟩
 | .region id ops d, Q, env, h, a, w, μ, S, hv, xI, hs => by
  simp only [codeOk, an, aei] at xI
  have hd : ∀ o ∈ ops.toList, mR C.nt o = true := xI.1
  cases d with
  | false =>
   refine wp_region_list (vL hT ops (Q := yj C Q) (fun env h a w μ S hq hs => ⟨μ, h, S, env, hs, hq⟩) ops.toList env h a w μ S hv hd hs)
  | true =>
   have quiet : vN P T ops.toList h (fun env' => Q .normal env' h) ops.toList env → (Code.region id ops true).wp P (yj C Q) a w := fun hv => by
    refine wp_region_quiet (C := cy w) vP (by simpa using xI.2) (cy.drew w) ?_
    exact sg hT ops h w μ S (fun env a hq hs w' Xk => ⟨μ, h, S, env, hs.agree Xk, hq⟩) ops.toList env a hv hd hs
   have hv : (match ops.toList.all (fun o => Dv o.op) with
    | true => vN P T ops.toList h (fun env' => Q .normal env' h) ops.toList env
    | false => vQ P T C.h.length ops (fun env' h' => Q .normal env' h') env h) := hv
   split at hv
   ·exact quiet hv
   ·cases hv with
    | quiet hq => exact quiet hq
    | orders σ η hc zG hk =>
     refine wp_region_any vP ?_
     refine BI hT ops (C := C) (K := fun env' h' => tR C.h.length env' h' σ η) (Q := yj C Q) (fun env' h' a' w' μ' S' ht j8 => ?_) hd ops.size _ [] env h a _ μ S hc (by simpa using zG) (hs.agree (cy.drew w))
     obtain ⟨μ2, S2, Wm⟩ := ym j8 ht
     exact ⟨μ2, η, S2, _, Wm, hk⟩
    | Ws ord x ra y rb hc hf =>
     refine wp_region_any vP ?_
     unfold HL at hc
     simp only [an] at hc
     obtain ⟨⟨⟨⟨⟨⟨⟨⟨⟨⟨⟨⟨hlen, aat⟩, Wr⟩, lz⟩, Pd⟩, S7⟩, FH⟩, aau⟩, aav⟩, Wq⟩, S5⟩, S6⟩, Fo⟩ := hc
     rw [aei] at Wr lz FH aau aav Wq Fo
     have hlen := Is hlen
     have bP : ∀ p, p ∈ ord ++ (x, false) :: ra → p.1 < ops.size := fun p hp => by
      have := lz p hp
      rw [an] at this
      exact aes this.1
     have BM : ∀ j, j < ops.size → j ∈ (ord ++ (x, false) :: ra).map (·.1) := fun j hj => lv _ _ (Wr j (List.mem_range.2 hj))
     have no : ∀ (L : List Nat) (z : Nat), (!(kb L z)) = true → z ∉ L := fun L z hz hm => by rw [uz _ _ hm] at hz; cases hz
     rw [← hlen]
     exact Pe hT ops (C := C) (uA _ [] (fun i x hx => by simp [dc, kb] at hx)) (fun i hi d vd => by
      obtain ⟨p, hp, rfl⟩ := aeo.1 (BM i hi)
      have := lz p hp
      rw [an, aei] at this
      have := this.2 d vd
      rw [an] at this
      exact ⟨aes this.1, fun he => by rw [he, aeZ] at this; cases this.2⟩)
      (Is aat) (fun j => ⟨fun hj => lv _ _ (aau j hj), fun hj => lv _ _ (aav j hj)⟩) (fun d vd => no _ _ (Wq d vd)) (no _ _ S5) (no _ _ S6)
      (fun p hp => by
       have := Fo p hp
       rw [aeH, aeH] at this
       rcases this with (h1 | h1) | h1
       ·exact .inl (Is h1)
       ·exact .inr (.inl h1)
       ·exact .inr (.inr h1))
      (K := Ph Q) (Q := yj C Q) (fun env h a w μ S hq hs => ⟨μ, h, S, env, hs, hq⟩) hd ord.length ord [] _ env h a _ μ S rfl Pd S7 (fun p hp => by
       have := FH p hp
       rw [an, an, aei] at this
       exact ⟨this.1.1, this.1.2, fun d vd => no _ _ (this.2 d vd)⟩) bP (by simp [hlen]) (fun j hj => ⟨fun _ => BM j hj, fun _ => by simp [Array.getD, hlen, hj]⟩) (fun j hj hn => absurd (BM j hj) hn) (ua _ _ _ _ hf) (hs.agree (cy.drew w))
    | Wt ord x o1 x1 xu y1 HK y rb hc hf =>
     refine wp_region_any vP ?_
     exact LW (C := C) hT ops hc (K := Ph Q) (Q := yj C Q) (fun env h a w μ S hq hs => ⟨μ, h, S, env, hs, hq⟩) hd hf (hs.agree (cy.drew w))
    | float ord hc hf =>
     refine wp_region_any vP ?_
     unfold KP at hc
     simp only [an, aei, aeD] at hc
     obtain ⟨⟨⟨hlen, Wr⟩, lz⟩, Wp⟩ := hc
     have hlen := Is hlen
     have bP : ∀ p, p ∈ ord → p.1 < ops.size := fun p hp => aes (lz p hp).1
     have hnd : (ord.map (·.1)).Nodup := by
      have : ∀ (l : List (Nat × Bool)), bW ops (uP ops.toList ord []) l = true → (l.map (·.1)).Nodup := fun l => by
       induction l with
       | nil => simp
       | cons p r ih =>
        intro hh
        simp only [bW, an, aei] at hh
        simp only [aeg, List.nodup_cons]
        refine ⟨fun hm => ?_, ih hh.2⟩
        obtain ⟨q, hq, he⟩ := aeo.1 hm
        have := hh.1 q hq
        unfold ep at this
        simp only [an, aeD] at this
        have := this.1.1
        rw [he, aeZ] at this
        cases this
      exact this _ Wp
     have BM : ∀ j, j < ops.size → j ∈ ord.map (·.1) := fun j hj => lv _ _ (Wr j (List.mem_range.2 hj))
     exact xi hT ops (C := C) (uA ord [] (fun i x hx => by simp [dc, kb] at hx)) (fun i hi d vd => by
      obtain ⟨p, hp, rfl⟩ := aeo.1 (BM i hi)
      have := (lz p hp).2 d vd
      exact ⟨aes this.1, fun he => by rw [he, aeZ] at this; cases this.2⟩)
      (K := fun env' h' => Q .normal env' h') (Q := yj C Q) (fun env h a w μ S hq hs => ⟨μ, h, S, env, hs, hq⟩) hd ops.size ord [] _ env h a _ μ S hlen Wp bP agk (fun j hj => ⟨fun _ => BM j hj, fun _ => by simp [Array.getD, hj]⟩) (fun j hj hn => absurd (BM j hj) hn) (lR _ _ _ _ hf) (hs.agree (cy.drew w))
 | .seq x y, Q, env, h, a, w, μ, S, hv, xI, hs => by
  simp only [codeOk, an] at xI
  have hv : tS C.h.length (vc P T C.h.length x) (vc P T C.h.length y) Q env h := hv
  obtain ⟨μ, h, hs, hd | ⟨J, ha, hb⟩⟩ := RD hv hs
  ·refine wp_seq (Code.wp_mono (fun e a' w' hl => ?_) (mM hT vP x _ env h a w μ S hd xI.1 hs))
   cases e with
   | normal =>
    obtain ⟨μ', h', S', env', j8, hq⟩ := hl
    exact mM hT vP y Q env' h' a' w' μ' S' hq xI.2 j8
   | exit id => exact hl
   | goto l => exact hl
   | ret => exact hl
   | panic ch => exact hl
   | outgrown => exact hl
  ·refine wp_seq (Code.wp_mono (fun e a' w' hl => ?_) (mM hT vP x _ env h a w μ S ha xI.1 hs))
   cases e with
   | normal =>
    obtain ⟨μ', h', S', env', j8, hg⟩ := hl
    obtain ⟨σ, η, μ3, S3, hs3, hj⟩ := RC hg j8
    exact mM hT vP y Q _ η a' w' μ3 S3 (hb σ η hj) xI.2 hs3
   | exit id => exact hl
   | goto l => exact hl
   | ret => exact hl
   | panic ch => exact hl
   | outgrown => exact hl
 | .cond c x y, Q, env, h, a, w, μ, S, hv, xI, hs => by
  simp only [codeOk, an] at xI
  have hv : (match ev env c with
   | .bool t => eH t (vc P T C.h.length x Q env h) (vc P T C.h.length y Q env h)
   | _ => False) := hv
  have hc := bQ hs.tmps c
  split at hv
  ·rename_i b he
   rw [he] at hc
   obtain ⟨h1, h2⟩ := kz hv
   exact wp_cond_split hc.mD (fun hb => mM hT vP x Q env h a w μ S (h1 hb) xI.1 hs) (fun hb => mM hT vP y Q env h a w μ S (h2 hb) xI.2 hs)
  ·exact hv.elim
 | .block id c, Q, env, h, a, w, μ, S, hv, xI, hs => by
  refine wp_block (Code.wp_mono (fun e a' w' hl => ?_) (mM hT vP c _ env h a w μ S hv xI hs))
  cases e with
  | exit id' =>
   obtain ⟨μ', h', S', env', j8, hq⟩ := hl
   show if id' = id then yj C Q .normal a' w' else yj C Q (.exit id') a' w'
   simp only [XQ.inBlock] at hq
   by_cases hid : id' = id
   ·rw [if_pos hid]
    subst hid
    rw [show Nat.beq id' id' = true by simp] at hq
    exact ⟨μ', h', S', env', j8, hq⟩
   ·rw [if_neg hid]
    have : Nat.beq id' id = false := by
     cases hb : Nat.beq id' id with
     | true => exact (hid (Is hb)).elim
     | false => rfl
    rw [this] at hq
    exact ⟨μ', h', S', env', j8, hq⟩
  | normal => exact hl
  | goto l => exact hl
  | ret => exact hl
  | panic ch => exact hl
  | outgrown => exact hl
 | .loop c, Q, env, h, a, w, μ, S, hv, xI, hs => by
  intro b k cs
  replace hv : qw C.h.length (fun next => vc P T C.h.length c (XQ.then next Q)) env h := hv
  have key : ∀ (a : Act) (w : World) (μ : Mu) (S : Nat → Prop), mP C μ h S env a w → ∃ e a' w', yj C Q e a' w' ∧ Arrives P (lone (b.at a (.code c :: .inLoop c :: k)) cs w) b k cs e a' w' := by
   clear hs
   induction hv with
   | take σ η ht hk ih =>
    intro a w μ S hs
    obtain ⟨μ0, S0, VM⟩ := ym hs ht
    exact ih a w μ0 S0 VM
   | ex h1 hx hk ih =>
    intro a w μ S hs
    obtain ⟨μ1, Pg⟩ := hs.ex hx
    exact ih a w μ1 S Pg
   | ab id i j sub h1 ha hk ih =>
    intro a w μ S hs
    obtain ⟨F, Pg⟩ := hs.ab ha
    exact ih F a w μ S Pg
   | step N hN hb ih =>
    intro a w μ S hs
    obtain ⟨e, a₁, w₁, hq, HM⟩ := mM hT vP c _ _ _ a w μ S hb xI hs b (.inLoop c :: k) cs
    cases e with
    | normal =>
     obtain ⟨μ2, h2, S2, ad0, Wm, hn⟩ := hq
     obtain ⟨e₂, a₂, w₂, hq₂, harr₂⟩ := ih _ _ hn a₁ w₁ μ2 S2 Wm
     exact ⟨e₂, a₂, w₂, hq₂, .of_steps (Steps.trans HM (.one step_inLoop)) harr₂⟩
    | exit id => exact ⟨_, a₁, w₁, hq, .pass (x := .inLoop c) rfl (fun _ _ => .inl agk) HM⟩
    | goto l => exact ⟨_, a₁, w₁, hq, .pass (x := .inLoop c) rfl (fun _ _ => .inl agk) HM⟩
    | ret => exact ⟨_, a₁, w₁, hq, .pass (x := .inLoop c) rfl (fun _ _ => .inl agk) HM⟩
    | panic ch => exact ⟨_, a₁, w₁, hq, .pass (x := .inLoop c) rfl (fun _ _ => .inl agk) HM⟩
    | outgrown => exact ⟨_, a₁, w₁, hq, .pass (x := .inLoop c) rfl (fun _ _ => .inl agk) HM⟩
  obtain ⟨e, a', w', hq, HM⟩ := key a w μ S hs
  exact ⟨e, a', w', hq, .of_steps (.one step_loop) HM⟩
 | .rangeFunc _ _ _ _, Q, env, h, a, w, μ, S, hv, _, _ => hv.elim
 | .scope _, Q, env, h, a, w, μ, S, hv, _, _ => hv.elim
 | .goto _, Q, env, h, a, w, μ, S, hv, _, _ => hv.elim
 | .refuse _, Q, env, h, a, w, μ, S, hv, _, _ => hv.elim
theorem Pj (hT : di P T) (hH : cp μ h S w) (t : Nat) (px : PV) (v : Value) (hx : bG μ h S w px v) {K : PV → Prop} (hp : wL T t px h K) : ∃ pv val, K pv ∧ bG μ h S w pv val ∧ (do loadVar t (← asAddr v) : Sem Value).run P w = .ok val w := by
 obtain ⟨pv, val, hK, hv, hr⟩ := A9 (P := P) (dst := none) (ty := 0) (pos := "") (after := #[]) (guard := none) (a := ⟨#[v], []⟩) hT hH t (.tmp 0) px (by simpa [Act.eval] using hx) hp
 refine ⟨pv, val, hK, hv, ?_⟩
 have := hr w (cy.refl w)
 have he : (execOp (Act.eval ⟨#[v], []⟩) ⟨none, .load t (.tmp 0), 0, "", #[], none⟩) = (do pure (Next.value (← Instr.loadAt t v)) : Sem Next) := rfl
 rw [he] at this
 have adO : ∃ ad, v = .pointer (some ad) := by
  unfold wL at hp
  split at hp
  ·obtain ⟨b, off, vf, e1, _⟩ := hx.wF; exact ⟨_, e1⟩
  ·rename_i id gen i off
   split at hp
   ·rename_i g sz n e f hg
    obtain ⟨rfl, _⟩ := hp
    have hr := hx.tJ
    unfold bU at hr
    rw [eW hg] at hr
    obtain ⟨_, _, hr⟩ := hr
    obtain ⟨_, b, base, _, _, hv⟩ := hr rfl
    exact ⟨_, hv⟩
   ·exact afL
  ·exact afL
 obtain ⟨ad, rfl⟩ := adO
 simp only [Instr.loadAt, Instr.sureAddr, asAddr, Sem.run_bind, Sem.run_pure, Result.andThen_ok] at this ⊢
 cases hl : (loadVar t ad).run P w with
 | ok u w' =>
  rw [hl] at this
  simp only [Result.andThen] at this
  injection this with h1 h2
  injection h1 with h1
  rw [h1, h2]
 | halt x w' => rw [hl] at this; cases this
theorem qR (hT : di P T) (hs : mP C μ h S env a w) : ∀ (rs : List ResultVar) (K : List PV → Prop), uC T env h rs K → ∃ (vs : List PV) (us : List Value), K vs ∧ us.length = vs.length ∧ (∀ (j : Nat) (pv : PV), vs[j]? = some pv → ∃ u, us[j]? = some u ∧ bG μ h S w pv u) ∧
  (rs.mapM (fun | .tmp t => pure (a.tmps.getD t undef) | .cell ad t => (do loadVar t (← asAddr (a.tmps.getD ad undef))) : ResultVar → Sem Value)).run P w = .ok us w
 | [], K, hp => ⟨[], [], hp, rfl, fun j pv hj => by simp at hj, rfl⟩
 | .tmp t :: r, K, hp => by
  obtain ⟨vs, us, hK, h1, h2, h3⟩ := qR hT hs r _ hp
  refine ⟨env t :: vs, a.tmps.getD t undef :: us, hK, by simp [h1], fun j pv hj => ?_, ?_⟩
  ·cases j with
   | zero => simp at hj; subst hj; exact ⟨_, rfl, hs.tmps t⟩
   | succ j => simp at hj; obtain ⟨u, q1, q2⟩ := h2 j pv hj; exact ⟨u, by simpa using q1, q2⟩
  ·simp only [List.mapM_cons, Sem.run_bind, Sem.run_pure, Result.andThen_ok, h3]
 | .cell ad t :: r, K, hp => by
  obtain ⟨pv, val, hK, hv, hr⟩ := Pj hT hs.core.heap t _ _ (hs.tmps ad) hp
  obtain ⟨vs, us, hK, h1, h2, h3⟩ := qR hT hs r _ hK
  refine ⟨pv :: vs, val :: us, hK, by simp [h1], fun j fC hj => ?_, ?_⟩
  ·cases j with
   | zero => simp at hj; subst hj; exact ⟨_, rfl, hv⟩
   | succ j => simp at hj; obtain ⟨u, q1, q2⟩ := h2 j fC hj; exact ⟨u, by simpa using q1, q2⟩
  ·simp only [List.mapM_cons, Sem.run_bind, hr, Result.andThen_ok, h3, Sem.run_pure]
end
section
variable {P : Program} {T : oO}
def valOf : List Value → Value
 | [v] => v
 | us => .tuple us.toArray
theorem HN {fn : Func} {tmps : Array Value} {us : List Value} {w : World}
  (hm : (fn.results.toList.mapM (fun | .tmp t => pure (tmps.getD t undef) | .cell ad t => (do loadVar t (← asAddr (tmps.getD ad undef))) : ResultVar → Sem Value)).run P w = .ok us w) :
  (results fn tmps).run P w = .ok (valOf us) w := by
 unfold results
 rw [Array.mapM_eq_mapM_toList]
 simp only [map_eq_pure_bind, bind_assoc, pure_bind, Sem.run_bind]
 have key : ∀ X : Result (List Value), X = .ok us w → (X.andThen fun a w' => Sem.run P (pure (if h : a.toArray.size = 1 then a.toArray[0] else Value.tuple a.toArray)) w') = .ok (valOf us) w := by
  rintro _ rfl
  simp only [Result.andThen_ok, Sem.run_pure]
  congr 1
  match us with
  | [] => rfl
  | [v] => rfl
  | v :: u :: r => simp [valOf]
 exact key _ hm
theorem Pk {C : Start} {m : Nat} {R : PV → List aj → Prop} {env : Env} {h : List aj} {a : Act} {w : World} {S : Nat → Prop} {vs : List PV} {us : List Value} (hE : Ends m R h vs) : ∀ {μ : Mu}, mP C μ h S env a w →
  (∀ (j : Nat) (pv : PV), vs[j]? = some pv → ∃ u, us[j]? = some u ∧ bG μ h S w pv u) → ∃ μ' h', mP C μ' h' S env a w ∧ (∀ (j : Nat) (pv : PV), vs[j]? = some pv → ∃ u, us[j]? = some u ∧ bG μ' h' S w pv u) ∧
   vs.all lF = true ∧ ∃ (k : List Nat) (res : PV) (η : List aj), oc (nR η k) = true ∧ m ≤ k.length ∧ Fz h' η k (oneOf vs) res ∧ pO h' η k m 0 η k ∧ R res η := by
 induction hE with
 | mk hn k res η hk hm hz hh hR => exact fun hs h2 => ⟨_, _, hs, h2, hn, k, res, η, hk, hm, hz, hh, hR⟩
 | ex h1 hx hk ih =>
  intro μ hs h2
  obtain ⟨μ1, hf, hc⟩ := KN hs.core hx
  exact ih (hs.turn hf hc) (fun j pv hj => let ⟨u, q1, q2⟩ := h2 j pv hj; ⟨u, q1, q2.fr hf hs.core.ok⟩)
 | ab id i j sub h1 ha hk ih =>
  intro μ hs h2
  obtain ⟨hf, hc⟩ := KO hs.core (ha (FAb μ _ sub))
  exact ih _ (hs.turn hf hc) (fun j pv hj => let ⟨u, q1, q2⟩ := h2 j pv hj; ⟨u, q1, q2.fr hf hs.core.ok⟩)
theorem ACall.aac (hT : di P T) (vP : P.follows .mixedOrders = true) {f : FuncId} {fn : Func} {c : Code} (hf : P.funcs[f]? = some fn) (hb : fn.body = some c) (w8 : (fn.name == "runtime.NumGoroutine") = false)
  (args : List PV) (h : List aj) (R : PV → List aj → Prop) (hn : Nat.ble args.length fn.ntmps = true) (xI : codeOk fn.ntmps c = true)
  (hv : vc P T h.length c (aab T fn.results.toList h.length R) (tT args) h) : ACall P f args h R := by
 refine ⟨⟨fn, c, hf, hb, w8⟩, fun w vs μ S hH hM iQ rp => ?_⟩
 have hn := aes hn
 let C : Start := ⟨μ, h, S, w, fn.ntmps⟩
 have hs : mP C μ h S (tT args) ⟨vs ++ Array.replicate (fn.ntmps - vs.size) undef, []⟩ w := by
  refine ⟨⟨hH, hM⟩, Fr.refl, fun t => ?_, by simp; show _ = fn.ntmps; omega, fun t ht => ?_, rfl⟩
  ·unfold tT
   rw [aee]
   cases ha : args[t]? with
   | none => trivial
   | some pv =>
    obtain ⟨v, h1, h2⟩ := rp t pv ha
    have bP : t < vs.size := (aed.1 h1).1
    have : (vs ++ Array.replicate (fn.ntmps - vs.size) undef).getD t undef = v := by
     rw [Array.getD_eq_getD_getElem?, aeL bP, h1]; rfl
    simp only [Option.getD_some]
    rw [this]
    exact bG.Rr h2
  ·unfold tT
   rw [aee, aeC]
   ·rfl
   ·exact aeQ hn ht
 refine calls_of_wp hf hb ?_
 refine Code.wp_mono (fun e a' w' hl => ?_) (mM (C := C) hT vP c _ _ h _ w μ S hv xI hs)
 obtain ⟨μ', h', S', env', j8, hq⟩ := hl
 have fin : uC T env' h' fn.results.toList (Ends h.length R h') → a'.defers = [] ∧ ∃ v, (results fn a'.tmps).run P w' = .ok v w' ∧
   (∃ (v' : Value) (res : PV) (RE : List aj) (μ'' : Mu) (Wu : Nat → Prop), Ending.returned v = .returned v' ∧ R res RE ∧ bG μ'' RE Wu w' res v' ∧ cp μ'' RE Wu w' ∧ sR μ'' RE Wu w' ∧ Fr μ h S w μ'' RE Wu w') := fun hr => by
  obtain ⟨S8, us, hE, h1, h2, h3⟩ := qR hT j8 _ _ hr
  refine ⟨j8.defers, _, HN h3, ?_⟩
  obtain ⟨μ', h', j8, h2, SV, k, res, η, hk, hm, hz, hh, hR⟩ := Pk hE j8 h2
  have hvr : bG μ' h' S' w' (oneOf S8) (valOf us) := by
   have key : (∀ v, S8 ≠ [v]) → bG μ' h' S' w' (oneOf S8) (valOf us) := fun rZ => by
    have e1 : oneOf S8 = .dG S8 := by
     match S8, rZ with
     | [], _ => rfl
     | [v], rZ => exact (rZ v rfl).elim
     | a :: b :: r, _ => rfl
    have e2 : valOf us = .tuple us.toArray := by
     match us, h1 with
     | [], _ => rfl
     | [v], h1 =>
      match S8, h1, rZ with
      | [x], _, rZ => exact (rZ x rfl).elim
     | a :: b :: r, _ => rfl
    rw [e1, e2]
    refine ⟨_, rfl, by simpa using h1, fun j pv hj => ?_⟩
    obtain ⟨u, q1, q2⟩ := h2 j pv hj
    refine ⟨u, by simpa using q1, ?_⟩
    have hp : lF pv = true := (aei.1 SV) pv (ael hj)
    cases pv with
    | dG ps => cases hp
    | _ => exact q2
   match S8, us, h1 with
   | [v], [u], _ =>
    obtain ⟨u', q1, q2⟩ := h2 0 v rfl
    simp at q1
    subst q1
    exact q2
   | [], us, _ => exact key (fun v hv => by cases hv)
   | a :: b :: r, us, _ => exact key (fun v hv => by cases hv)
  obtain ⟨sG, _, _⟩ := xh j8.core hh hk
  exact ⟨_, res, η, lG μ' h' k, Dp μ' h' k S', rfl, hR, (tV j8.core hh hz).2.2 _ hvr, sG.heap, sG.ok, SW (C := C) j8.core j8.fr hh hk hm⟩
 cases e with
 | ret => exact fin hq
 | normal => exact fin hq
 | exit id => exact hq.elim
 | goto l => exact hq.elim
 | panic ch => exact hq.elim
 | outgrown => exact hq.elim
theorem ACall.mono {f : FuncId} {args : List PV} {h : List aj} {R R' : PV → List aj → Prop} (hc : ACall P f args h R) (hr : ∀ res h', R res h' → R' res h') : ACall P f args h R' :=
 ⟨hc.1, fun w vs μ S hH hM iQ ha => (hc.2 w vs μ S hH hM iQ ha).mono fun e w' ⟨v, res, h', μ', S', he, hR, rest⟩ => ⟨v, res, h', μ', S', he, hr _ _ hR, rest⟩⟩
end
def mZ (N : Nat) : PV → PV
 | .own id gen off len => .own (N + id) gen off len
 | .aN id gen i off => .aN (N + id) gen i off
 | .kN id => .kN (N + id)
 | .om f bN => .om f (sj (N + ·) bN)
 | v => v
def JV (N : Nat) : PV → PV
 | .agg cs => .agg (cs.map (mZ N))
 | v => mZ N v
def pM (N : Nat) : PV → PV
 | .dG vs => .dG (vs.map (JV N))
 | v => JV N v
def fy (N : Nat) : aj → aj
 | .row g sz n e f => .row g sz n e (fun i => (f i).map (mZ N))
 | .dead => .dead
def Dh : PV → Bool
 | .agg cs => cs.all bC
 | v => bC v
def oq : PV → Bool
 | .fM _ _ _ => false
 | .fx _ => false
 | .aY _ _ _ _ _ => false
 | _ => true
def S9 : PV → Bool
 | .agg cs => cs.all oq
 | v => oq v
def Hq : PV → Bool
 | .dG vs => vs.all S9
 | v => S9 v
def wV : aj → Prop
 | .row _ _ n _ f => ∀ i, i < n → (f i).all oq = true
 | .dead => True
section
variable {P : Program} {T : oO} {μ μ0 : Mu} {h h0 : List aj} {S S0 S' : Nat → Prop} {w w' : World}
def jY (μ : Mu) (N : Nat) (μ0 : Mu) : Mu := fun id => if id < N then μ id else μ0 (id - N)
theorem za {N : Nat} {a : PV} (h : j4 a = true) : mZ N a = a := by cases a <;> first | rfl | cases h
theorem oJ (N : Nat) (hN : h.length = N) (id : Nat) : (h ++ h0.map (fy N))[N + id]? = (h0[id]?).map (fy N) := by
 subst hN
 rw [aeu agi, Nat.add_sub_cancel_left, aet]
theorem sq (N id : Nat) : jY μ N μ0 (N + id) = μ0 id := by
 unfold jY
 rw [if_neg agi, Nat.add_sub_cancel_left]
theorem er (G : PV → Prop) (hG : ∀ pv v, G pv → aT S0 w' pv v → aT S' w' pv v) {pv : PV} {v : Value} (hg : G pv) (hc : bR μ0 h0 S0 w' pv v) :
  bR (jY μ h.length μ0) (h ++ h0.map (fy h.length)) S' w' (mZ h.length pv) v := by
 have ub : ∀ (id gen i off : Nat) (v : Value), bU μ0 h0 w' id gen i off v → bU (jY μ h.length μ0) (h ++ h0.map (fy h.length)) w' (h.length + id) gen i off v := fun id gen i off v hc => by
  unfold bU at hc ⊢
  rw [oJ _ rfl, sq]
  obtain ⟨h1, h2⟩ := hc
  refine ⟨h1, ?_⟩
  cases ho : h0[id]? with
  | none => rw [ho] at h2; exact h2
  | some o =>
   rw [ho] at h2
   cases o with
   | dead => trivial
   | row g sz n e f => exact h2
 cases pv with
 | own id gen off len =>
  have hc : bE μ0 h0 w' id gen off len v := hc
  show bE _ _ _ (h.length + id) gen off len v
  unfold bE at hc ⊢
  rw [oJ _ rfl, sq]
  obtain ⟨h1, h2⟩ := hc
  refine ⟨h1, ?_⟩
  cases ho : h0[id]? with
  | none => rw [ho] at h2; exact h2
  | some o =>
   rw [ho] at h2
   cases o with
   | dead => trivial
   | row g sz n e f => exact h2
 | aN id gen i off => exact ub _ _ _ _ _ hc
 | om f bN => exact sS.map (O := fun id g u => bU (jY μ h.length μ0) (h ++ h0.map (fy h.length)) w' id g 0 0 u) (sS.mono (show n9 μ0 h0 w' f bN v from hc) (fun id g u hu => ub id g 0 0 u hu))
 | kN id =>
  have hc : fX μ0 h0 w' id v := hc
  show fX _ _ _ (h.length + id) v
  unfold fX at hc ⊢
  rw [oJ _ rfl, sq]
  obtain ⟨h1, h2⟩ := hc
  refine ⟨h1, ?_⟩
  cases ho : h0[id]? with
  | none => rw [ho] at h2; exact h2
  | some o =>
   rw [ho] at h2
   cases o with
   | dead => trivial
   | row g sz n e f => exact h2
 | jc => exact hc
 | aY sz n e f F => exact hc
 | agg cs => exact (show False from hc).elim
 | dG cs => exact (show False from hc).elim
 | int k n => exact hG _ _ hg hc
 | bool b => exact hG _ _ hg hc
 | str s => exact hG _ _ hg hc
 | aO => exact hG _ _ hg hc
 | fM sz n f => exact hG _ _ hg hc
 | fx cs => exact hG _ _ hg hc
 | fn f => exact hG _ _ hg hc
theorem eu (G : PV → Prop) (hG : ∀ pv v, G pv → aT S0 w' pv v → aT S' w' pv v) {pv : PV} {v : Value} (hg : match pv with | .agg cs => ∀ c ∈ cs, G c | v => G v) (hc : jm μ0 h0 S0 w' pv v) :
  jm (jY μ h.length μ0) (h ++ h0.map (fy h.length)) S' w' (JV h.length pv) v := by
 cases pv with
 | agg cs =>
  obtain ⟨vs, h1, h2, h3⟩ := hc
  refine ⟨vs, h1, by simpa using h2, fun j pv hj => ?_⟩
  rw [aet] at hj
  cases hx : cs[j]? with
  | none => rw [hx] at hj; cases hj
  | some c =>
   rw [hx] at hj
   injection hj with hj
   subst hj
   obtain ⟨u, q1, q2⟩ := h3 j c hx
   exact ⟨u, q1, er G hG (hg c (ael hx)) q2⟩
 | jc => trivial
 | aY sz n e f F => exact er (μ := μ) (μ0 := μ0) (h := h) (h0 := h0) (pv := .aY sz n e f F) G hG hg hc
 | dG cs => exact (show False from hc).elim
 | own id gen off len => exact er (μ := μ) (μ0 := μ0) (h := h) (h0 := h0) (pv := .own id gen off len) G hG hg hc
 | aN id gen i off => exact er (μ := μ) (μ0 := μ0) (h := h) (h0 := h0) (pv := .aN id gen i off) G hG hg hc
 | kN id => exact er (μ := μ) (μ0 := μ0) (h := h) (h0 := h0) (pv := .kN id) G hG hg hc
 | om f bN => exact er (μ := μ) (μ0 := μ0) (h := h) (h0 := h0) (pv := .om f bN) G hG hg hc
 | int k n => exact er (μ := μ) (μ0 := μ0) (h := h) (h0 := h0) (pv := .int k n) G hG hg hc
 | bool b => exact er (μ := μ) (μ0 := μ0) (h := h) (h0 := h0) (pv := .bool b) G hG hg hc
 | str s => exact er (μ := μ) (μ0 := μ0) (h := h) (h0 := h0) (pv := .str s) G hG hg hc
 | aO => exact er (μ := μ) (μ0 := μ0) (h := h) (h0 := h0) (pv := .aO) G hG hg hc
 | fM sz n f => exact er (μ := μ) (μ0 := μ0) (h := h) (h0 := h0) (pv := .fM sz n f) G hG hg hc
 | fx cs => exact er (μ := μ) (μ0 := μ0) (h := h) (h0 := h0) (pv := .fx cs) G hG hg hc
 | fn f => exact er (μ := μ) (μ0 := μ0) (h := h) (h0 := h0) (pv := .fn f) G hG hg hc
def RF (G : PV → Prop) : PV → Prop
 | .dG vs => ∀ v ∈ vs, (match v with | .agg cs => ∀ c ∈ cs, G c | v => G v)
 | .agg cs => ∀ c ∈ cs, G c
 | v => G v
theorem BN (G : PV → Prop) (hG : ∀ pv v, G pv → aT S0 w' pv v → aT S' w' pv v) {pv : PV} {v : Value} (hg : RF G pv) (hc : bG μ0 h0 S0 w' pv v) :
  bG (jY μ h.length μ0) (h ++ h0.map (fy h.length)) S' w' (pM h.length pv) v := by
 cases pv with
 | dG cs =>
  obtain ⟨vs, h1, h2, h3⟩ := hc
  refine ⟨vs, h1, by simpa using h2, fun j pv hj => ?_⟩
  rw [aet] at hj
  cases hx : cs[j]? with
  | none => rw [hx] at hj; cases hj
  | some c =>
   rw [hx] at hj
   injection hj with hj
   subst hj
   obtain ⟨u, q1, q2⟩ := h3 j c hx
   exact ⟨u, q1, eu G hG (hg c (ael hx)) q2⟩
 | agg cs => exact eu (μ := μ) (μ0 := μ0) (h := h) (h0 := h0) (pv := .agg cs) G hG hg hc
 | jc => trivial
 | aY sz n e f F => exact eu (μ := μ) (μ0 := μ0) (h := h) (h0 := h0) (pv := .aY sz n e f F) G hG hg hc
 | own id gen off len => exact eu (μ := μ) (μ0 := μ0) (h := h) (h0 := h0) (pv := .own id gen off len) G hG hg hc
 | aN id gen i off => exact eu (μ := μ) (μ0 := μ0) (h := h) (h0 := h0) (pv := .aN id gen i off) G hG hg hc
 | kN id => exact eu (μ := μ) (μ0 := μ0) (h := h) (h0 := h0) (pv := .kN id) G hG hg hc
 | om f bN => exact eu (μ := μ) (μ0 := μ0) (h := h) (h0 := h0) (pv := .om f bN) G hG hg hc
 | int k n => exact eu (μ := μ) (μ0 := μ0) (h := h) (h0 := h0) (pv := .int k n) G hG hg hc
 | bool b => exact eu (μ := μ) (μ0 := μ0) (h := h) (h0 := h0) (pv := .bool b) G hG hg hc
 | str s => exact eu (μ := μ) (μ0 := μ0) (h := h) (h0 := h0) (pv := .str s) G hG hg hc
 | aO => exact eu (μ := μ) (μ0 := μ0) (h := h) (h0 := h0) (pv := .aO) G hG hg hc
 | fM sz n f => exact eu (μ := μ) (μ0 := μ0) (h := h) (h0 := h0) (pv := .fM sz n f) G hG hg hc
 | fx cs => exact eu (μ := μ) (μ0 := μ0) (h := h) (h0 := h0) (pv := .fx cs) G hG hg hc
 | fn f => exact eu (μ := μ) (μ0 := μ0) (h := h) (h0 := h0) (pv := .fn f) G hG hg hc
theorem Dw (hH : cp μ h S w) (hM : sR μ h S w) {μc : Mu} {Sc : Nat → Prop} (hF : Fr μc [] Sc w μ0 h0 S0 w') (P2 : cp μ0 h0 S0 w') (Dx : sR μ0 h0 S0 w')
  (G : PV → Prop) (hG : ∀ pv v, G pv → aT S0 w' pv v → aT S' w' pv v) (aaw : ∀ (id g sz n : Nat) (e : TypeId) (f : Nat → List PV), h0[id]? = some (aj.row g sz n e f) → ∀ i, i < n → ∀ c ∈ f i, (dK c = false → G c) ∧ (dK c = true → OG G c))
  (hS1 : ∀ b, S b → S' b) (hS2 : ∀ b, S' b → S b ∨ w.heap.size ≤ b) (hS3 : ∀ b, S' b → b < w'.heap.size) (hS4 : ∀ b, S' b → ¬ cz μ0 h0 b) :
  cp (jY μ h.length μ0) (h ++ h0.map (fy h.length)) S' w' ∧ sR (jY μ h.length μ0) (h ++ h0.map (fy h.length)) S' w' ∧ Fr μ h S w (jY μ h.length μ0) (h ++ h0.map (fy h.length)) S' w' := by
 have wq : ∀ b, ¬ cz μc [] b := fun b => jQ
 have j6 : ∀ b, b < w.heap.size → w'.heap[b]? = w.heap[b]? := fun b hb => hF.blocks b hb (wq b)
 have JW : ∀ b, cz μ0 h0 b → w.heap.size ≤ b := fun b hb => (hF.own b hb).resolve_left (wq b)
 have qt : ∀ id o, h[id]? = some o → (h ++ h0.map (fy h.length))[id]? = some o ∧ jY μ h.length μ0 id = μ id := fun id o hid => by
  have bP := (so.1 hid).1
  exact ⟨by rw [aeA bP]; exact hid, by unfold jY; rw [if_pos bP]⟩
 have inv : ∀ (id g sz n : Nat) (e : TypeId) (f : Nat → List PV), (h ++ h0.map (fy h.length))[id]? = some (aj.row g sz n e f) →
   (h[id]? = some (aj.row g sz n e f) ∧ jY μ h.length μ0 id = μ id) ∨ ∃ B7 f0, id = h.length + B7 ∧ h0[B7]? = some (aj.row g sz n e f0) ∧ jY μ h.length μ0 id = μ0 B7 ∧ f = fun i => (f0 i).map (mZ h.length) := fun id g sz n e f hid => by
  rcases aeK id h.length with bP | P0
  ·rw [aeA bP] at hid
   exact .inl ⟨hid, by unfold jY; rw [if_pos bP]⟩
  ·obtain ⟨B7, rfl⟩ : ∃ B7, id = h.length + B7 := ⟨id - h.length, by omega⟩
   rw [oJ _ rfl] at hid
   cases ho : h0[B7]? with
   | none => rw [ho] at hid; cases hid
   | some o =>
    rw [ho] at hid
    cases o with
    | dead => cases hid
    | row g0 Rv n0 e0 f0 =>
     injection hid with hid
     injection hid with e1 e2 e3 e4 e5
     subst e1 e2 e3 e4 e5
     exact .inr ⟨B7, f0, rfl, ho, sq _ _, rfl⟩
 have zB : ∀ b, B5 (jY μ h.length μ0) (h ++ h0.map (fy h.length)) b → B5 μ h b ∨ B5 μ0 h0 b := fun b ⟨id, g, sz, n, e, f, base, hid, hm⟩ => by
  rcases inv id g sz n e f hid with ⟨h1, h2⟩ | ⟨B7, f0, rfl, h1, h2, _⟩
  ·rw [h2] at hm; exact .inl ⟨id, g, sz, n, e, f, base, h1, hm⟩
  ·rw [h2] at hm; exact .inr ⟨B7, g, sz, n, e, f0, base, h1, hm⟩
 have adP : ∀ {c : PV} {sz n : Nat} {e : TypeId} {f : Nat → List PV} {F : Nat → Prop}, mZ h.length c = .aY sz n e f F → c = .aY sz n e f F := fun {c} _ _ _ _ _ hc => by
  cases c <;> first | exact hc | cases hc
 have qa : ∀ id i j b, dL (h ++ h0.map (fy h.length)) id i j b → dL h id i j b ∨ ∃ B7, id = h.length + B7 ∧ dL h0 B7 i j b := fun id i j b ⟨g, sz, n, e, f, bV, n', e', f', F', q1, q2, q3, q4⟩ => by
  rcases inv id g sz n e f q1 with ⟨h1, h2⟩ | ⟨B7, f0, rfl, h1, h2, rfl⟩
  ·exact .inl ⟨_, _, _, _, _, _, _, _, _, _, h1, q2, q3, q4⟩
  ·rw [aet] at q3
   cases hx : (f0 i)[j]? with
   | none => rw [hx] at q3; cases q3
   | some c =>
    rw [hx] at q3
    injection q3 with q3
    rw [adP q3] at hx
    exact .inr ⟨B7, rfl, _, _, _, _, _, _, _, _, _, _, h1, q2, hx, q4⟩
 have mL : ∀ b, cz (jY μ h.length μ0) (h ++ h0.map (fy h.length)) b → cz μ h b ∨ cz μ0 h0 b := fun b hb => by
  rcases hb with hb | ⟨x, y, z, hb⟩
  ·exact (zB b hb).imp .inl .inl
  ·rcases qa x y z b hb with q | ⟨_, _, q⟩
   ·exact .inl (.inr ⟨_, _, _, q⟩)
   ·exact .inr (.inr ⟨_, _, _, q⟩)
 have lr : Fr μ h S w (jY μ h.length μ0) (h ++ h0.map (fy h.length)) S' w' := by
  refine ⟨by simp, fun b hb _ => j6 b hb, hS1, fun b hb => (hS2 b hb).imp id .inr, fun b hb => (mL b hb).imp id (JW b), hF.size, hF.os, hF.tape, hF.output, fun id g sz n e f hid => ?_, fun id hid => (qt id _ hid).1, fun b k hb hc => kA.of_same (j6 b hc.lt) hc, fun id g sz n e f b base hid hm nX => ⟨let ⟨es, c, q⟩ := nX; ⟨es, c, (j6 b (aed.1 q).1).trans q⟩, .inr ⟨⟨_, _, _, _, _, (qt id _ hid).1⟩, (qt id _ hid).2.trans hm⟩⟩, fun b _ _ _ hx nX => let ⟨es, c, q⟩ := nX; ⟨es, c, (j6 b (aed.1 q).1).trans q⟩⟩
  obtain ⟨h1, h2⟩ := qt id _ hid
  rw [h1]
  exact ⟨aeb _, fun _ => ⟨h2, rfl, rfl, rfl⟩⟩
 refine ⟨fun id g sz n e f hid => ?_, ⟨fun b hb hs => ?_, fun b hb => ?_, hS3, ?_, hM.Bk lr, fun b hb x y z hx => ?_, fun b x y z x' y' z' hx vD => ?_⟩, lr⟩
 rotate_right 2
 ·rcases zB b hb with h1 | h1
  ·rcases qa x y z b hx with h2 | ⟨_, _, h2⟩
   ·exact hM.hv b h1 _ _ _ h2
   ·have a1 := hM.lt b (.inl h1)
    have a2 := JW b (.inr ⟨_, _, _, h2⟩)
    omega
  ·rcases qa x y z b hx with h2 | ⟨_, _, h2⟩
   ·have a1 := hM.lt b (.inr ⟨_, _, _, h2⟩)
    have a2 := JW b (.inl h1)
    omega
   ·exact Dx.hv b h1 _ _ _ h2
 ·rcases qa x y z b hx with h1 | ⟨u1, rfl, h1⟩
  ·rcases qa x' y' z' b vD with h2 | ⟨u2, rfl, h2⟩
   ·exact hM.hh b _ _ _ _ _ _ h1 h2
   ·have a1 := hM.lt b (.inr ⟨_, _, _, h1⟩)
    have a2 := JW b (.inr ⟨_, _, _, h2⟩)
    omega
  ·rcases qa x' y' z' b vD with h2 | ⟨u2, rfl, h2⟩
   ·have a1 := hM.lt b (.inr ⟨_, _, _, h2⟩)
    have a2 := JW b (.inr ⟨_, _, _, h1⟩)
    omega
   ·obtain ⟨e1, e2, e3⟩ := Dx.hh b _ _ _ _ _ _ h1 h2
    exact ⟨by rw [e1], e2, e3⟩
 ·rcases inv id g sz n e f hid with ⟨h1, h2⟩ | ⟨B7, f0, rfl, h1, h2, rfl⟩
  ·obtain ⟨q1, q2⟩ := hH id g sz n e f h1
   refine ⟨q1, ?_⟩
   rw [h2]
   cases hm : μ id with
   | none => rw [hm] at q2; exact q2
   | some p =>
    obtain ⟨b, base⟩ := p
    rw [hm] at q2
    obtain ⟨o, r1, r2⟩ := q2
    have bP : b < w.heap.size := (aed.1 r1).1
    exact ⟨o, (j6 b bP).trans r1, r2.mono (fun i y pv v hi hy hr => hr.fr lr hM (fun bV n' e' f' F' he b2 jr => j6 b2 (hM.lt b2 (.inr ⟨id, i, y, _, _, _, _, _, _, _, _, _, _, h1, hi, he ▸ hy, jr⟩))))⟩
  ·obtain ⟨q1, q2⟩ := P2 B7 g sz n e f0 h1
   refine ⟨fun i hi => by simpa using q1 i hi, ?_⟩
   rw [h2]
   cases hm : μ0 B7 with
   | none => rw [hm] at q2; exact q2
   | some p =>
    obtain ⟨b, base⟩ := p
    rw [hm] at q2
    obtain ⟨o, r1, r2⟩ := q2
    refine ⟨o, r1, ?_⟩
    cases o with
    | cells cur e' z =>
     obtain ⟨x1, x2, x3, r3⟩ := r2
     refine ⟨x1, x2, x3, fun i j pv hi hj => ?_⟩
     rw [aet] at hj
     cases hx : (f0 i)[j]? with
     | none => rw [hx] at hj; cases hj
     | some c =>
      rw [hx] at hj
      injection hj with hj
      subst hj
      obtain ⟨v, s1, s2⟩ := r3 i j c hi hx
      obtain ⟨g1, g2⟩ := aaw B7 g sz n e f0 h1 i hi c (ael hx)
      refine ⟨v, s1, ?_⟩
      cases ho : dK c with
      | false => exact bR.k (er G hG (g1 ho) s2.c) (by cases c <;> first | rfl | cases ho)
      | true =>
       cases c with
       | aY qy n2 e2 f2 F2 => exact lE.og hG (show lE S0 w' (.aY qy n2 e2 f2 F2) v from s2) (g2 rfl)
       | _ => cases ho
    | map es c =>
     obtain ⟨x1, r3⟩ := r2
     refine ⟨x1, fun i hi => ?_⟩
     obtain ⟨kp, vp, en, y1, y2, y3, y4⟩ := r3 i hi
     exact ⟨kp, vp, en, by show (f0 i).map (mZ h.length) = _; rw [y1]; show [mZ h.length kp, mZ h.length vp] = _; rw [za y2, za y3], y2, y3, y4⟩
    | _ => exact r2.elim
 ·rcases mL b hb with h1 | h1
  ·rcases hS2 b hs with h2 | h2
   ·exact hM.apart b h1 h2
   ·have := hM.lt b h1; omega
  ·exact hS4 b hs h1
 ·rcases mL b hb with h1 | h1
  ·exact aez (hM.lt b h1) hF.size
  ·exact Dx.lt b h1
 ·intro i j gi P1 ni ei fi gj pI nj ej fj b o o' hi hj p9 oH
  rcases inv i _ _ _ _ _ hi with ⟨h1, h2⟩ | ⟨B7, f0, rfl, h1, h2, _⟩
  ·rw [h2] at p9
   rcases inv j _ _ _ _ _ hj with ⟨h3, h4⟩ | ⟨Xh, f1, rfl, h3, h4, _⟩
   ·rw [h4] at oH; exact hM.inj i j _ _ _ _ _ _ _ _ _ _ _ _ _ h1 h3 p9 oH
   ·rw [h4] at oH
    have a1 := hM.lt b (.inl ⟨i, _, _, _, _, _, _, h1, p9⟩)
    have a2 := JW b (.inl ⟨Xh, _, _, _, _, _, _, h3, oH⟩)
    omega
  ·rw [h2] at p9
   rcases inv j _ _ _ _ _ hj with ⟨h3, h4⟩ | ⟨Xh, f1, rfl, h3, h4, _⟩
   ·rw [h4] at oH
    have a1 := hM.lt b (.inl ⟨j, _, _, _, _, _, _, h3, oH⟩)
    have a2 := JW b (.inl ⟨B7, _, _, _, _, _, _, h1, p9⟩)
    omega
   ·rw [h4] at oH
    have := Dx.inj B7 Xh _ _ _ _ _ _ _ _ _ _ _ _ _ h1 h3 p9 oH
    rw [this]
theorem ACall.frame {f : FuncId} {args : List PV} {R : PV → List aj → Prop} (hA : ACall P f args [] R) (h : List aj) (hp : args.all Dh = true) :
  ACall P f args h (fun res h' => ∃ r0 h0, R r0 h0 ∧ res = pM h.length r0 ∧ h' = h ++ h0.map (fy h.length)) := by
 refine ⟨hA.1, fun w vs μ S hH hM iQ ha => ?_⟩
 refine (hA.2 w vs (fun _ => none) S (fun id g sz n e f hid => by simp at hid) ⟨fun b hb => absurd hb jQ, fun b hb => absurd hb jQ, hM.slt, fun i j g sz n e f g' bV n' e' f' b o o' hi => by simp at hi, hM.known, fun b _ x y z hx => uu hx, fun b _ _ _ _ _ _ hx => absurd hx uu⟩ iQ (fun j pv hj => ?_)).mono ?_
 ·obtain ⟨v, h1, h2⟩ := ha j pv hj
  refine ⟨v, h1, ?_⟩
  have HO := (aei.1 hp) pv (ael hj)
  cases pv with
  | agg cs =>
   obtain ⟨us, q1, q2, q3⟩ := h2
   refine ⟨us, q1, q2, fun i c hi => ?_⟩
   obtain ⟨u, r1, r2⟩ := q3 i c hi
   have hc := (aei.1 HO) c (ael hi)
   exact ⟨u, r1, bR.j5 (uw hc r2)⟩
  | dG cs => cases HO
  | own id gen off len => cases HO
  | aN id gen i off => cases HO
  | kN id => cases HO
  | om f bN => cases HO
  | jc => cases HO
  | aY sz n e f F => cases HO
  | int k n => exact h2
  | bool b => exact h2
  | str s => exact h2
  | aO => exact h2
  | fM sz n f => exact h2
  | fx cs => exact h2
  | fn f => exact h2
 ·rintro e w' ⟨v, r0, h0, μ0, S0, he, hR, hv, P2, Dx, hF⟩
  have wq : ∀ b, ¬ cz (fun _ => none) [] b := fun b => jQ
  obtain ⟨c1, c2, c3⟩ := Dw (S' := S0) hH hM hF P2 Dx (fun _ => True) (fun _ _ _ h => h) (fun id g sz n e f hid i hi c hcm => ⟨fun _ => trivial, fun hx => by
    obtain ⟨j, hj, hcj⟩ := aeP.1 hcm
    obtain ⟨_, q2⟩ := P2 id g sz n e f hid
    cases iH : μ0 id with
    | none => rw [iH] at q2; omega
    | some p =>
     obtain ⟨b, base⟩ := p
     rw [iH] at q2
     obtain ⟨o, _, r2⟩ := q2
     cases o with
     | cells cur e' z =>
      obtain ⟨_, _, _, r3⟩ := r2
      obtain ⟨v, _, s2⟩ := r3 i j c hi (by rw [← hcj]; exact As hj)
      cases c with
      | aY qy n2 e2 f2 F2 => exact lE.all (show lE S0 w' (.aY qy n2 e2 f2 F2) v from s2)
      | _ => cases hx
     | map es cl =>
      obtain ⟨kp, vp, en, y1, y2, y3, _⟩ := r2.2 i hi
      rw [y1] at hcm
      rcases aej.1 hcm with q | q
      ·rw [q] at hx; cases kp <;> first | (cases hx; done) | (cases y2; done)
      ·rw [List.mem_singleton.1 q] at hx; cases vp <;> first | (cases hx; done) | (cases y3; done)
     | _ => exact r2.elim⟩) hF.sub
   (fun b hb => (hF.new b hb).imp id (fun h => h.resolve_left (wq b))) Dx.slt (fun b hb ho => Dx.apart b ho hb)
  have lz : RF (fun _ => True) r0 := by
   unfold RF
   split
   ·intro v _; split <;> intros <;> trivial
   ·intros; trivial
   ·trivial
  exact ⟨v, _, _, _, S0, he, ⟨r0, h0, hR, rfl, rfl⟩, BN _ (fun _ _ _ h => h) lz hv, c1, c2, c3⟩
theorem ACall.ab0 {f : FuncId} {args : List PV} {R : PV → List aj → Prop} {sz : Nat} {e : TypeId} {g : Nat → List PV} (hA : ACall P f (.own 0 0 0 0 :: args) [.row 0 sz 0 e g] R) (hp : args.all Dh = true) : ACall P f (.aO :: args) [] R := by
 have hnh : ∀ id i j b, ¬ dL [aj.row 0 sz 0 e g] id i j b := fun id i j b ⟨g', bV, n', e', f', _, _, _, _, _, q1, q2, _⟩ => by
  cases id with
  | succ id => simp at q1
  | zero =>
   simp at q1
   obtain ⟨rfl, rfl, rfl, rfl, rfl⟩ := q1
   exact aeB _ q2
 have hnv : ∀ b, ¬ B5 (fun _ => none) [aj.row 0 sz 0 e g] b := fun b ⟨id, g, sz, n, e, f, base, h1, h2⟩ => by cases h2
 have wq : ∀ b, ¬ cz (fun _ => none) [aj.row 0 sz 0 e g] b := fun b hb => by
  rcases hb with hb | ⟨x, y, z, hb⟩
  ·exact hnv b hb
  ·exact hnh _ _ _ _ hb
 have adQ : ∀ (μ : Mu) b, ¬ cz μ [] b := fun μ b => jQ
 refine ⟨hA.1, fun w vs μ S hH hM iQ ha => ?_⟩
 refine (hA.2 w vs (fun _ => none) S (fun id g' bV n' e' f' hid => ?_) ⟨fun b hb => absurd hb (wq b), fun b hb => absurd hb (wq b), hM.slt, (fun i j g sz n e f g' bV n' e' f' b o o' _ _ h3 => by cases h3), hM.known, fun b hb => absurd hb (hnv b), fun b _ _ _ _ _ _ hx => absurd hx (hnh _ _ _ _)⟩ (by simpa using iQ) (fun j pv hj => ?_)).mono ?_
 ·cases id with
  | succ id => simp at hid
  | zero =>
   simp at hid
   obtain ⟨rfl, rfl, rfl, rfl, rfl⟩ := hid
   exact ⟨fun i hi => absurd hi (aeB _), rfl⟩
 ·cases j with
  | zero =>
   simp at hj
   subst hj
   obtain ⟨v, h1, h2⟩ := ha 0 .aO rfl
   refine ⟨v, h1, ?_⟩
   have h2 : aT S w .aO v := h2
   cases h2
   have hr : bE (fun _ => none) [.row 0 sz 0 e g] w 0 0 0 0 (.slice none 0 0) := ⟨⟨_, _, _, rfl⟩, aeb _, fun _ => ⟨aeb _, rfl⟩⟩
   exact hr
  | succ j =>
   have Ha : args[j]? = some pv := by simpa using hj
   obtain ⟨v, h1, h2⟩ := ha (j + 1) pv (by simpa using Ha)
   refine ⟨v, h1, ?_⟩
   have HO := (aei.1 hp) pv (ael Ha)
   cases pv with
   | agg cs =>
    obtain ⟨us, q1, q2, q3⟩ := h2
    refine ⟨us, q1, q2, fun i c hi => ?_⟩
    obtain ⟨u, r1, r2⟩ := q3 i c hi
    have hc := (aei.1 HO) c (ael hi)
    exact ⟨u, r1, bR.j5 (uw hc r2)⟩
   | dG cs => cases HO
   | own id gen off len => cases HO
   | aN id gen i off => cases HO
   | kN id => cases HO
   | om f bN => cases HO
   | jc => cases HO
   | aY sz n e f F => cases HO
   | int k n => exact h2
   | bool b => exact h2
   | str s => exact h2
   | aO => exact h2
   | fM sz n f => exact h2
   | fx cs => exact h2
   | fn f => exact h2
 ·rintro e' w' ⟨v, r0, h0, μ0, S0, he, hR, hv, P2, Dx, hF⟩
  exact ⟨v, r0, h0, μ0, S0, he, hR, hv, P2, Dx, ⟨aeE _, fun b hb _ => hF.blocks b hb (wq b), hF.sub, fun b hb => (hF.new b hb).imp id (fun h => .inr (h.resolve_left (wq b))), fun b hb => .inr ((hF.own b hb).resolve_left (wq b)), hF.size, hF.os, hF.tape, hF.output,
   fun id g sz n e f hj => by simp at hj, fun id hj => by simp at hj, fun b k hb _ => absurd hb (adQ _ b), fun id g sz n e f b base hj _ _ => by simp at hj, fun b _ _ _ hx _ => absurd hx uu⟩⟩
def Ta : aj → Prop
 | .row _ _ n _ f => ∀ i, i < n → ∀ c ∈ f i, (dK c = false → oq c = true) ∧ (dK c = true → OG (fun pv => oq pv = true) c)
 | .dead => True
theorem wV.p {o : aj} (h : wV o) : Ta o := by
 cases o with
 | dead => trivial
 | row g sz n e f =>
  intro i hi c hc
  have := (aei.1 (h i hi)) c hc
  exact ⟨fun _ => this, fun hx => by cases c <;> first | (cases hx; done) | (cases this; done)⟩
theorem ACall.snap {f : FuncId} {args j7 : List PV} {R : PV → List aj → Prop} (hA : ACall P f j7 [] R) (h : List aj) (hl : j7.length = args.length)
  (hz : ∀ (j : Nat) (pv fC : PV), args[j]? = some pv → j7[j]? = some fC → Fz h [] [] pv fC ∧ lF fC = true) (KD : ∀ r0 h0, R r0 h0 → Hq r0 = true ∧ ∀ o ∈ h0, Ta o) :
  ACall P f args h (fun res h' => ∃ r0 h0, R r0 h0 ∧ res = pM h.length r0 ∧ h' = h ++ h0.map (fy h.length)) := by
 refine ⟨hA.1, fun w vs μ S hH hM iQ ha => ?_⟩
 have hfz : pO h [] [] 0 0 [] [] := trivial
 obtain ⟨sG, _, _⟩ := xh (m := 0) ⟨hH, hM⟩ hfz rfl
 refine (hA.2 w vs (lG μ h []) (Dp μ h [] S) sG.heap sG.ok agi (fun j fC hj => ?_)).mono ?_
 ·have H4 : j < args.length := by rw [← hl]; exact (so.1 hj).1
  have sd := As H4
  obtain ⟨v, h1, h2⟩ := ha j _ sd
  obtain ⟨z1, z2⟩ := hz j _ fC sd hj
  exact ⟨v, h1, (tV (m := 0) ⟨hH, hM⟩ hfz z1).2.1 v h2⟩
 ·rintro e w' ⟨v, r0, h0, μ0, S0, he, hR, hv, P2, Dx, hF⟩
  obtain ⟨xL, Kb⟩ := KD r0 h0 hR
  have wq : ∀ b, ¬ cz (lG μ h []) [] b := fun b => jQ
  have hG : ∀ pv v, oq pv = true → aT S0 w' pv v → aT S w' pv v := fun pv v hf hp => by
   cases hp with
   | int k n => exact .int k n
   | bool b => exact .bool b
   | str s => exact .str s
   | aO => exact .aO
   | fn f => exact .fn f
   | p6 => cases hf
   | fM => cases hf
   | fx => cases hf
  obtain ⟨c1, c2, c3⟩ := Dw (S' := S) hH hM hF P2 Dx (fun pv => oq pv = true) hG (fun id g sz n e f hid i hi c hc => Kb _ (ael hid) i hi c hc) (fun _ hb => hb) (fun b hb => .inl hb) (fun b hb => aez (hM.slt b hb) hF.size)
   (fun b hb ho => by
    have h1 := (hF.own b ho).resolve_left (wq b)
    have h2 := hM.slt b hb
    omega)
  have lz : RF (fun pv => oq pv = true) r0 := by
   cases r0 with
   | dG vs =>
    intro v hv
    have := (aei.1 xL) v hv
    cases v with
    | agg cs => exact fun c hc => (aei.1 this) c hc
    | _ => exact this
   | agg cs => exact fun c hc => (aei.1 xL) c hc
   | _ => exact xL
  exact ⟨v, _, _, _, S, he, ⟨r0, h0, hR, rfl, rfl⟩, BN _ hG lz hv, c1, c2, c3⟩
end
def pN (σ : Nat → Nat) : PV → PV
 | .own id gen off len => .own (σ id) gen off len
 | .aN id gen i off => .aN (σ id) gen i off
 | .kN id => .kN (σ id)
 | .om f bN => .om f (sj σ bN)
 | v => v
def Br (σ : Nat → Nat) : PV → PV
 | .agg cs => .agg (cs.map (pN σ))
 | v => pN σ v
def JC (σ : Nat → Nat) : PV → PV
 | .dG vs => .dG (vs.map (Br σ))
 | v => Br σ v
def tQ (σ : Nat → Nat) : aj → aj
 | .row g sz n e f => .row g sz n e (fun i => (f i).map (pN σ))
 | .dead => .dead
theorem Dy {σ : Nat → Nat} {a : PV} (h : j4 (pN σ a) = true) : pN σ a = a := by cases a <;> first | rfl | cases h
theorem Dz {σ : Nat → Nat} {a : PV} (h : j4 a = true) : pN σ a = a := by cases a <;> first | rfl | cases h
section
variable {P : Program} {T : oO} {μ μ0 μ1 : Mu} {h h0 h1 hc : List aj} {S S0 S1 : Nat → Prop} {w w' : World} {σ : Nat → Nat}
theorem Pl {pv : PV} {v : Value} (jd : ∀ j, (∃ g sz n e f, h0[j]? = some (aj.row g sz n e f) ∧ (∃ f', h1[σ j]? = some (aj.row g sz n e f')) ∧ μ1 (σ j) = μ0 j) ∨ (h0[j]? = some aj.dead ∧ h1[σ j]? = some aj.dead) ∨ h0[j]? = none)
  (hS : ∀ b, S0 b → S1 b) (hc : bR μ0 h0 S0 w pv v) : bR μ1 h1 S1 w (pN σ pv) v := by
 have ub : ∀ (id gen i off : Nat) (v : Value), bU μ0 h0 w id gen i off v → bU μ1 h1 w (σ id) gen i off v := fun id gen i off v hc => by
  unfold bU at hc ⊢
  obtain ⟨q1, q2⟩ := hc
  refine ⟨q1, ?_⟩
  rcases jd id with ⟨g, sz, n, e, f, r1, ⟨f', r2⟩, r3⟩ | ⟨r1, r2⟩ | r1
  ·rw [r1] at q2
   rw [r2]
   show gen ≤ g ∧ _
   rw [r3]
   exact q2
  ·rw [r2]; trivial
  ·rw [r1] at q2; exact q2.elim
 cases pv with
 | own id gen off len =>
  have hc : bE μ0 h0 w id gen off len v := hc
  show bE μ1 h1 w (σ id) gen off len v
  unfold bE at hc ⊢
  obtain ⟨q1, q2⟩ := hc
  refine ⟨q1, ?_⟩
  rcases jd id with ⟨g, sz, n, e, f, r1, ⟨f', r2⟩, r3⟩ | ⟨r1, r2⟩ | r1
  ·rw [r1] at q2
   rw [r2]
   show gen ≤ g ∧ _
   rw [r3]
   exact q2
  ·rw [r2]; trivial
  ·rw [r1] at q2; exact q2.elim
 | aN id gen i off => exact ub _ _ _ _ _ hc
 | om f bN => exact sS.map (O := fun id g u => bU μ1 h1 w id g 0 0 u) (sS.mono (show n9 μ0 h0 w f bN v from hc) (fun id g u hu => ub id g 0 0 u hu))
 | kN id =>
  have hc : fX μ0 h0 w id v := hc
  show fX μ1 h1 w (σ id) v
  unfold fX at hc ⊢
  obtain ⟨q1, q2⟩ := hc
  refine ⟨q1, ?_⟩
  rcases jd id with ⟨g, sz, n, e, f, r1, ⟨f', r2⟩, r3⟩ | ⟨r1, r2⟩ | r1
  ·rw [r1] at q2
   rw [r2]
   obtain ⟨b, base, x1, x2⟩ := q2
   exact ⟨b, base, r3.trans x1, x2⟩
  ·rw [r2]; trivial
  ·rw [r1] at q2; exact q2.elim
 | jc => exact hc
 | aY sz n e f F => exact hc
 | agg cs => exact (show False from hc).elim
 | dG cs => exact (show False from hc).elim
 | int k n => exact aT.mono (fun _ _ => rfl) hS hc
 | bool b => exact aT.mono (fun _ _ => rfl) hS hc
 | str s => exact aT.mono (fun _ _ => rfl) hS hc
 | aO => exact aT.mono (fun _ _ => rfl) hS hc
 | fM sz n f => exact aT.mono (fun _ _ => rfl) hS hc
 | fx cs => exact aT.mono (fun _ _ => rfl) hS hc
 | fn f => exact aT.mono (fun _ _ => rfl) hS hc
theorem iX {pv : PV} {v : Value} (bp : ∀ pv v, bR μ0 h0 S0 w pv v → bR μ1 h1 S1 w (pN σ pv) v) (hc : jm μ0 h0 S0 w pv v) : jm μ1 h1 S1 w (Br σ pv) v := by
 cases pv with
 | agg cs =>
  obtain ⟨vs, q1, q2, q3⟩ := hc
  refine ⟨vs, q1, by simpa using q2, fun j pv hj => ?_⟩
  rw [aet] at hj
  cases hx : cs[j]? with
  | none => rw [hx] at hj; cases hj
  | some c =>
   rw [hx] at hj
   injection hj with hj
   subst hj
   obtain ⟨u, r1, r2⟩ := q3 j c hx
   exact ⟨u, r1, bp _ _ r2⟩
 | jc => trivial
 | aY sz n e f F => exact bp (.aY sz n e f F) v hc
 | dG cs => exact (show False from hc).elim
 | own id gen off len => exact bp (.own id gen off len) v hc
 | aN id gen i off => exact bp (.aN id gen i off) v hc
 | kN id => exact bp (.kN id) v hc
 | om f bN => exact bp (.om f bN) v hc
 | int k n => exact bp (.int k n) v hc
 | bool b => exact bp (.bool b) v hc
 | str s => exact bp (.str s) v hc
 | aO => exact bp .aO v hc
 | fM sz n f => exact bp (.fM sz n f) v hc
 | fx cs => exact bp (.fx cs) v hc
 | fn f => exact bp (.fn f) v hc
theorem Pm {pv : PV} {v : Value} (bp : ∀ pv v, bR μ0 h0 S0 w pv v → bR μ1 h1 S1 w (pN σ pv) v) (hc : bG μ0 h0 S0 w pv v) : bG μ1 h1 S1 w (JC σ pv) v := by
 cases pv with
 | dG cs =>
  obtain ⟨vs, q1, q2, q3⟩ := hc
  refine ⟨vs, q1, by simpa using q2, fun j pv hj => ?_⟩
  rw [aet] at hj
  cases hx : cs[j]? with
  | none => rw [hx] at hj; cases hj
  | some c =>
   rw [hx] at hj
   injection hj with hj
   subst hj
   obtain ⟨u, r1, r2⟩ := q3 j c hx
   exact ⟨u, r1, iX bp r2⟩
 | agg cs => exact iX (pv := .agg cs) bp hc
 | jc => trivial
 | aY sz n e f F => exact iX (pv := .aY sz n e f F) bp hc
 | own id gen off len => exact iX (pv := .own id gen off len) bp hc
 | aN id gen i off => exact iX (pv := .aN id gen i off) bp hc
 | kN id => exact iX (pv := .kN id) bp hc
 | om f bN => exact iX (pv := .om f bN) bp hc
 | int k n => exact iX (pv := .int k n) bp hc
 | bool b => exact iX (pv := .bool b) bp hc
 | str s => exact iX (pv := .str s) bp hc
 | aO => exact iX (pv := .aO) bp hc
 | fM sz n f => exact iX (pv := .fM sz n f) bp hc
 | fx cs => exact iX (pv := .fx cs) bp hc
 | fn f => exact iX (pv := .fn f) bp hc
structure Xm (σ : Nat → Nat) (m : Nat) (h : List aj) : Prop where
 lt : ∀ j, j < m → σ j < h.length
 new : ∀ j, m ≤ j → σ j = h.length + (j - m)
 inj : ∀ i j, i < m → j < m → σ i = σ j → i = j
theorem Xm.adR {m : Nat} (hs : Xm σ m h) {i j : Nat} (he : σ i = σ j) : i = j := by
 rcases aeK i m with hi | hi
 ·rcases aeK j m with hj | hj
  ·exact hs.inj i j hi hj he
  ·have := hs.lt i hi; have := hs.new j hj; omega
 ·rcases aeK j m with hj | hj
  ·have := hs.lt j hj; have := hs.new i hi; omega
  ·have := hs.new i hi; have := hs.new j hj; omega
structure Tb (σ : Nat → Nat) (h h0 h' : List aj) : Prop where
 B1 : ∀ id, (∀ j, j < h0.length → σ j ≠ id) → h'[id]? = h[id]?
 P3 : ∀ j o, h0[j]? = some o → h'[σ j]? = some (tQ σ o)
 len : h.length ≤ h'.length
def BO (μ : Mu) (σ : Nat → Nat) (m : Nat) : Mu := fun j => if j < m then μ (σ j) else none
open Classical in
noncomputable def Pn (μ : Mu) (σ : Nat → Nat) (m : Nat) (μ0 : Mu) : Mu := fun id => if hx : ∃ j, j < m ∧ σ j = id then μ0 (Classical.choose hx) else μ id
theorem RG {m : Nat} (Po : ∀ i j, σ i = σ j → i = j) {j : Nat} (hj : j < m) : Pn μ σ m μ0 (σ j) = μ0 j := by
 have hx : ∃ i, i < m ∧ σ i = σ j := ⟨j, hj, rfl⟩
 unfold Pn
 rw [dif_pos hx, Po _ _ (Classical.choose_spec hx).2]
theorem Fs {m id : Nat} (hn : ∀ j, j < m → σ j ≠ id) : Pn μ σ m μ0 id = μ id := by
 unfold Pn
 rw [dif_neg]
 rintro ⟨j, h1, h2⟩
 exact hn j h1 h2
theorem fO (qc : Xm σ hc.length h) (jd : ∀ j o, hc[j]? = some o → h[σ j]? = some (tQ σ o)) {pv : PV} {v : Value} (hr : bR μ h S w (pN σ pv) v) : bR (BO μ σ hc.length) hc S w pv v := by
 have get : ∀ id, (∃ g sz n e f, hc[id]? = some (aj.row g sz n e f) ∧ h[σ id]? = some (tQ σ (aj.row g sz n e f)) ∧ BO μ σ hc.length id = μ (σ id)) ∨ (hc[id]? = some aj.dead ∧ h[σ id]? = some aj.dead) ∨ h[σ id]? = none := fun id => by
  cases ho : hc[id]? with
  | none =>
   refine .inr (.inr (aeC ?_))
   have P0 : hc.length ≤ id := List.getElem?_eq_none_iff.1 ho
   have := qc.new id P0
   omega
  | some o =>
   have bP := (so.1 ho).1
   cases o with
   | dead => exact .inr (.inl ⟨rfl, jd id _ ho⟩)
   | row g sz n e f => exact .inl ⟨g, sz, n, e, f, rfl, jd id _ ho, by unfold BO; rw [if_pos bP]⟩
 have ub : ∀ (id gen i off : Nat) (v : Value), bU μ h w (σ id) gen i off v → bU (BO μ σ hc.length) hc w id gen i off v := fun id gen i off v hr => by
  unfold bU at hr ⊢
  obtain ⟨q1, q2⟩ := hr
  refine ⟨q1, ?_⟩
  rcases get id with ⟨g, sz, n, e, f, r1, r2, r3⟩ | ⟨r1, r2⟩ | r1
  ·rw [r2] at q2
   rw [r1]
   show gen ≤ g ∧ _
   rw [r3]
   exact q2
  ·rw [r1]; trivial
  ·rw [r1] at q2; exact q2.elim
 cases pv with
 | own id gen off len =>
  have hr : bE μ h w (σ id) gen off len v := hr
  show bE _ hc w id gen off len v
  unfold bE at hr ⊢
  obtain ⟨q1, q2⟩ := hr
  refine ⟨q1, ?_⟩
  rcases get id with ⟨g, sz, n, e, f, r1, r2, r3⟩ | ⟨r1, r2⟩ | r1
  ·rw [r2] at q2
   rw [r1]
   show gen ≤ g ∧ _
   rw [r3]
   exact q2
  ·rw [r1]; trivial
  ·rw [r1] at q2; exact q2.elim
 | aN id gen i off => exact ub _ _ _ _ _ hr
 | om f bN => exact sS.mono (sS.aax (show n9 μ h w f (sj σ bN) v from hr)) (fun id g u hu => ub _ _ _ _ _ hu)
 | kN id =>
  have hr : fX μ h w (σ id) v := hr
  show fX _ hc w id v
  unfold fX at hr ⊢
  obtain ⟨q1, q2⟩ := hr
  refine ⟨q1, ?_⟩
  rcases get id with ⟨g, sz, n, e, f, r1, r2, r3⟩ | ⟨r1, r2⟩ | r1
  ·rw [r2] at q2
   rw [r1]
   obtain ⟨b, base, x1, x2⟩ := q2
   exact ⟨b, base, r3.trans x1, x2⟩
  ·rw [r1]; trivial
  ·rw [r1] at q2; exact q2.elim
 | jc => exact hr
 | aY sz n e f F => exact hr
 | agg cs => exact (show False from hr).elim
 | dG cs => exact (show False from hr).elim
 | int k n => exact hr
 | bool b => exact hr
 | str s => exact hr
 | aO => exact hr
 | fM sz n f => exact hr
 | fx cs => exact hr
 | fn f => exact hr
theorem LX (qc : Xm σ hc.length h) (jd : ∀ j o, hc[j]? = some o → h[σ j]? = some (tQ σ o)) {pv : PV} {v : Value} (hr : jm μ h S w (Br σ pv) v) : jm (BO μ σ hc.length) hc S w pv v := by
 cases pv with
 | agg cs =>
  obtain ⟨vs, q1, q2, q3⟩ := hr
  refine ⟨vs, q1, by simpa using q2, fun j pv hj => ?_⟩
  obtain ⟨u, r1, r2⟩ := q3 j (pN σ pv) (by rw [aet, hj]; rfl)
  exact ⟨u, r1, fO qc jd r2⟩
 | jc => trivial
 | aY sz n e f F => exact fO (μ := μ) (S := S) (w := w) (pv := .aY sz n e f F) qc jd hr
 | dG cs => exact (show False from hr).elim
 | own id gen off len => exact fO (μ := μ) (S := S) (w := w) (pv := .own id gen off len) qc jd hr
 | aN id gen i off => exact fO (μ := μ) (S := S) (w := w) (pv := .aN id gen i off) qc jd hr
 | kN id => exact fO (μ := μ) (S := S) (w := w) (pv := .kN id) qc jd hr
 | om f bN => exact fO (μ := μ) (S := S) (w := w) (pv := .om f bN) qc jd hr
 | int k n => exact fO (μ := μ) (S := S) (w := w) (pv := .int k n) qc jd hr
 | bool b => exact fO (μ := μ) (S := S) (w := w) (pv := .bool b) qc jd hr
 | str s => exact fO (μ := μ) (S := S) (w := w) (pv := .str s) qc jd hr
 | aO => exact fO (μ := μ) (S := S) (w := w) (pv := .aO) qc jd hr
 | fM sz n f => exact fO (μ := μ) (S := S) (w := w) (pv := .fM sz n f) qc jd hr
 | fx cs => exact fO (μ := μ) (S := S) (w := w) (pv := .fx cs) qc jd hr
 | fn f => exact fO (μ := μ) (S := S) (w := w) (pv := .fn f) qc jd hr
theorem Pp {c : PV} {sz n : Nat} {e : TypeId} {f : Nat → List PV} {F : Nat → Prop} (hc : pN σ c = .aY sz n e f F) : c = .aY sz n e f F := by cases c <;> first | exact hc | cases hc
theorem RH {c : PV} (h : dK c = false) : dK (pN σ c) = false := by cases c <;> first | rfl | cases h
theorem ACall.P3 {f : FuncId} {args nS : List PV} {R : PV → List aj → Prop} (hA : ACall P f args hc R) (h : List aj) (qc : Xm σ hc.length h) (jd : ∀ j o, hc[j]? = some o → h[σ j]? = some (tQ σ o))
  (rp : nS = args.map (Br σ)) (nxt : List aj → List aj) (adS : ∀ h0, hc.length ≤ h0.length → Tb σ h h0 (nxt h0)) :
  ACall P f nS h (fun res h' => ∃ r0 h0, R r0 h0 ∧ res = JC σ r0 ∧ h' = nxt h0) := by
 refine ⟨hA.1, fun w vs μ S hH hM iQ ha => ?_⟩
 subst rp
 have Po : ∀ i j, σ i = σ j → i = j := fun i j => qc.adR
 have RI : ∀ b, B5 (BO μ σ hc.length) hc b → B5 μ h b := fun b ⟨j, g, sz, n, e, f, base, q1, q2⟩ => by
  have bP := (so.1 q1).1
  unfold BO at q2
  rw [if_pos bP] at q2
  exact ⟨σ j, g, sz, n, e, _, base, jd j _ q1, q2⟩
 have LY : ∀ j x y b, dL hc j x y b → dL h (σ j) x y b := fun j x y b ⟨g, sz, n, e, f, bV, n', e', f', F', q1, q2, q3, q4⟩ => ⟨g, sz, n, e, _, bV, n', e', f', F', jd j _ q1, q2, by
  show ((f x).map (pN σ))[y]? = _
  rw [aet, q3]; rfl, q4⟩
 have Pq : ∀ b, cz (BO μ σ hc.length) hc b → cz μ h b ∧ True := fun b hb => by
  rcases hb with hb | ⟨x, y, z, hb⟩
  ·exact ⟨.inl (RI b hb), trivial⟩
  ·exact ⟨.inr ⟨_, _, _, LY _ _ _ _ hb⟩, trivial⟩
 have hHc : cp (BO μ σ hc.length) hc S w := fun j g sz n e f hj => by
  have bP := (so.1 hj).1
  obtain ⟨q1, q2⟩ := hH (σ j) _ _ _ _ _ (jd j _ hj)
  refine ⟨fun i hi => by simpa using q1 i hi, ?_⟩
  have hm : BO μ σ hc.length j = μ (σ j) := by unfold BO; rw [if_pos bP]
  rw [hm]
  cases iH : μ (σ j) with
  | none => rw [iH] at q2; exact q2
  | some p =>
   obtain ⟨b, base⟩ := p
   rw [iH] at q2
   obtain ⟨o, r1, r2⟩ := q2
   refine ⟨o, r1, ?_⟩
   cases o with
   | cells cur e' z =>
    obtain ⟨x1, x2, x3, r3⟩ := r2
    refine ⟨x1, x2, x3, fun i k pv hi hk => ?_⟩
    obtain ⟨u, s1, s2⟩ := r3 i k (pN σ pv) hi (by rw [aet, hk]; rfl)
    refine ⟨u, s1, ?_⟩
    cases hx : dK pv with
    | false => exact (fO qc jd s2.c).k hx
    | true =>
     cases pv with
     | aY qy n2 e2 f2 F2 => exact s2
     | _ => cases hx
   | map es c =>
    obtain ⟨x1, r3⟩ := r2
    refine ⟨x1, fun i hi => ?_⟩
    obtain ⟨kp, vp, en, y1, y2, y3, y4⟩ := r3 i hi
    refine ⟨kp, vp, en, ?_, y2, y3, y4⟩
    have y1 : (f i).map (pN σ) = [kp, vp] := y1
    generalize f i = l at y1
    rcases l with _ | ⟨a, _ | ⟨b, _ | ⟨c3, l3⟩⟩⟩ <;> simp at y1
    obtain ⟨rfl, rfl⟩ := y1
    rw [Dy y2, Dy y3]
   | _ => exact r2.elim
 have hMc : sR (BO μ σ hc.length) hc S w := ⟨fun b hb => hM.apart b (Pq b hb).1, fun b hb => hM.lt b (Pq b hb).1, hM.slt, fun i j gi P1 ni ei fi gj pI nj ej fj b o o' hi hj p9 oH => by
  have hli := (so.1 hi).1
  have SU := (so.1 hj).1
  unfold BO at p9 oH
  rw [if_pos hli] at p9
  rw [if_pos SU] at oH
  exact Po _ _ (hM.inj _ _ _ _ _ _ _ _ _ _ _ _ _ _ _ (jd i _ hi) (jd j _ hj) p9 oH), hM.known, fun b hb x y z hx => hM.hv b (RI b hb) _ _ _ (LY _ _ _ _ hx), fun b x y z x' y' z' hx vD => by
  obtain ⟨e1, e2, e3⟩ := hM.hh b _ _ _ _ _ _ (LY _ _ _ _ hx) (LY _ _ _ _ vD)
  exact ⟨Po _ _ e1, e2, e3⟩⟩
 refine (hA.2 w vs _ S hHc hMc (by simpa using iQ) (fun j pv hj => ?_)).mono ?_
 ·obtain ⟨v, q1, q2⟩ := ha j (Br σ pv) (by rw [aet, hj]; rfl)
  exact ⟨v, q1, LX qc jd q2⟩
 ·rintro e w' ⟨v, r0, h0, μ0, S0, he, hR, hv, P2, Dx, hF⟩
  have hlen : hc.length ≤ h0.length := hF.len
  have LZ := adS h0 hlen
  obtain ⟨h', hh'⟩ : ∃ h', h' = nxt h0 := ⟨_, rfl⟩
  rw [← hh'] at LZ
  have hmA : ∀ j, j < h0.length → Pn μ σ h0.length μ0 (σ j) = μ0 j := fun j hj => RG Po hj
  have inv : ∀ id o, h'[id]? = some o → (∃ j o0, σ j = id ∧ h0[j]? = some o0 ∧ o = tQ σ o0 ∧ Pn μ σ h0.length μ0 id = μ0 j) ∨ ((∀ j, j < h0.length → σ j ≠ id) ∧ h[id]? = some o ∧ Pn μ σ h0.length μ0 id = μ id) := fun id o hid => by
   by_cases hx : ∃ j, j < h0.length ∧ σ j = id
   ·obtain ⟨j, hj, rfl⟩ := hx
    have := LZ.P3 j _ (As hj)
    rw [this] at hid
    injection hid with hid
    exact .inl ⟨j, _, rfl, As hj, hid.symm, hmA j hj⟩
   ·have hn : ∀ j, j < h0.length → σ j ≠ id := fun j hj he => hx ⟨j, hj, he⟩
    rw [LZ.B1 id hn] at hid
    exact .inr ⟨hn, hid, Fs hn⟩
  have apart : ∀ id g sz n e f b base, (∀ j, j < h0.length → σ j ≠ id) → h[id]? = some (aj.row g sz n e f) → μ id = some (b, base) → ¬ cz (BO μ σ hc.length) hc b := fun id g sz n e f b base hn hid hm Bj => by
   rcases Bj with ⟨j, gj, pI, nj, ej, fj, bj, q1, q2⟩ | ⟨x, y, z, hx⟩
   rotate_left
   ·exact hM.hv b ⟨id, g, sz, n, e, f, base, hid, hm⟩ _ _ _ (LY _ _ _ _ hx)
   have bP := (so.1 q1).1
   unfold BO at q2
   rw [if_pos bP] at q2
   exact hn j agi (hM.inj _ _ _ _ _ _ _ _ _ _ _ _ _ _ _ (jd j _ q1) hid q2 hm)
  have BP : ∀ id x y b, (∀ j, j < h0.length → σ j ≠ id) → dL h id x y b → ¬ cz (BO μ σ hc.length) hc b := fun id x y b hn hx Bj => by
   rcases Bj with Bj | ⟨j, x', y', vD⟩
   ·exact hM.hv b (RI b Bj) _ _ _ hx
   ·obtain ⟨e1, _, _⟩ := hM.hh b _ _ _ _ _ _ (LY _ _ _ _ vD) hx
    obtain ⟨_, _, _, _, _, _, _, _, _, _, q1, _⟩ := vD
    have := (so.1 q1).1
    exact hn j agi e1
  have Tc : ∀ b, B5 (Pn μ σ h0.length μ0) h' b → B5 μ0 h0 b ∨ ∃ id g sz n e f base, (∀ j, j < h0.length → σ j ≠ id) ∧ h[id]? = some (aj.row g sz n e f) ∧ μ id = some (b, base) := fun b ⟨id, g, sz, n, e, f, base, q1, q2⟩ => by
   rcases inv id _ q1 with ⟨j, o0, rfl, r1, r2, r3⟩ | ⟨r1, r2, r3⟩
   ·rw [r3] at q2
    cases o0 with
    | dead => cases r2
    | row g0 Rv n0 e0 f0 => exact .inl ⟨j, g0, Rv, n0, e0, f0, base, r1, q2⟩
   ·rw [r3] at q2
    exact .inr ⟨id, g, sz, n, e, f, base, r1, r2, q2⟩
  have DA : ∀ id x y b, dL h' id x y b → (∃ j, σ j = id ∧ dL h0 j x y b) ∨ ((∀ j, j < h0.length → σ j ≠ id) ∧ dL h id x y b) := fun id x y b ⟨g, sz, n, e, f, bV, n', e', f', F', q1, q2, q3, q4⟩ => by
   rcases inv id _ q1 with ⟨j, o0, rfl, r1, r2, r3⟩ | ⟨r1, r2, r3⟩
   ·cases o0 with
    | dead => cases r2
    | row g0 Rv n0 e0 f0 =>
     injection r2 with e1 e2 e3 e4 e5
     subst e1 e2 e3 e4 e5
     rw [aet] at q3
     cases hx : (f0 x)[y]? with
     | none => rw [hx] at q3; cases q3
     | some c =>
      rw [hx] at q3
      injection q3 with q3
      rw [Pp q3] at hx
      exact .inl ⟨j, rfl, _, _, _, _, _, _, _, _, _, _, r1, q2, hx, q4⟩
   ·exact .inr ⟨r1, _, _, _, _, _, _, _, _, _, _, r2, q2, q3, q4⟩
  have mL : ∀ b, cz (Pn μ σ h0.length μ0) h' b → cz μ0 h0 b ∨ (cz μ h b ∧ ¬ cz (BO μ σ hc.length) hc b) := fun b hb => by
   rcases hb with hb | ⟨x, y, z, hb⟩
   ·rcases Tc b hb with q | ⟨id, g, sz, n, e, f, base, q1, q2, q3⟩
    ·exact .inl (.inl q)
    ·exact .inr ⟨.inl ⟨id, g, sz, n, e, f, base, q2, q3⟩, apart id _ _ _ _ _ _ _ q1 q2 q3⟩
   ·rcases DA x y z b hb with ⟨j, _, q⟩ | ⟨q1, q2⟩
    ·exact .inl (.inr ⟨_, _, _, q⟩)
    ·exact .inr ⟨.inr ⟨_, _, _, q2⟩, BP _ _ _ _ q1 q2⟩
  have mixed : ∀ b, cz μ0 h0 b → cz μ h b → ¬ cz (BO μ σ hc.length) hc b → False := fun b q1 q2 q3 => by
   rcases hF.own b q1 with r | r
   ·exact q3 r
   ·have := hM.lt b q2; omega
  have lr : Fr μ h S w (Pn μ σ h0.length μ0) h' S0 w' := by
   refine ⟨LZ.len, fun b hb wq => hF.blocks b hb (fun ho => wq (Pq b ho).1), hF.sub, fun b hb => ?_, fun b hb => ?_, hF.size, hF.os, hF.tape, hF.output, fun id g sz n e f hid => ?_, fun id hid => ?_, fun b k hb ig => ?_, fun id g sz n e f b base hid hm nX => ?_, fun b id x y hx nX => ?_⟩
   rotate_right
   ·by_cases ho : cz (BO μ σ hc.length) hc b
    ·rcases ho with ho | ⟨j, x', y', ho⟩
     ·exact absurd hx (hM.hv b (RI b ho) _ _ _)
     ·exact hF.u5 b j x' y' ho nX
    ·obtain ⟨es, c, q⟩ := nX
     exact ⟨es, c, (hF.blocks b (aed.1 q).1 ho).trans q⟩
   ·rcases hF.new b hb with q | q | q
    ·exact .inl q
    ·exact .inr (.inl (Pq b q).1)
    ·exact .inr (.inr q)
   ·rcases mL b hb with q | ⟨q, _⟩
    ·rcases hF.own b q with r | r
     ·exact .inl (Pq b r).1
     ·exact .inr r
    ·exact .inl q
   ·by_cases hx : ∃ j, j < hc.length ∧ σ j = id
    ·obtain ⟨j, hj, rfl⟩ := hx
     have sd : j < h0.length := by omega
     have LD := As hj
     have Bj := jd j _ LD
     rw [Bj] at hid
     cases hoc : hc[j] with
     | dead => rw [hoc] at hid; cases hid
     | row gc szc nc ec fc =>
      rw [hoc] at hid LD
      injection hid with hid
      injection hid with e1 e2 e3 e4 e5
      subst e1 e2 e3 e4
      have hg := hF.Bl j _ _ _ _ _ LD
      have hs := LZ.P3 j _ (As sd)
      rw [As sd] at hg
      rw [hs]
      cases ho0 : h0[j] with
      | dead => trivial
      | row g' bV n' e' f' =>
       rw [ho0] at hg
       refine ⟨hg.1, fun P0 => ?_⟩
       obtain ⟨a1, a2, a3, a4⟩ := hg.2 P0
       refine ⟨?_, a2, a3, a4⟩
       rw [hmA j sd, a1]
       unfold BO
       rw [if_pos hj]
    ·have hn : ∀ j, j < h0.length → σ j ≠ id := fun j hj he => by
      rcases aeK j hc.length with h1 | h1
      ·exact hx ⟨j, h1, he⟩
      ·have := qc.new j h1
       have := (so.1 hid).1
       omega
     rw [LZ.B1 id hn, hid]
     exact ⟨aeb _, fun _ => ⟨Fs hn, rfl, rfl, rfl⟩⟩
   ·by_cases hx : ∃ j, j < hc.length ∧ σ j = id
    ·obtain ⟨j, hj, rfl⟩ := hx
     have sd : j < h0.length := by omega
     have LD := As hj
     have Bj := jd j _ LD
     rw [Bj] at hid
     cases hoc : hc[j] with
     | row gc szc nc ec fc => rw [hoc] at hid; cases hid
     | dead =>
      rw [hoc] at LD
      have hd := hF.dead j LD
      exact LZ.P3 j _ hd
    ·have hn : ∀ j, j < h0.length → σ j ≠ id := fun j hj he => by
      rcases aeK j hc.length with h1 | h1
      ·exact hx ⟨j, h1, he⟩
      ·have := qc.new j h1
       have := (so.1 hid).1
       omega
     rw [LZ.B1 id hn, hid]
   ·by_cases ho : cz (BO μ σ hc.length) hc b
    ·exact hF.bN b k ho ig
    ·exact kA.of_same (hF.blocks b ig.lt ho) ig
   ·by_cases hx : ∃ j, j < hc.length ∧ σ j = id
    ·obtain ⟨j, hj, rfl⟩ := hx
     have sd : j < h0.length := by omega
     have LD := As hj
     have Bj := jd j _ LD
     rw [Bj] at hid
     cases hoc : hc[j] with
     | dead => rw [hoc] at hid; cases hid
     | row gc szc nc ec fc =>
      rw [hoc] at hid LD
      have hmc : BO μ σ hc.length j = some (b, base) := by unfold BO; rw [if_pos hj]; exact hm
      obtain ⟨r1, r2⟩ := hF.maps j _ _ _ _ _ b base LD hmc nX
      refine ⟨r1, ?_⟩
      rcases r2 with r2 | ⟨⟨g', bV, n', e', f', r2⟩, r3⟩
      ·exact .inl (LZ.P3 j _ r2)
      ·exact .inr ⟨⟨_, _, _, _, _, LZ.P3 j _ r2⟩, (hmA j sd).trans r3⟩
    ·have hn : ∀ j, j < h0.length → σ j ≠ id := fun j hj he => by
      rcases aeK j hc.length with h1 | h1
      ·exact hx ⟨j, h1, he⟩
      ·have := qc.new j h1
       have := (so.1 hid).1
       omega
     obtain ⟨es, c, q⟩ := nX
     exact ⟨⟨es, c, (hF.blocks b (aed.1 q).1 (apart id _ _ _ _ _ _ _ hn hid hm)).trans q⟩, .inr ⟨⟨_, _, _, _, _, (LZ.B1 id hn).trans hid⟩, (Fs hn).trans hm⟩⟩
  have bp : ∀ pv v, bR μ0 h0 S0 w' pv v → bR (Pn μ σ h0.length μ0) h' S0 w' (pN σ pv) v := fun pv v hcr => by
   refine Pl (fun j => ?_) (fun _ hb => hb) hcr
   cases ho : h0[j]? with
   | none => exact .inr (.inr rfl)
   | some o =>
    have bP := (so.1 ho).1
    cases o with
    | dead => exact .inr (.inl ⟨rfl, LZ.P3 j _ ho⟩)
    | row g sz n e f => exact .inl ⟨g, sz, n, e, f, rfl, ⟨_, LZ.P3 j _ ho⟩, hmA j bP⟩
  refine ⟨v, _, h', _, S0, he, ⟨r0, h0, hR, rfl, ?_⟩, Pm bp hv, fun id g sz n e f hid => ?_, ⟨fun b hb hs => ?_, fun b hb => ?_, Dx.slt, ?_, Dx.known, fun b hb id x y hx => ?_, fun b id x y id' x' y' hx vD => ?_⟩, lr⟩
  rotate_right 2
  ·rcases Tc b hb with q | ⟨k, g, sz, n, e, f, base, q1, q2, q3⟩
   ·rcases DA id x y b hx with ⟨j, _, r⟩ | ⟨r1, r2⟩
    ·exact Dx.hv b q _ _ _ r
    ·exact mixed b (.inl q) (.inr ⟨_, _, _, r2⟩) (BP _ _ _ _ r1 r2)
   ·rcases DA id x y b hx with ⟨j, _, r⟩ | ⟨r1, r2⟩
    ·exact mixed b (.inr ⟨_, _, _, r⟩) (.inl ⟨k, g, sz, n, e, f, base, q2, q3⟩) (apart k _ _ _ _ _ _ _ q1 q2 q3)
    ·exact hM.hv b ⟨k, g, sz, n, e, f, base, q2, q3⟩ _ _ _ r2
  ·rcases DA id x y b hx with ⟨j, rfl, r⟩ | ⟨r1, r2⟩
   ·rcases DA id' x' y' b vD with ⟨j', rfl, t⟩ | ⟨t1, t2⟩
    ·obtain ⟨e1, e2, e3⟩ := Dx.hh b _ _ _ _ _ _ r t
     exact ⟨by rw [e1], e2, e3⟩
    ·exact (mixed b (.inr ⟨_, _, _, r⟩) (.inr ⟨_, _, _, t2⟩) (BP _ _ _ _ t1 t2)).elim
   ·rcases DA id' x' y' b vD with ⟨j', rfl, t⟩ | ⟨t1, t2⟩
    ·exact (mixed b (.inr ⟨_, _, _, t⟩) (.inr ⟨_, _, _, r2⟩) (BP _ _ _ _ r1 r2)).elim
    ·exact hM.hh b _ _ _ _ _ _ r2 t2
  ·exact hh'
  ·rcases inv id _ hid with ⟨j, o0, rfl, r1, r2, r3⟩ | ⟨r1, r2, r3⟩
   ·cases o0 with
    | dead => cases r2
    | row g0 Rv n0 e0 f0 =>
     injection r2 with e1 e2 e3 e4 e5
     subst e1 e2 e3 e4 e5
     obtain ⟨q1, q2⟩ := P2 j _ _ _ _ _ r1
     refine ⟨fun i hi => by simpa using q1 i hi, ?_⟩
     rw [r3]
     cases iH : μ0 j with
     | none => rw [iH] at q2; exact q2
     | some p =>
      obtain ⟨b, base⟩ := p
      rw [iH] at q2
      obtain ⟨o, s1, s2⟩ := q2
      refine ⟨o, s1, ?_⟩
      cases o with
      | cells cur e' z =>
       obtain ⟨x1, x2, x3, s3⟩ := s2
       refine ⟨x1, x2, x3, fun i k pv hi hk => ?_⟩
       rw [aet] at hk
       cases hx : (f0 i)[k]? with
       | none => rw [hx] at hk; cases hk
       | some c =>
        rw [hx] at hk
        injection hk with hk
        subst hk
        obtain ⟨u, t1, t2⟩ := s3 i k c hi hx
        refine ⟨u, t1, ?_⟩
        cases hxo : dK c with
        | false => exact (bp _ _ t2.c).k (RH hxo)
        | true =>
         cases c with
         | aY qy n2 e2 f2 F2 => exact t2
         | _ => cases hxo
      | map es c =>
       obtain ⟨x1, s3⟩ := s2
       refine ⟨x1, fun i hi => ?_⟩
       obtain ⟨kp, vp, en, y1, y2, y3, y4⟩ := s3 i hi
       exact ⟨kp, vp, en, by show (f0 i).map (pN σ) = _; rw [y1]; show [pN σ kp, pN σ vp] = _; rw [Dz y2, Dz y3], y2, y3, y4⟩
      | _ => exact s2.elim
   ·obtain ⟨q1, q2⟩ := hH id _ _ _ _ _ r2
    refine ⟨q1, ?_⟩
    rw [r3]
    cases iH : μ id with
    | none => rw [iH] at q2; exact q2
    | some p =>
     obtain ⟨b, base⟩ := p
     rw [iH] at q2
     obtain ⟨o, s1, s2⟩ := q2
     have bP : b < w.heap.size := (aed.1 s1).1
     exact ⟨o, (hF.blocks b bP (apart id _ _ _ _ _ _ _ r1 r2 iH)).trans s1, s2.mono (fun i y pv v hi hy hr => hr.fr lr hM (fun bV n' e' f' F' he b2 jr => by
      have hx : dL h id i y b2 := ⟨_, _, _, _, _, _, _, _, _, _, r2, hi, he ▸ hy, jr⟩
      exact hF.blocks b2 (hM.lt b2 (.inr ⟨_, _, _, hx⟩)) (BP _ _ _ _ r1 hx)))⟩
  ·rcases mL b hb with q | ⟨q1, q2⟩
   ·exact Dx.apart b q hs
   ·rcases hF.new b hs with r | r | r
    ·exact hM.apart b q1 r
    ·exact q2 r
    ·have := hM.lt b q1; omega
  ·rcases mL b hb with q | ⟨q1, _⟩
   ·exact Dx.lt b q
   ·exact aez (hM.lt b q1) hF.size
  ·intro i j gi P1 ni ei fi gj pI nj ej fj b o o' hi hj p9 oH
   have Td : ∀ (i' : Nat) (o1 : aj) (g sz n : Nat) (e : TypeId) (f : Nat → List PV) (oo : Nat) (id g2 qy n2 : Nat) (e2 : TypeId) (f2 : Nat → List PV) (oo2 : Nat), h0[i']? = some (aj.row g sz n e f) → μ0 i' = some (b, oo) → (∀ j, j < h0.length → σ j ≠ id) → h[id]? = some (aj.row g2 qy n2 e2 f2) → μ id = some (b, oo2) → False :=
    fun i' o1 g sz n e f oo id g2 qy n2 e2 f2 oo2 a1 a2 a3 a4 a5 => by
     exact mixed b (.inl ⟨i', g, sz, n, e, f, oo, a1, a2⟩) (.inl ⟨id, g2, qy, n2, e2, f2, oo2, a4, a5⟩) (apart id _ _ _ _ _ _ _ a3 a4 a5)
   rcases inv i _ hi with ⟨i0, oi, rfl, r1, r2, r3⟩ | ⟨r1, r2, r3⟩
   ·rw [r3] at p9
    cases oi with
    | dead => cases r2
    | row g0 Rv n0 e0 f0 =>
     rcases inv j _ hj with ⟨j0, oj, rfl, t1, t2, t3⟩ | ⟨t1, t2, t3⟩
     ·rw [t3] at oH
      cases oj with
      | dead => cases t2
      | row g2 qy n2 e2 f2 => rw [Dx.inj i0 j0 _ _ _ _ _ _ _ _ _ _ _ _ _ r1 t1 p9 oH]
     ·rw [t3] at oH
      exact (Td i0 aj.dead _ _ _ _ _ _ _ _ _ _ _ _ _ r1 p9 t1 t2 oH).elim
   ·rw [r3] at p9
    rcases inv j _ hj with ⟨j0, oj, rfl, t1, t2, t3⟩ | ⟨t1, t2, t3⟩
    ·rw [t3] at oH
     cases oj with
     | dead => cases t2
     | row g2 qy n2 e2 f2 => exact (Td j0 aj.dead _ _ _ _ _ _ _ _ _ _ _ _ _ t1 oH r1 r2 p9).elim
    ·rw [t3] at oH
     exact hM.inj i j _ _ _ _ _ _ _ _ _ _ _ _ _ r2 t2 p9 oH
def ij (is : List Nat) (N : Nat) (j : Nat) : Nat := match is[j]? with
 | some id => id
 | none => N + (j - is.length)
def fQ (h : List aj) : List Nat → List aj → List aj
 | id :: r, o :: l => fQ (h.set id o) r l
 | _, _ => h
def mU (h : List aj) (is : List Nat) (h0 : List aj) : List aj :=
 fQ h is (h0.map (tQ (ij is h.length))) ++ (h0.drop is.length).map (tQ (ij is h.length))
theorem gy : ∀ (is : List Nat) (l h : List aj), (fQ h is l).length = h.length
 | [], [], _ => rfl
 | [], _ :: _, _ => rfl
 | _ :: _, [], _ => rfl
 | id :: r, o :: l, h => by simp only [fQ]; rw [gy r l]; simp
theorem vR : ∀ (is : List Nat) (l h : List aj) (id : Nat), id ∉ is → (fQ h is l)[id]? = h[id]?
 | [], [], _, _, _ => rfl
 | [], _ :: _, _, _, _ => rfl
 | _ :: _, [], _, _, _ => rfl
 | i :: r, o :: l, h, id, hn => by
  simp only [aej, not_or] at hn
  simp only [fQ]
  rw [vR r l _ id hn.2, aeJ (Ne.symm hn.1)]
theorem BQ : ∀ (is : List Nat) (l h : List aj) (j id : Nat) (o : aj), is.Nodup → is[j]? = some id → l[j]? = some o → id < h.length → (fQ h is l)[id]? = some o
 | [], _, _, _, _, _, _, h1, _, _ => by simp at h1
 | _ :: _, [], _, _, _, _, _, _, h2, _ => by simp at h2
 | i :: r, o' :: l, h, j, id, o, hd, h1, h2, bP => by
  simp only [List.nodup_cons] at hd
  simp only [fQ]
  cases j with
  | zero =>
   simp at h1 h2
   subst h1 h2
   rw [vR r l _ _ hd.1]
   simp [bP]
  | succ j =>
   exact BQ r l _ j id o hd.2 agG agw (by simpa using bP)
theorem Wv (is : List Nat) (h : List aj) (hd : is.Nodup) (bP : ∀ id ∈ is, id < h.length) : Xm (ij is h.length) is.length h where
 lt j hj := by
  unfold ij
  rw [As hj]
  exact bP _ (aef hj)
 new j hj := by
  unfold ij
  rw [aeC hj]
 inj i j hi hj he := by
  unfold ij at he
  rw [As hi, As hj] at he
  exact (List.getElem_inj hd).1 he
theorem Pr (is : List Nat) (h h0 : List aj) (hd : is.Nodup) (bP : ∀ id ∈ is, id < h.length) (hle : is.length ≤ h0.length) : Tb (ij is h.length) h h0 (mU h is h0) where
 len := by unfold mU; rw [An, gy]; omega
 B1 id hn := by
  unfold mU
  rcases aeK id h.length with h1 | h1
  ·rw [aeA (by rw [gy]; exact h1), vR]
   intro hm
   obtain ⟨j, hj, rfl⟩ := aeP.1 hm
   refine hn j agi ?_
   unfold ij
   rw [As hj]
  ·rw [aeu (by rw [gy]; exact h1), gy, aeC h1, aeC]
   simp only [List.length_map, List.length_drop]
   rcases aeK (id - h.length) (h0.length - is.length) with h2 | h2
   ·refine (hn (is.length + (id - h.length)) agi ?_).elim
    unfold ij
    rw [aeC agi]
    simp
    omega
   ·exact h2
 P3 j o hj := by
  have sd := (so.1 hj).1
  unfold mU
  rcases aeK j is.length with h1 | h1
  ·have hs : ij is h.length j = is[j] := by unfold ij; rw [As h1]
   have hl := bP _ (aef h1)
   rw [hs, aeA (by rw [gy]; exact hl)]
   exact BQ is _ h j _ _ hd (As h1) (by rw [aet, hj]; rfl) hl
  ·have hs : ij is h.length j = h.length + (j - is.length) := by unfold ij; rw [aeC h1]
   rw [hs, aeu (by rw [gy]; omega), gy, aet, afg]
   rw [show is.length + (h.length + (j - is.length) - h.length) = j from by omega, hj]
   rfl
theorem ACall.over {f : FuncId} {args nS : List PV} {R : PV → List aj → Prop} (hA : ACall P f args hc R) (is : List Nat) (h : List aj) (hl : hc.length = is.length) (hd : is.Nodup) (bP : ∀ id ∈ is, id < h.length)
  (jd : ∀ j o, hc[j]? = some o → h[ij is h.length j]? = some (tQ (ij is h.length) o)) (rp : nS = args.map (Br (ij is h.length))) :
  ACall P f nS h (fun res h' => ∃ r0 h0, R r0 h0 ∧ res = JC (ij is h.length) r0 ∧ h' = mU h is h0) :=
 hA.P3 h (by rw [hl]; exact Wv is h hd bP) jd rp (mU h is) (fun h0 hle => Pr is h h0 hd bP agi)
end
end Go.Am
