/- Texts of the proof, joined and shortened. -/
import Derived.Test.YtalfppmpmnlnlaaGreatDoorPk2
set_option linter.unusedVariables false
set_option linter.unusedSimpArgs false
namespace Go.Am
open Go Go.RowKit
section
variable {P : Program} {T : pr} {μ : Mu} {h η : List ak} {k : List Nat} {S : Nat → Prop} {w : World} {C : Start} {env : Env} {a : Act}
theorem nv.agree (hs : nv C μ h S env a w) {w' : World} (ha : cP w w') : nv C μ h S env a w' :=
 ⟨⟨hs.core.heap.agree ha hs.core.ok, hs.core.ok.agree ha⟩, hs.fr.trans (Fr.xQ ha), fun t => (hs.tmps t).fr (Fr.xQ ha) hs.core.ok, hs.size, hs.XG, hs.defers⟩
theorem Cn {pv : PV} {v : Value} {w w' : World} {μ μ' : Mu} {h h' : List ak} {S S' : Nat → Prop} (hs : xP pv = true) (hv : bN μ h S w pv v) : bN μ' h' S' w' pv v ∧ ∀ v' : Value, bN μ' h' S' w' pv v' → v' = v := by
 cases pv with
 | int k n => obtain rfl := hv.lC; exact ⟨aV.int _ _, fun v' h' => h'.lC⟩
 | bool b => obtain rfl := hv.mZ; exact ⟨aV.bool _, fun v' h' => h'.mZ⟩
 | str s => obtain rfl := hv.nd; exact ⟨aV.str _, fun v' h' => h'.nd⟩
 | aq => obtain rfl := hv.rJ; exact ⟨aV.aq, fun v' h' => h'.rJ⟩
 | _ => cases hs
def D6 : PV → Value
 | .int k n => .int k n
 | .bool b => .bool b
 | .str s => .string ⟨⟨s⟩⟩
 | .aq => .slice none 0 0
 | _ => undef
theorem rm {pv : PV} {w : World} {μ : Mu} {h : List ak} {S : Nat → Prop} (hs : xP pv = true) : bN μ h S w pv (D6 pv) := by
 cases pv with
 | int k n => exact aV.int _ _
 | bool b => exact aV.bool _
 | str s => exact aV.str _
 | aq => exact aV.aq
 | _ => cases hs
theorem JF {P : Program} {K : Env → Prop} (all : List Oper) (o : Oper) (rest : List Oper) (env : Env) (h : List ak) {j : Nat} {want : Bool} (hg : o.guard = some (j, want)) :
  wL P T all h K (o :: rest) env = (match (all[j]?).bind (·.dst) with
     | some t => match env t with
      | .bool b => fv b
        (match (generalizing := false) want with
         | true => Wy P T o.op (qo env t (.bool true)) h (fun v => wL P T all h K rest (dQ (qo env t (.bool true)) o.dst v))
         | false => wL P T all h K rest (dQ (qo env t (.bool true)) o.dst (.fu [])))
        (match (generalizing := false) want with
         | true => wL P T all h K rest (dQ (qo env t (.bool false)) o.dst (.fu []))
         | false => Wy P T o.op (qo env t (.bool false)) h (fun v => wL P T all h K rest (dQ (qo env t (.bool false)) o.dst v)))
      | .fu [] => wL P T all h K rest (dQ env o.dst (.fu []))
      | _ => False
     | none => False) := by
 obtain ⟨dst, op, ty, pos, after, guard⟩ := o
 have hg : guard = some (j, want) := hg
 rw [hg]
 rfl
theorem sW (hT : dJ P T) (ops : Array Oper) {K : Env → Prop} {Q : Act → Prop} (h : List ak) (w : World) (μ : Mu) (S : Nat → Prop) (hK : ∀ env a, K env → nv C μ h S env a w → Q a) :
  ∀ (l : List Oper) (env : Env) (a : Act), wL P T ops.toList h K l env → (∀ o ∈ l, nD C.nt o = true) → nv C μ h S env a w → wpQuiet P ops (cP w) Q l a
 | [], env, a, hp, _, hs => hK env a hp hs
 | o :: rest, env, a, hp, hd, hs => by
  have RD : ∀ t, o.dst = some t → t < C.nt := fun t ht => by
   have := hd o ahy
   unfold nD at this
   rw [ht] at this
   simpa using this
  have XH : ∀ o ∈ rest, nD C.nt o = true := fun o ho => hd o (by simp [ho])
  have run : ∀ env', nv C μ h S env' a w → Wy P T o.op env' h (fun v => wL P T ops.toList h K rest (dQ env' o.dst v)) → o.quiet P a (cP w) (wpQuiet P ops (cP w) Q rest) := fun env' kI vK => by
   obtain ⟨dst, op, ty, pos, after, guard⟩ := o
   have still : cz T op env' h (fun v => wL P T ops.toList h K rest (dQ env' dst v)) → Oper.quiet P ⟨dst, op, ty, pos, after, guard⟩ a (cP w) (wpQuiet P ops (cP w) Q rest) := fun vK => by
    obtain ⟨v, val, RE, hv, hr⟩ := nI (P := P) (env := env') hT kI.core.heap kI.tmps (dst := dst) (ty := ty) (pos := pos) (after := after) (guard := guard) vK
    refine ⟨val, fun w' XI => ?_, sW hT ops h w μ S hK rest _ _ RE XH (kI.put Fr.refl kI.core hv RD)⟩
    unfold Oper.quietAt
    rw [hr w' XI]
    exact ⟨rfl, rfl⟩
   cases op with
   | call c =>
    obtain ⟨Zt, args, ts⟩ := c
    cases Zt with
    | value fo =>
     have I7 := bY kI.tmps fo
     change Pg P (ev env' fo) (args.toList.map (ev env')) h _ at vK
     unfold Pg at vK
     split at vK
     ·rename_i f hef
      rw [hef] at I7
      replace vK := bF vK
      obtain ⟨Ta, jn, v, hz, adz, ⟨⟨fn, c, Ri, HC, xO⟩, hA⟩, RE⟩ := vK
      obtain ⟨SJ, RE⟩ := bF RE
      refine ⟨D6 v, fun w' XI => ?_, sW hT ops h w μ S hK rest _ _ RE XH (kI.put Fr.refl kI.core (rm SJ) RD)⟩
      have Wz := kI.agree XI
      obtain ⟨hl, hzz⟩ := wE.get _ _ hz
      have tt := (xW (k := []) (η := []) (m := 0) Wz.core trivial rfl).1
      have HD := hA w' (args.map a.eval) (mm μ h []) (D5 μ h [] S) tt.heap tt.ok (by simpa using hl.symm) (fun j fR hj => by
       have H7 : j < args.toList.length := by have := (An.1 hj).1; simpa [hl] using this
       have hx : (args.toList.map (ev env'))[j]? = some (ev env' args.toList[j]) := by rw [aem, Is H7]; rfl
       refine ⟨a.eval args.toList[j], by rw [aft]; have := Is H7; simp only [aes] at this; rw [this]; rfl, ?_⟩
       have hv := (uD (k := []) (η := []) (m := 0) Wz.core trivial (hzz j _ fR hx hj)).2.2 _ (bY Wz.tmps args.toList[j])
       have rZ := (aeb.1 adz) fR (aef hj)
       cases fR with
       | fu ps => cases rZ
       | _ => exact hv)
      have lV : (execOp a.eval ⟨dst, .call ⟨.value fo, args, ts⟩, ty, pos, after, guard⟩).run P w' = .ok (.enter f (args.map a.eval)) w' := by
       simp only [execOp, resolve, I7.Ol, Deferred.ofValue, invoke, callFunc, Sem.run_bind, Sem.run_pure, Result.andThen_ok, Array.append_empty, afu]
       have Ce : ¬ fn.name = "runtime.NumGoroutine" := by simpa using xO
       simp [program, Sem.run, Result.andThen, Ri, Ce, HC]
      unfold Oper.quietAt
      rw [lV]
      refine ⟨rfl, HD.mono fun e On ⟨u, res, h', μ', S', he, hR, hv, hH, hM, hF⟩ => ?_⟩
      subst hR
      have hu := (Cn (w' := w) (μ' := μ) (h' := h) (S' := S) SJ (rm (w := On) (μ := μ') (h := h') (S := S') SJ)).1
      have Kt := (Cn (w' := On) (μ' := μ') (h' := h') (S' := S') SJ (rm (w := w) (μ := μ) (h := h) (S := S) SJ)).2 u hv
      refine ⟨by rw [he, Kt], XI.trans ⟨fun b hb => hF.blocks b hb kx, hF.size, hF.os, hF.tape, hF.output⟩⟩
     ·exact vK.elim
    | _ => exact still vK
   | _ => exact still vK
  have skip : ∀ env', nv C μ h S env' a w → wL P T ops.toList h K rest (dQ env' o.dst (.fu [])) → wpQuiet P ops (cP w) Q rest (a.put o.dst undef) := fun env' kI vK =>
   sW hT ops h w μ S hK rest _ _ vK XH (kI.put Fr.refl kI.core wH RD)
  unfold wpQuiet
  cases hg : o.guard with
  | none =>
   have hp : Wy P T o.op env h (fun v => wL P T ops.toList h K rest (dQ env o.dst v)) := by
    exact agm
   rw [if_pos (by simp [Region.wanted, hg])]
   exact run env hs hp
  | some p =>
   obtain ⟨j, want⟩ := p
   rw [JF ops.toList o rest env h hg] at hp
   split at hp
   ·rename_i t hj
    split at hp
    ·rename_i b he
     have hy := wG hs hj he
     obtain ⟨ht, hf⟩ := lh hp
     have kI := hs.Cj he
     cases b with
     | true =>
      have hp := ht rfl
      cases want with
      | true => rw [if_pos ahG]; exact run _ kI hp
      | false => rw [if_neg ahG]; exact skip _ kI hp
     | false =>
      have hp := hf rfl
      cases want with
      | true => rw [if_neg ahG]; exact skip _ kI hp
      | false => rw [if_pos ahG]; exact run _ kI hp
    ·rename_i he
     rw [if_neg aii]
     exact skip _ hs hp
    ·exact agR
   ·exact agR
theorem zc : ∀ (σ : List (Nat × PV)) (t : Nat), KG h η k env σ → (∃ v, Fz h η k (env t) v ∧ zd nR σ t = v) ∨ zd nR σ t = .iZ
 | [], t, _ => .inr rfl
 | (t', v) :: r, t, hh => by
  obtain ⟨h1, h2⟩ := hh
  by_cases htt : t = t'
  ·subst htt
   exact .inl ⟨v, h1, by simp [zd, Ci]⟩
  ·simp only [zd]
   rw [FM _ _ htt]
   exact zc r t h2
theorem ze (hs : nv C μ h S env a w) {σ : List (Nat × PV)} (ht : uz C.h.length env h σ η) : ∃ μ' S', nv C μ' η S' (zd nR σ) a w := by
 obtain ⟨k, hk, hm, he, hh⟩ := ht
 obtain ⟨tt, _, _⟩ := xW hs.core hh hk
 refine ⟨mm μ h k, D5 μ h k S, tt, Tb hs.core hs.fr hh hk hm, fun t => ?_, hs.size, fun t bO => ?_, hs.defers⟩
 ·rcases zc σ t he with ⟨v, h1, h2⟩ | h1
  ·rw [h2]; exact (uD hs.core hh h1).2.2 _ (hs.tmps t)
  ·rw [h1]; trivial
 ·rcases zc σ t he with ⟨v, h1, h2⟩ | h1
  ·rw [hs.XG t bO] at h1
   rw [h2]
   cases h1
   rfl
  ·exact h1
theorem zb.mono {Q Q' : XQ} {e : Exit} {w : World} (hq : ∀ env h, Q e env h → Q' e env h) (hl : zb C Q e a w) : zb C Q' e a w := by
 obtain ⟨μ, h, S, env, hs, hQ⟩ := hl
 exact ⟨μ, h, S, env, hs, hq env h hQ⟩
theorem mb : ∀ (l : List Nat) (x : Nat), kL l x = true → x ∈ l
 | [], _, h => by cases h
 | a :: r, x, h => by
  unfold kL at h
  split at h
  ·rename_i hb
   have := adW hb
   simp [this]
  ·exact aei _ (mb r x h)
theorem HI : ∀ (l : List Nat) (F : Nat → Prop), WA l F → ∀ i ∈ l, F i
 | [], _, _, i, hi => by simp at hi
 | [j], F, h, i, hi => by simp at hi; subst hi; exact h
 | j :: k :: r, F, h, i, hi => by
  obtain ⟨h1, h2⟩ := h
  simp only [aed] at hi
  rcases hi with rfl | hi
  ·exact h1
  ·exact HI (k :: r) F h2 i (by simpa using hi)
theorem lu (hT : dJ P T) (ops : Array Oper) {K : Env → List ak → Prop} {Q : Exit → Act → World → Prop} {next : Act → World → Prop} (hK : ∀ env h a w μ S, K env h → nv C μ h S env a w → next a w) (i : Nat) (o : Oper) (ho : ops[i]? = some o)
  (hd : nD C.nt o = true) (env : Env) (h : List ak) (a : Act) (w : World) (μ : Mu) (S : Nat → Prop) (hp : rl P T ops.toList K [o] env h) (hs : nv C μ h S env a w) : wpOp P ops Q i next a w := by
 have RD : ∀ t, o.dst = some t → t < C.nt := fun t ht => by
  unfold nD at hd
  rw [ht] at hd
  simpa using hd
 have run : ∀ env', nv C μ h S env' a w → pop P T o.op env' h (fun v h' => K (dQ env' o.dst v) h') → o.wp P a w next Q := fun env' kI vK => by
  obtain ⟨dst, op, ty, pos, after, guard⟩ := o
  refine D3 (env := env') hT kI.core kI.tmps vK _ _ fun v val h' μ' S' w' RE hv hc hf => ?_
  exact hK _ h' _ w' μ' S' RE (kI.put hf hc hv RD)
 have skip : ∀ env', nv C μ h S env' a w → K (dQ env' o.dst (.fu [])) h → next (a.put o.dst undef) w := fun env' kI vK =>
  hK _ h _ w μ S vK (kI.put Fr.refl kI.core wH RD)
 unfold wpOp
 simp only [ho]
 cases hg : o.guard with
 | none =>
  have hp : pop P T o.op env h (fun v h' => K (dQ env o.dst v) h') := by
   exact agm
  rw [if_pos (by simp [Region.wanted, hg])]
  exact .inl (run env hs hp)
 | some p =>
  obtain ⟨j, want⟩ := p
  rw [wI ops.toList o [] env h hg] at hp
  split at hp
  ·rename_i t hj
   split at hp
   ·rename_i b he
    have hy := wG hs hj he
    obtain ⟨ht, hf⟩ := lh hp
    have kI := hs.Cj he
    cases b with
    | true =>
     have hp := ht rfl
     cases want with
     | true => rw [if_pos ahG]; exact .inl (run _ kI hp)
     | false => rw [if_neg ahG]; exact skip _ kI hp
    | false =>
     have hp := hf rfl
     cases want with
     | true => rw [if_neg ahG]; exact skip _ kI hp
     | false => rw [if_pos ahG]; exact .inl (run _ kI hp)
   ·rename_i he
    rw [if_neg aii]
    exact skip _ hs hp
   ·exact agR
  ·exact agR
theorem Co (hT : dJ P T) (ops : Array Oper) {K : Env → List ak → Prop} {Q : Exit → Act → World → Prop} (hK : ∀ env h a w μ S, K env h → nv C μ h S env a w → Q .normal a w) (hd : ∀ o ∈ ops.toList, nD C.nt o = true) :
  ∀ (f : Nat) (listed : Array Bool) (done : List Nat) (env : Env) (h : List ak) (a : Act) (w : World) (μ : Mu) (S : Nat → Prop), Ph ops f listed done = true → WB P T ops.toList K f done env h → nv C μ h S env a w →
   wpAny P .any ops Q f listed a w
 | 0, listed, done, env, h, a, w, μ, S, hc, hp, hs => by
  refine ⟨?_, hK env h a w μ S hp hs⟩
  simpa [Ph] using hc
 | f + 1, listed, done, env, h, a, w, μ, S, hc, hp, hs => by
  simp only [Ph, so, aeb] at hc
  obtain ⟨rZ, hc⟩ := hc
  refine ⟨fun h0 => by rw [h0] at rZ; simp at rZ, fun i hi => ?_⟩
  obtain ⟨NL, UO⟩ := hc i hi
  have Pj := HI _ _ hp i (mb _ _ NL)
  split at Pj
  ·rename_i o ho
   have Mx : ops[i]? = some o := by simpa using ho
   exact lu hT ops (fun env' h' a' w' μ' S' hk kI => Co hT ops hK hd f _ (i :: done) env' h' a' w' μ' S' UO hk kI) i o Mx (hd o (by have := (An.1 ho); obtain ⟨h1, h2⟩ := this; rw [← h2]; exact aee h1)) env h a w μ S Pj hs
  ·exact Pj.elim
theorem Pk {op : Op} {env : Env} {h : List ak} {G : PV → List ak → Prop} (hs : cz T op env h (fun v => G v h)) : pop P T op env h G := by
 cases op with
 | store t a x => exact hs.elim
 | box t x => exact hs.elim
 | alloc t => exact hs.elim
 | makeSlice t l c => exact hs.elim
 | buildSlice t len parts => exact hs.elim
 | convert s d x =>
  simp only [pop]
  split
  ·rename_i e1 e2 e3
   simp only [cz, e1, e2, e3] at hs
  ·exact hs
 | binOp bo t x y ty =>
  simp only [pop]
  split
  ·rename_i e1 e2 e3
   simp only [cz, Lt, e1, e2, e3] at hs
  ·exact hs
 | makeMap t r => exact hs.elim
 | mapUpdate t m k x => exact hs.elim
 | call c =>
  obtain ⟨callee, args, ts⟩ := c
  cases callee with
  | value fo => exact hs.elim
  | builtin b => cases b with
   | append => exact hs.elim
   | copy => exact hs.elim
   | _ => (simp only [pop]; exact hs)
  | _ => (simp only [pop]; exact hs)
 | _ => (simp only [pop]; exact hs)
theorem Cp {st : Bool} {op : Op} {env : Env} {h : List ak} {G : PV → List ak → Prop} (hs : Dr P T st op env h G) : pop P T op env h G := by
 cases st with
 | true => exact Pk hs
 | false => exact hs
theorem sX {all : List Oper} {st : Bool} {o : Oper} {K : Env → List ak → Prop} {env : Env} {h : List ak} (hp : fs P T all st o (fun v h' => K (dQ env o.dst v) h') env h) : rl P T all K [o] env h := by
 unfold fs at hp
 cases hg : o.guard with
 | none =>
  rw [hg] at hp
  obtain ⟨dst, op, ty, pos, after, guard⟩ := o
  have hg : guard = none := hg
  subst hg
  exact Cp hp
 | some q =>
  obtain ⟨j, want⟩ := q
  rw [hg] at hp
  rw [wI all o [] env h hg]
  simp only at hp ⊢
  generalize (all[j]?).bind (·.dst) = d at hp ⊢
  cases d with
  | none => exact hp.elim
  | some t =>
   simp only at hp ⊢
   generalize hv : env t = v at hp ⊢
   cases v with
   | bool b =>
    simp only at hp ⊢
    cases b with
    | true =>
     refine .mk (fun _ => ?_) (fun hc => by cases hc)
     rw [AZ hv]
     cases want with
     | true => exact Cp hp
     | false => exact hp
    | false =>
     refine .mk (fun hc => by cases hc) (fun _ => ?_)
     rw [AZ hv]
     cases want with
     | true => exact hp
     | false => exact Cp hp
   | fu l => cases l with
    | nil => exact hp
    | cons a r => exact hp.elim
   | _ => exact hp.elim
inductive FN (all : List Oper) : Nat → Nat → Prop
 | base {x i : Nat} (h : x ∈ bS all i) : FN all x i
 | step {x d i : Nat} (h : d ∈ bS all i) (hx : FN all x d) : FN all x i
theorem FO : ∀ (l acc : List Nat) (x : Nat), x ∈ ddL l acc → x ∈ l ∨ x ∈ acc
 | [], acc, x, h => .inr h
 | a :: r, acc, x, h => by
  unfold ddL at h
  cases hi : kL acc a with
  | true => rw [hi] at h; exact (FO r acc x h).imp (aei _) id
  | false =>
   rw [hi] at h
   rcases FO r (a :: acc) x h with h | h
   ·exact .inl (aei _ h)
   ·simp only [aed] at h
    rcases h with rfl | h
    ·exact .inl ahy
    ·exact .inr h
theorem vi : ∀ (l : List Nat) (x : Nat), x ∈ l → kL l x = true
 | a :: r, x, h => by
  unfold kL
  cases hb : Nat.beq a x with
  | true => rfl
  | false =>
   simp only [aed] at h
   rcases h with rfl | h
   ·rw [aeY] at hb; cases hb
   ·exact vi r x h
theorem vj {all : List Oper} : ∀ (ord : List (Nat × Bool)) (t : List (Nat × List Nat)), (∀ i x, kL (dw t i) x = true → FN all x i) → ∀ i x, kL (dw (vD all ord t) i) x = true → FN all x i
 | [], t, hg => hg
 | (j, b) :: r, t, hg => vj r _ (fun i x hx => by
  unfold dw at hx
  cases hb : Nat.beq j i with
  | false => rw [hb] at hx; exact hg i x hx
  | true =>
   rw [hb] at hx
   have := adW hb
   subst this
   rcases FO _ _ _ (mb _ _ hx) with hm | hm
   ·rw [aea, List.mem_flatMap] at hm
    rcases hm with hm | ⟨d, hd, hm⟩
    ·exact .base hm
    ·exact .step hd (hg d x (vi _ _ hm))
   ·simp at hm)
theorem ja {ops : Array Oper} {t : List (Nat × List Nat)} {p : Nat × Bool} : ∀ (l1 l2 : List (Nat × Bool)), cj ops t (l1 ++ p :: l2) = true → (∀ o, o ∈ l1 → eZ ops t o p = true) ∧ cj ops t (l1 ++ l2) = true
 | [], l2, h => by
  simp only [aeQ, cj, so] at h
  exact ⟨fun o ho => by simp at ho, h.2⟩
 | a :: l1, l2, h => by
  simp only [afc, cj, so, aeb] at h ⊢
  obtain ⟨h1, h2⟩ := ja l1 l2 h.2
  refine ⟨fun o ho => ?_, fun q hq => h.1 q (by simp only [aea, aed] at hq ⊢; exact hq.imp id .inr), h2⟩
  simp only [aed] at ho
  rcases ho with rfl | ho
  ·exact h.1 p ahy
  ·exact h1 o ho
theorem nM {ops : Array Oper} {i : Nat} {o : Oper} (ho : ops[i]? = some o) {d : Nat} : d ∈ bS ops.toList i ↔ ∃ e, e ∈ o.after ∧ Region.binds .any e = true ∧ e.on = d := by
 unfold bS
 have : ops.toList[i]? = some o := by simpa using ho
 rw [this]
 unfold Pl
 rw [List.mem_filterMap]
 constructor
 ·rintro ⟨e, he, hx⟩
  cases hb : Region.binds .any e with
  | true => rw [hb] at hx; exact ⟨e, by simpa using he, hb, by simpa using hx⟩
  | false => rw [hb] at hx; cases hx
 ·rintro ⟨e, he, hb, hx⟩
  exact ⟨e, by simpa using he, by rw [hb]; simp [hx]⟩
theorem xX (hT : dJ P T) (ops : Array Oper) {t : List (Nat × List Nat)} (jb : ∀ i x, kL (dw t i) x = true → FN ops.toList x i) (mH : ∀ i, i < ops.size → ∀ d, d ∈ bS ops.toList i → d < ops.size ∧ d ≠ i)
  {K : Env → List ak → Prop} {Q : Exit → Act → World → Prop} (hK : ∀ env h a w μ S, K env h → nv C μ h S env a w → Q .normal a w) (hd : ∀ o ∈ ops.toList, nD C.nt o = true) :
  ∀ (n : Nat) (l : List (Nat × Bool)) (bP : List (Nat × List Nat)) (listed : Array Bool) (env : Env) (h : List ak) (a : Act) (w : World) (μ : Mu) (S : Nat → Prop), l.length = n → cj ops t l = true → (∀ p, p ∈ l → p.1 < ops.size) → listed.size = ops.size →
   (∀ j, j < ops.size → (listed.getD j true = false ↔ j ∈ l.map (·.1))) → (∀ j, j < ops.size → j ∉ l.map (·.1) → ∀ d, d ∈ bS ops.toList j → d ∉ l.map (·.1)) → Ds P T ops.toList t K l bP env h → nv C μ h S env a w → wpAny P .any ops Q n listed a w
 | 0, l, bP, listed, env, h, a, w, μ, S, hn, _, _, jl, yj, _, hf, hs => by
  obtain rfl : l = [] := List.length_eq_zero_iff.1 hn
  refine ⟨?_, hK env h a w μ S hf hs⟩
  cases hr : Region.ready .any ops listed with
  | nil => rfl
  | cons j r =>
   have hj : j ∈ Region.ready .any ops listed := by rw [hr]; simp
   rw [mem_ready] at hj
   obtain ⟨h1, o, ho, _⟩ := hj
   have := (yj j (adZ.1 ho).1).1 h1
   simp at this
 | n + 1, l, bP, listed, env, h, a, w, μ, S, hn, WC, bO, jl, yj, D7, hf, hs => by
  have Td : ∀ d, d < ops.size → (listed.getD d false = true ↔ d ∉ l.map (·.1)) := fun d Pe => by
   have := yj d Pe
   have e : listed.getD d false = listed.getD d true := by simp [Array.getD, jl, Pe]
   rw [e, ← this]
   cases listed.getD d true <;> simp
  refine ⟨fun h0 => ?_, fun i hi => ?_⟩
  ·exfalso
   cases l with
   | nil => simp at hn
   | cons p r =>
    have hp := bO p ahy
    have ho := aeq hp
    have : p.1 ∈ Region.ready .any ops listed := by
     rw [mem_ready]
     refine ⟨(yj p.1 hp).2 ahy, _, ho, fun e he hb => ?_⟩
     have hm : e.on ∈ bS ops.toList p.1 := (nM ho).2 ⟨e, he, hb, rfl⟩
     obtain ⟨d1, d2⟩ := mH p.1 hp _ hm
     rw [Td _ d1]
     intro hc
     simp only [aec, aed, aej] at hc
     rcases hc with hc | ⟨q, hq, hc⟩
     ·exact d2 hc
     ·simp only [cj, so, aeb] at WC
      have := WC.1 q hq
      unfold eZ at this
      simp only [so, aex] at this
      rw [hc, vi _ _ hm] at this
      exact absurd this.1.2 ahy
    rw [h0] at this
    simp at this
  ·rw [mem_ready] at hi
   obtain ⟨h1, oi, wX, HJ⟩ := hi
   have vb := (adZ.1 wX).1
   have AG : ∀ d, d ∈ bS ops.toList i → d ∉ l.map (·.1) := fun d vV => by
    exact agD
   have wM : ∀ x, FN ops.toList x i → x ∉ l.map (·.1) := by
    have gen : ∀ x j, FN ops.toList x j → j < ops.size → (∀ d, d ∈ bS ops.toList j → d ∉ l.map (·.1)) → x ∉ l.map (·.1) := fun x j ha => by
     induction ha with
     | base hx => exact fun _ hj => hj _ hx
     | step vV _ ih => exact fun hj hjd => ih (mH _ hj _ vV).1 (D7 _ (mH _ hj _ vV).1 (hjd _ vV))
    exact fun x ha => gen x i ha vb AG
   obtain ⟨p, hp, Te⟩ := aej.1 ((yj i vb).1 h1)
   obtain ⟨l1, l2, rfl⟩ := afI hp
   obtain ⟨i', st⟩ := p
   simp only at Te
   subst Te
   obtain ⟨Tf, adA⟩ := ja l1 l2 WC
   have AH : ops.toList[i']? = some oi := by simpa using wX
   have LR := xY (P := P) (T := T) (ops := ops) (t := t) (K := K) AH l1 l2 bP env h (fun q hq => by
    have hk := Tf q hq
    unfold eZ at hk
    simp only [so, aeD, aex] at hk
    have hqm : q.1 ∈ (l1 ++ (i', st) :: l2).map (·.1) := aej.2 ⟨q, by simp [hq], rfl⟩
    have hna : kL (dw t i') q.1 = false := by
     cases hb : kL (dw t i') q.1 with
     | false => rfl
     | true => exact absurd hqm (wM _ (jb _ _ hb))
    rcases hk.2 with vB | ⟨hk1, LS⟩
    ·exact absurd hqm (AG _ (mb _ _ vB))
    ·refine ⟨?_, hna, hk1⟩
     rcases LS with LS | LS
     ·exact LS
     ·rw [hna] at LS; cases LS) hf
   have rZ : ∀ q, q ∈ l1 ++ l2 → q.1 ≠ i' := fun q hq => by
    rw [aea] at hq
    rcases hq with hq | hq
    ·have hk := Tf q hq
     unfold eZ at hk
     simp only [so, aex] at hk
     intro he
     have this : Nat.beq q.1 i' = false := hk.1.1
     rw [he, aeY] at this
     cases this
    ·have : ∀ (l1 : List (Nat × Bool)), cj ops t (l1 ++ (i', st) :: l2) = true → eZ ops t (i', st) q = true := fun l1 => by
      induction l1 with
      | nil => intro hh; simp only [aeQ, cj, so, aeb] at hh; exact hh.1 q hq
      | cons b r ih => intro hh; simp only [afc, cj, so] at hh; exact ih hh.2
     have hk := this l1 WC
     unfold eZ at hk
     simp only [so, aex] at hk
     intro he
     have := hk.1.1
     rw [he] at this
     rw [aeY] at this
     cases this
   have FP : ∀ j, j ∈ (l1 ++ (i', st) :: l2).map (·.1) ↔ j = i' ∨ j ∈ (l1 ++ l2).map (·.1) := fun j => by
    simp only [aeB, aec, aea, aed]
    constructor
    ·rintro (h | h | h)
     ·exact ahj
     ·exact .inl h
     ·exact .inr (.inr h)
    ·rintro (h | h | h)
     ·exact ahj
     ·exact .inl h
     ·exact .inr (.inr h)
   have JG : i' ∉ (l1 ++ l2).map (·.1) := fun hm => by
    obtain ⟨q, hq, he⟩ := aej.1 hm
    exact rZ q hq he
   have rQ : rl P T ops.toList (fun env' h' => Ds P T ops.toList t K (l1 ++ l2) bP env' h') [oi] env h := sX (dP (fun v h' hk => hk.2.2) LR)
   refine lu hT ops (fun env' h' a' w' μ' S' hk kI => xX hT ops jb mH hK hd n (l1 ++ l2) bP _ env' h' a' w' μ' S' (by simp at hn ⊢; omega) adA (fun q hq => bO q (by rw [aea] at hq ⊢; exact hq.imp id (aei _))) aie (fun j hj => ?_) (fun j hj hjn dd D1 => ?_) hk kI) i' oi wX (hd oi (by have := (An.1 AH); obtain ⟨h1, h2⟩ := this; rw [← h2]; exact aee h1)) env h a w μ S rQ hs
   ·by_cases jm : j = i'
    ·subst jm
     constructor
     ·intro hc
      have : (listed.setIfInBounds j true).getD j true = true := by simp [Array.getD, jl, hj]
      rw [this] at hc; cases hc
     ·intro hc; exact absurd hc JG
    ·have e : (listed.setIfInBounds i' true).getD j true = listed.getD j true := getD_set_ne true (aff jm)
     rw [e, yj j hj, FP j]
     constructor
     ·rintro (h | h)
      ·exact absurd h jm
      ·exact h
     ·exact .inr
   ·by_cases jm : j = i'
    ·subst jm
     exact fun hm => AG dd D1 ((FP dd).2 (.inr hm))
    ·exact fun hm => D7 j hj (fun hc => by rcases (FP j).1 hc with hc | hc; exact jm hc; exact hjn hc) dd D1 ((FP dd).2 (.inr hm))
theorem rR {ops : Array Oper} {listed : Array Bool} {i : Nat} {L L' : List Nat} (FP : ∀ j, j ∈ L ↔ j = i ∨ j ∈ L') (JG : i ∉ L') (jl : listed.size = ops.size) (yj : ∀ j, j < ops.size → (listed.getD j true = false ↔ j ∈ L))
  (D7 : ∀ j, j < ops.size → j ∉ L → ∀ d, d ∈ bS ops.toList j → d ∉ L) (AG : ∀ d, d ∈ bS ops.toList i → d ∉ L) :
  (∀ j, j < ops.size → ((listed.setIfInBounds i true).getD j true = false ↔ j ∈ L')) ∧ ∀ j, j < ops.size → j ∉ L' → ∀ d, d ∈ bS ops.toList j → d ∉ L' := by
 refine ⟨fun j hj => ?_, fun j hj hjn d D1 hm => ?_⟩
 ·by_cases jm : j = i
  ·subst jm
   constructor
   ·intro hc
    have : (listed.setIfInBounds j true).getD j true = true := by simp [Array.getD, jl, hj]
    rw [this] at hc; cases hc
   ·intro hc; exact absurd hc JG
  ·have e : (listed.setIfInBounds i true).getD j true = listed.getD j true := getD_set_ne true (aff jm)
   rw [e, yj j hj, FP j]
   exact ⟨fun h => h.resolve_left jm, .inr⟩
 ·by_cases jm : j = i
  ·subst jm
   exact AG d D1 ((FP d).2 (.inr hm))
  ·exact D7 j hj (fun hc => by rcases (FP j).1 hc with hc | hc; exact jm hc; exact hjn hc) d D1 ((FP d).2 (.inr hm))
theorem ky {ops : Array Oper} {t : List (Nat × List Nat)} {p q : Nat × Bool} (h : eZ ops t p q = true) : p.1 ≠ q.1 := by
 unfold eZ at h
 simp only [so, aex] at h
 intro he
 have := h.1.1
 rw [he, aeY] at this
 cases this
theorem Cq {ops : Array Oper} {t : List (Nat × List Nat)} {p q : Nat × Bool} (h : eZ ops t p q = true) : q.1 ∉ bS ops.toList p.1 := by
 unfold eZ at h
 simp only [so, aex] at h
 intro hm
 have := h.1.2
 rw [vi _ _ hm] at this
 cases this
theorem jJ {ops : Array Oper} {t : List (Nat × List Nat)} {p q : Nat × Bool} : ∀ (l1 l2 : List (Nat × Bool)), cj ops t (l1 ++ p :: l2) = true → q ∈ l2 → eZ ops t p q = true
 | [], l2, h, hq => by simp only [aeQ, cj, so, aeb] at h; exact h.1 q hq
 | _ :: l1, l2, h, hq => by simp only [afc, cj, so] at h; exact jJ l1 l2 h.2 hq
theorem rS {ops : Array Oper} {t : List (Nat × List Nat)} (jb : ∀ i x, kL (dw t i) x = true → FN ops.toList x i) {L : List Nat} {q : Nat × Bool} {i : Nat} {st : Bool} (hk : eZ ops t q (i, st) = true) (hqL : q.1 ∈ L) (AG : ∀ d, d ∈ bS ops.toList i → d ∉ L) (wM : ∀ x, FN ops.toList x i → x ∉ L) :
  q.2 = true ∧ kL (dw t i) q.1 = false ∧ qO ops q.1 i = true := by
 unfold eZ at hk
 simp only [so, aeD, aex] at hk
 have hna : kL (dw t i) q.1 = false := by
  cases hb : kL (dw t i) q.1 with
  | false => rfl
  | true => exact absurd hqL (wM _ (jb _ _ hb))
 rcases hk.2 with vB | ⟨hk1, LS⟩
 ·exact absurd hqL (AG _ (mb _ _ vB))
 ·refine ⟨?_, hna, hk1⟩
  rcases LS with LS | LS
  ·exact LS
  ·rw [hna] at LS; cases LS
theorem vW (hT : dJ P T) (ops : Array Oper) {t : List (Nat × List Nat)} (jb : ∀ i x, kL (dw t i) x = true → FN ops.toList x i) (mH : ∀ i, i < ops.size → ∀ d, d ∈ bS ops.toList i → d < ops.size ∧ d ≠ i) {x y : Nat} {ra rb : List (Nat × Bool)}
  (hlen : rb.length = ra.length) (RG : ∀ j, j ∈ ((x, false) :: ra).map (·.1) ↔ j ∈ ((y, false) :: rb).map (·.1)) (WD : ∀ d, d ∈ bS ops.toList x → d ∉ ((x, false) :: ra).map (·.1)) (Tg : x ∉ ra.map (·.1)) (Th : y ∉ rb.map (·.1))
  (FQ : ∀ p, p ∈ ra → p.1 = y ∨ kL (dw t p.1) x = true ∨ kL (dw t p.1) y = true)
  {K : Env → List ak → Prop} {Q : Exit → Act → World → Prop} (hK : ∀ env h a w μ S, K env h → nv C μ h S env a w → Q .normal a w) (hd : ∀ o ∈ ops.toList, nD C.nt o = true)
  (n : Nat) (l : List (Nat × Bool)) (bP : List (Nat × List Nat)) (listed : Array Bool) (env : Env) (h : List ak) (a : Act) (w : World) (μ : Mu) (S : Nat → Prop) (hn : l.length = n) (Pm : cj ops t (l ++ ra) = true) (Ti : cj ops t (l ++ rb) = true)
  (Gh : ∀ p, p ∈ l → eZ ops t p (x, false) = true ∧ eZ ops t p (y, false) = true ∧ ∀ d, d ∈ bS ops.toList p.1 → d ∉ ((x, false) :: ra).map (·.1))
  (bO : ∀ p, p ∈ l ++ (x, false) :: ra → p.1 < ops.size) (jl : listed.size = ops.size)
  (yj : ∀ j, j < ops.size → (listed.getD j true = false ↔ j ∈ (l ++ (x, false) :: ra).map (·.1))) (D7 : ∀ j, j < ops.size → j ∉ (l ++ (x, false) :: ra).map (·.1) → ∀ d, d ∈ bS ops.toList j → d ∉ (l ++ (x, false) :: ra).map (·.1))
  (hf : zf P T ops.toList t ((x, false) :: ra) ((y, false) :: rb) K l bP env h) (hs : nv C μ h S env a w)
  (ih : ∀ m, m + 1 = n → ∀ (l : List (Nat × Bool)) (bP : List (Nat × List Nat)) (listed : Array Bool) (env : Env) (h : List ak) (a : Act) (w : World) (μ : Mu) (S : Nat → Prop), l.length = m → cj ops t (l ++ ra) = true → cj ops t (l ++ rb) = true →
   (∀ p, p ∈ l → eZ ops t p (x, false) = true ∧ eZ ops t p (y, false) = true ∧ ∀ d, d ∈ bS ops.toList p.1 → d ∉ ((x, false) :: ra).map (·.1)) →
   (∀ p, p ∈ l ++ (x, false) :: ra → p.1 < ops.size) → listed.size = ops.size →
   (∀ j, j < ops.size → (listed.getD j true = false ↔ j ∈ (l ++ (x, false) :: ra).map (·.1))) → (∀ j, j < ops.size → j ∉ (l ++ (x, false) :: ra).map (·.1) → ∀ d, d ∈ bS ops.toList j → d ∉ (l ++ (x, false) :: ra).map (·.1)) →
   zf P T ops.toList t ((x, false) :: ra) ((y, false) :: rb) K l bP env h → nv C μ h S env a w → wpAny P .any ops Q (m + (ra.length + 1)) listed a w) : wpAny P .any ops Q (n + (ra.length + 1)) listed a w := by
 have Td : ∀ d, d < ops.size → (listed.getD d false = true ↔ d ∉ (l ++ (x, false) :: ra).map (·.1)) := fun d Pe => by
  have := yj d Pe
  have e : listed.getD d false = listed.getD d true := by simp [Array.getD, jl, Pe]
  rw [e, ← this]
  cases listed.getD d true <;> simp
 have hx := bO (x, false) ahy
 refine ⟨fun h0 => ?_, fun i hi => ?_⟩
 ·exfalso
  have first : ∃ p, p < ops.size ∧ p ∈ (l ++ (x, false) :: ra).map (·.1) ∧ ∀ d, d ∈ bS ops.toList p → d ∉ (l ++ (x, false) :: ra).map (·.1) := by
   cases l with
   | nil => exact ⟨x, hx, by simp, fun d D1 hm => WD d D1 (by simpa using hm)⟩
   | cons p r =>
    have hp := bO p ahy
    refine ⟨p.1, hp, by simp, fun d D1 hm => ?_⟩
    rw [aeB, aea] at hm
    rcases hm with hm | hm
    ·simp only [aec, aed, aej] at hm
     rcases hm with rfl | ⟨q, hq, rfl⟩
     ·exact (mH _ hp _ D1).2 rfl
     ·exact Cq (jJ [] _ Pm (afa _ hq)) D1
    ·exact (Gh p ahy).2.2 d D1 hm
  obtain ⟨p, hp, hpm, hpd⟩ := first
  have ho := aeq hp
  have : p ∈ Region.ready .any ops listed := by
   rw [mem_ready]
   refine ⟨(yj p hp).2 hpm, _, ho, fun e he hb => ?_⟩
   have hm : e.on ∈ bS ops.toList p := (nM ho).2 ⟨e, he, hb, rfl⟩
   rw [Td _ (mH p hp _ hm).1]
   exact hpd _ hm
  rw [h0] at this
  simp at this
 ·rw [mem_ready] at hi
  obtain ⟨h1, oi, wX, HJ⟩ := hi
  have vb := (adZ.1 wX).1
  have AH : ops.toList[i]? = some oi := by simpa using wX
  have JH : nD C.nt oi = true := hd oi aio
  have AG : ∀ d, d ∈ bS ops.toList i → d ∉ (l ++ (x, false) :: ra).map (·.1) := fun d vV => by
   exact agD
  have wM : ∀ z, FN ops.toList z i → z ∉ (l ++ (x, false) :: ra).map (·.1) := by
   have gen : ∀ z j, FN ops.toList z j → j < ops.size → (∀ d, d ∈ bS ops.toList j → d ∉ (l ++ (x, false) :: ra).map (·.1)) → z ∉ (l ++ (x, false) :: ra).map (·.1) := fun z j ha => by
    induction ha with
    | base hx => exact fun _ hj => hj _ hx
    | step vV _ ih => exact fun hj hjd => ih (mH _ hj _ vV).1 (D7 _ (mH _ hj _ vV).1 (hjd _ vV))
   exact fun z ha => gen z i ha vb AG
  have hyA : y ∈ ((x, false) :: ra).map (·.1) := (RG y).2 ahy
  have FR := (yj i vb).1 h1
  rw [aeB, aea] at FR
  have split : i ∈ l.map (·.1) ∨ i = x ∨ i = y := by
   rcases FR with FR | FR
   ·exact .inl FR
   ·simp only [aec, aed, aej] at FR
    rcases FR with rfl | ⟨q, hq, rfl⟩
    ·exact .inr (.inl rfl)
    ·rcases FQ q hq with h2 | h2 | h2
     ·exact .inr (.inr h2)
     ·exact absurd (by simp : x ∈ (l ++ (x, false) :: ra).map (·.1)) (wM _ (jb _ _ h2))
     ·exact absurd (by rw [aeB, aea]; exact .inr hyA) (wM _ (jb _ _ h2))
  rcases split with FR | rfl | rfl
  ·-- one of those ahead
   obtain ⟨p, hp, Te⟩ := aej.1 FR
   obtain ⟨l1, l2, rfl⟩ := afI hp
   obtain ⟨i', st⟩ := p
   simp only at Te
   subst Te
   have e1 : l1 ++ (i', st) :: l2 ++ ra = l1 ++ (i', st) :: (l2 ++ ra) := by simp
   have e2 : l1 ++ (i', st) :: l2 ++ rb = l1 ++ (i', st) :: (l2 ++ rb) := by simp
   rw [e1] at Pm
   rw [e2] at Ti
   obtain ⟨Tf, adB⟩ := ja l1 _ Pm
   obtain ⟨_, adC⟩ := ja l1 _ Ti
   have LR := D8 (P := P) (T := T) (ops := ops) (t := t) (A0 := (x, false) :: ra) (B0 := (y, false) :: rb) (K := K) AH l1 l2 bP env h (fun q hq => rS jb (Tf q hq) (by rw [aeB, aea]; exact .inl (aej.2 ⟨q, afa _ hq, rfl⟩)) AG wM) hf
   have JG : i' ∉ ((l1 ++ l2) ++ (x, false) :: ra).map (·.1) := fun hm => by
    simp only [aeB, aec, aea, aed, aej] at hm
    rcases hm with (⟨q, hq, he⟩ | ⟨q, hq, he⟩) | he | ⟨q, hq, he⟩
    ·exact ky (Tf q hq) he
    ·exact ky (jJ l1 _ Pm (afa _ hq)) he.symm
    ·exact ky (Gh (i', st) ahy).1 he
    ·exact ky (jJ l1 _ Pm (List.mem_append_right _ hq)) he.symm
   obtain ⟨r1, r2⟩ := rR (L' := ((l1 ++ l2) ++ (x, false) :: ra).map (·.1)) (fun j => by
    simp only [aeB, aec, aea, aed]
    constructor
    ·rintro ((h | h | h) | h)
     ·exact .inr (.inl (.inl h))
     ·exact .inl h
     ·exact .inr (.inl (.inr h))
     ·exact .inr (.inr h)
    ·rintro (h | (h | h) | h)
     ·exact .inl (.inr (.inl h))
     ·exact .inl (.inl h)
     ·exact .inl (.inr (.inr h))
     ·exact .inr h) JG jl yj D7 AG
   have rQ : rl P T ops.toList (fun env' h' => zf P T ops.toList t ((x, false) :: ra) ((y, false) :: rb) K (l1 ++ l2) bP env' h') [oi] env h := sX (dP (fun v h' hk => hk.2.2) LR)
   obtain ⟨m, rfl⟩ : ∃ m, n = m + 1 := ⟨n - 1, by simp at hn; omega⟩
   rw [show (m + 1).add ra.length = m + (ra.length + 1) from (by show m + 1 + ra.length = _; omega)]
   refine lu hT ops (fun env' h' a' w' μ' S' hk kI => ih m rfl (l1 ++ l2) bP _ env' h' a' w' μ' S' (by simp at hn ⊢; omega) (by rw [aeG]; exact adB) (by rw [aeG]; exact adC) (fun q hq => Gh q (by
    simp only [aea, aed] at hq ⊢
    exact hq.imp id .inr)) (fun q hq => bO q (by
    simp only [aea, aed] at hq ⊢
    rcases hq with (h | h) | h
    ·exact .inl (.inl h)
    ·exact .inl (.inr (.inr h))
    ·exact .inr h)) aie r1 r2 hk kI) i' oi wX JH env h a w μ S rQ hs
  ·-- the first of the two
   have AW : Ds P T ops.toList t K (l ++ (i, false) :: ra) bP env h := JI l bP env h hf
   have LR := xY (P := P) (T := T) (ops := ops) (t := t) (K := K) AH l ra bP env h (fun q hq => rS jb (Gh q hq).1 ain AG wM) AW
   have JG : i ∉ (l ++ ra).map (·.1) := fun hm => by
    simp only [aeB, aea] at hm
    rcases hm with hm | hm
    ·obtain ⟨q, hq, he⟩ := aej.1 hm
     exact ky (Gh q hq).1 he
    ·exact Tg hm
   obtain ⟨r1, r2⟩ := rR (L' := (l ++ ra).map (·.1)) (fun j => by
    simp only [aeB, aec, aea, aed]
    constructor
    ·rintro (h | h | h)
     ·exact ahj
     ·exact .inl h
     ·exact .inr (.inr h)
    ·rintro (h | h | h)
     ·exact ahj
     ·exact .inl h
     ·exact .inr (.inr h)) JG jl yj D7 AG
   have rQ : rl P T ops.toList (fun env' h' => Ds P T ops.toList t K (l ++ ra) bP env' h') [oi] env h := sX (dP (fun v h' hk => hk.2.2) LR)
   refine lu hT ops (fun env' h' a' w' μ' S' hk kI => xX hT ops jb mH hK hd (n + ra.length) (l ++ ra) bP _ env' h' a' w' μ' S' (by simp [hn]) Pm (fun q hq => bO q (by
    simp only [aea, aed] at hq ⊢
    exact hq.imp id .inr)) aie r1 r2 hk kI) i oi wX JH env h a w μ S rQ hs
  ·-- the second
   have AW : Ds P T ops.toList t K (l ++ (i, false) :: rb) bP env h := JJ l bP env h hf
   have LR := xY (P := P) (T := T) (ops := ops) (t := t) (K := K) AH l rb bP env h (fun q hq => rS jb (Gh q hq).2.1 ain AG wM) AW
   have JG : i ∉ (l ++ rb).map (·.1) := fun hm => by
    simp only [aeB, aea] at hm
    rcases hm with hm | hm
    ·obtain ⟨q, hq, he⟩ := aej.1 hm
     exact ky (Gh q hq).2.1 he
    ·exact Th hm
   obtain ⟨r1, r2⟩ := rR (L' := (l ++ rb).map (·.1)) (fun j => by
    rw [aeB, aea, RG j, aeB]
    simp only [aec, aea, aed]
    constructor
    ·rintro (h | h | h)
     ·exact ahj
     ·exact .inl h
     ·exact .inr (.inr h)
    ·rintro (h | h | h)
     ·exact ahj
     ·exact .inl h
     ·exact .inr (.inr h)) JG jl yj D7 AG
   have rQ : rl P T ops.toList (fun env' h' => Ds P T ops.toList t K (l ++ rb) bP env' h') [oi] env h := sX (dP (fun v h' hk => hk.2.2) LR)
   refine lu hT ops (fun env' h' a' w' μ' S' hk kI => xX hT ops jb mH hK hd (n + ra.length) (l ++ rb) bP _ env' h' a' w' μ' S' (by simp [hn, hlen]) Ti (fun q hq => by
    rw [aea] at hq
    rcases hq with h | h
    ·exact bO q (afa _ h)
    ·have : q.1 ∈ ((x, false) :: ra).map (·.1) := (RG q.1).2 (aei _ (aej.2 ⟨q, h, rfl⟩))
     obtain ⟨p, hp, he⟩ := aej.1 this
     rw [← he]
     exact bO p (List.mem_append_right _ hp)) aie r1 r2 hk kI) i oi wX JH env h a w μ S rQ hs
theorem Pn (hT : dJ P T) (ops : Array Oper) {t : List (Nat × List Nat)} (jb : ∀ i x, kL (dw t i) x = true → FN ops.toList x i) (mH : ∀ i, i < ops.size → ∀ d, d ∈ bS ops.toList i → d < ops.size ∧ d ≠ i) {x y : Nat} {ra rb : List (Nat × Bool)}
  (hlen : rb.length = ra.length) (RG : ∀ j, j ∈ ((x, false) :: ra).map (·.1) ↔ j ∈ ((y, false) :: rb).map (·.1)) (WD : ∀ d, d ∈ bS ops.toList x → d ∉ ((x, false) :: ra).map (·.1)) (Tg : x ∉ ra.map (·.1)) (Th : y ∉ rb.map (·.1))
  (FQ : ∀ p, p ∈ ra → p.1 = y ∨ kL (dw t p.1) x = true ∨ kL (dw t p.1) y = true)
  {K : Env → List ak → Prop} {Q : Exit → Act → World → Prop} (hK : ∀ env h a w μ S, K env h → nv C μ h S env a w → Q .normal a w) (hd : ∀ o ∈ ops.toList, nD C.nt o = true)
  (n : Nat) (l : List (Nat × Bool)) (bP : List (Nat × List Nat)) (listed : Array Bool) (env : Env) (h : List ak) (a : Act) (w : World) (μ : Mu) (S : Nat → Prop) (hn : l.length = n) (Pm : cj ops t (l ++ ra) = true) (Ti : cj ops t (l ++ rb) = true)
  (Gh : ∀ p, p ∈ l → eZ ops t p (x, false) = true ∧ eZ ops t p (y, false) = true ∧ ∀ d, d ∈ bS ops.toList p.1 → d ∉ ((x, false) :: ra).map (·.1))
  (bO : ∀ p, p ∈ l ++ (x, false) :: ra → p.1 < ops.size) (jl : listed.size = ops.size)
  (yj : ∀ j, j < ops.size → (listed.getD j true = false ↔ j ∈ (l ++ (x, false) :: ra).map (·.1))) (D7 : ∀ j, j < ops.size → j ∉ (l ++ (x, false) :: ra).map (·.1) → ∀ d, d ∈ bS ops.toList j → d ∉ (l ++ (x, false) :: ra).map (·.1))
  (hf : zf P T ops.toList t ((x, false) :: ra) ((y, false) :: rb) K l bP env h) (hs : nv C μ h S env a w) : wpAny P .any ops Q (n + (ra.length + 1)) listed a w := by
 induction n generalizing l bP listed env h a w μ S with
 | zero => exact vW hT ops jb mH hlen RG WD Tg Th FQ hK hd 0 l bP listed env h a w μ S hn Pm Ti Gh bO jl yj D7 hf hs (fun m hm => absurd hm (Nat.succ_ne_zero m))
 | succ n ih => exact vW hT ops jb mH hlen RG WD Tg Th FQ hK hd (n + 1) l bP listed env h a w μ S hn Pm Ti Gh bO jl yj D7 hf hs (fun m hm => by (obtain rfl : m = n := Nat.succ.inj hm); exact ih)
def Left (ops : Array Oper) (l : List (Nat × Bool)) (R : List Nat) (listed : Array Bool) : Prop :=
 listed.size = ops.size ∧ (∀ j, j < ops.size → (listed.getD j true = false ↔ j ∈ l.map (·.1) ++ R)) ∧ ∀ j, j < ops.size → j ∉ l.map (·.1) ++ R → ∀ d, d ∈ bS ops.toList j → d ∉ l.map (·.1) ++ R
def XJ (P : Program) (T : pr) (C : Start) (ops : Array Oper) (t : List (Nat × List Nat)) (Q : Exit → Act → World → Prop) (E : List (Nat × List Nat) → Env → List ak → Prop) (R : List Nat) (c : List (Nat × Bool) → Prop) : Prop :=
 ∀ (l : List (Nat × Bool)) (bP : List (Nat × List Nat)) (listed : Array Bool) (env : Env) (h : List ak) (a : Act) (w : World) (μ : Mu) (S : Nat → Prop), c l → (∀ p, p ∈ l → p.1 < ops.size) → Left ops l R listed →
  nN P T ops.toList t E l bP env h → nv C μ h S env a w → wpAny P .any ops Q (l.length + R.length) listed a w
theorem FT (hT : dJ P T) (ops : Array Oper) {t : List (Nat × List Nat)} (jb : ∀ i x, kL (dw t i) x = true → FN ops.toList x i) (mH : ∀ i, i < ops.size → ∀ d, d ∈ bS ops.toList i → d < ops.size ∧ d ≠ i)
  {K : Env → List ak → Prop} {Q : Exit → Act → World → Prop} (hK : ∀ env h a w μ S, K env h → nv C μ h S env a w → Q .normal a w) (hd : ∀ o ∈ ops.toList, nD C.nt o = true) (A : List (Nat × Bool)) (hA : ∀ p, p ∈ A → p.1 < ops.size) :
  XJ P T C ops t Q (fun bP env h => Ds P T ops.toList t K A bP env h) (A.map (·.1)) (fun l => cj ops t (l ++ A) = true) := by
 intro l bP listed env h a w μ S hc bO hL hf hs
 obtain ⟨jl, yj, D7⟩ := hL
 rw [show l.length + (A.map (·.1)).length = (l ++ A).length from by simp]
 rw [← aeB] at yj D7
 exact xX hT ops jb mH hK hd _ (l ++ A) bP listed env h a w μ S rfl hc (fun p hp => by rcases aea.1 hp with q | q; exact bO p q; exact hA p q) jl yj D7 (uE l bP env h hf) hs
theorem RH {ops : Array Oper} {t : List (Nat × List Nat)} {Q : Exit → Act → World → Prop} {E : List (Nat × List Nat) → Env → List ak → Prop} {R : List Nat} {c : List (Nat × Bool) → Prop} (hE : XJ P T C ops t Q E R c) (o1 : List (Nat × Bool)) (h1 : ∀ p, p ∈ o1 → p.1 < ops.size) :
  XJ P T C ops t Q (fun bP env h => nN P T ops.toList t E o1 bP env h) (o1.map (·.1) ++ R) (fun l => c (l ++ o1)) := by
 intro l bP listed env h a w μ S hc bO hL hf hs
 have e : (l ++ o1).map (·.1) ++ R = l.map (·.1) ++ (o1.map (·.1) ++ R) := by simp
 have := hE (l ++ o1) bP listed env h a w μ S hc (fun p hp => by rcases aea.1 hp with q | q; exact bO p q; exact h1 p q) (by unfold Left; rw [e]; exact hL) (uF l bP env h hf) hs
 rw [show l.length + (o1.map (·.1) ++ R).length = (l ++ o1).length + R.length from by simp; omega]
 exact this
structure BrC (ops : Array Oper) (t : List (Nat × List Nat)) (x y : Nat) (R : List Nat) (cX cY : List (Nat × Bool) → Prop) (l : List (Nat × Bool)) : Prop where
 pw : cj ops t l = true
 hd : ∀ p, p ∈ l → eZ ops t p (x, false) = true ∧ eZ ops t p (y, false) = true ∧ (∀ d, d ∈ bS ops.toList p.1 → d ∉ R) ∧ p.1 ∉ R
 x : cX l
 y : cY l
theorem Po (hT : dJ P T) (ops : Array Oper) {t : List (Nat × List Nat)} (jb : ∀ i x, kL (dw t i) x = true → FN ops.toList x i) (mH : ∀ i, i < ops.size → ∀ d, d ∈ bS ops.toList i → d < ops.size ∧ d ≠ i)
  {Q : Exit → Act → World → Prop} (hd : ∀ o ∈ ops.toList, nD C.nt o = true) {x y : Nat} {RX RY : List Nat} {EX EY : List (Nat × List Nat) → Env → List ak → Prop} {cX cY : List (Nat × Bool) → Prop} (hEX : uG EX) (hEY : uG EY)
  (hX : XJ P T C ops t Q EX RX cX) (hY : XJ P T C ops t Q EY RY cY) (hcX : ∀ l1 p l2, cX (l1 ++ p :: l2) → cX (l1 ++ l2)) (hcY : ∀ l1 p l2, cY (l1 ++ p :: l2) → cY (l1 ++ l2))
  (hlen : RX.length = RY.length) (RG : ∀ j, j ∈ x :: RX ↔ j ∈ y :: RY) (Xs : x < ops.size) (hxd : ∀ d, d ∈ bS ops.toList x → d ∉ x :: RX) (Tg : x ∉ RX) (Th : y ∉ RY) (FQ : ∀ j, j ∈ RX → j = y ∨ kL (dw t j) x = true ∨ kL (dw t j) y = true) :
  XJ P T C ops t Q (fun bP env h => nN P T ops.toList t EX [(x, false)] bP env h ∧ nN P T ops.toList t EY [(y, false)] bP env h) (x :: RX) (BrC ops t x y (x :: RX) cX cY) := by
 have hE : uG (fun bP env h => nN P T ops.toList t EX [(x, false)] bP env h ∧ nN P T ops.toList t EY [(y, false)] bP env h) := D9 (p9 hEX _) (p9 hEY _)
 intro l
 generalize hn : l.length = n
 induction n generalizing l with
 | zero => ?z
 | succ n ih => ?s
 all_goals
  intro bP listed env h a w μ S hc bO hL hf hs
  obtain ⟨jl, yj, D7⟩ := hL
  have Td : ∀ d, d < ops.size → (listed.getD d false = true ↔ d ∉ l.map (·.1) ++ x :: RX) := fun d Pe => by
   have := yj d Pe
   have e : listed.getD d false = listed.getD d true := by simp [Array.getD, jl, Pe]
   rw [e, ← this]
   cases listed.getD d true <;> simp
  refine ⟨fun h0 => ?_, fun i hi => ?_⟩
 case z.refine_1 | s.refine_1 =>
  exfalso
  have first : ∃ p, p < ops.size ∧ p ∈ l.map (·.1) ++ x :: RX ∧ ∀ d, d ∈ bS ops.toList p → d ∉ l.map (·.1) ++ x :: RX := by
   cases l with
   | nil => exact ⟨x, Xs, by simp, fun d D1 hm => hxd d D1 (by simpa using hm)⟩
   | cons p r =>
    have hp := bO p ahy
    refine ⟨p.1, hp, by simp, fun d D1 hm => ?_⟩
    rw [aea] at hm
    rcases hm with hm | hm
    ·simp only [aec, aed, aej] at hm
     rcases hm with rfl | ⟨q, hq, rfl⟩
     ·exact (mH _ hp _ D1).2 rfl
     ·exact Cq (jJ [] _ hc.pw hq) D1
    ·exact (hc.hd p ahy).2.2.1 d D1 hm
  obtain ⟨p, hp, hpm, hpd⟩ := first
  have ho := aeq hp
  have : p ∈ Region.ready .any ops listed := by
   rw [mem_ready]
   refine ⟨(yj p hp).2 hpm, _, ho, fun e he hb => ?_⟩
   have hm : e.on ∈ bS ops.toList p := (nM ho).2 ⟨e, he, hb, rfl⟩
   rw [Td _ (mH p hp _ hm).1]
   exact hpd _ hm
  rw [h0] at this
  simp at this
 all_goals
  rw [mem_ready] at hi
  obtain ⟨h1, oi, wX, HJ⟩ := hi
  have vb := (adZ.1 wX).1
  have AH : ops.toList[i]? = some oi := by simpa using wX
  have JH : nD C.nt oi = true := hd oi aio
  have AG : ∀ d, d ∈ bS ops.toList i → d ∉ l.map (·.1) ++ x :: RX := fun d vV => by
   exact agD
  have wM : ∀ z, FN ops.toList z i → z ∉ l.map (·.1) ++ x :: RX := by
   have gen : ∀ z j, FN ops.toList z j → j < ops.size → (∀ d, d ∈ bS ops.toList j → d ∉ l.map (·.1) ++ x :: RX) → z ∉ l.map (·.1) ++ x :: RX := fun z j ha => by
    induction ha with
    | base hx => exact fun _ hj => hj _ hx
    | step vV _ ih => exact fun hj hjd => ih (mH _ hj _ vV).1 (D7 _ (mH _ hj _ vV).1 (hjd _ vV))
   exact fun z ha => gen z i ha vb AG
  have hyA : y ∈ x :: RX := (RG y).2 ahy
  have FR := (yj i vb).1 h1
  rw [aea] at FR
  have split : i ∈ l.map (·.1) ∨ i = x ∨ i = y := by
   rcases FR with FR | FR
   ·exact .inl FR
   ·rcases aed.1 FR with rfl | hq
    ·exact .inr (.inl rfl)
    ·rcases FQ i hq with h2 | h2 | h2
     ·exact .inr (.inr h2)
     ·exact absurd (by simp : x ∈ l.map (·.1) ++ x :: RX) (wM _ (jb _ _ h2))
     ·exact absurd (by rw [aea]; exact .inr hyA) (wM _ (jb _ _ h2))
  have adD : ∀ q, q ∈ l → q.1 ∉ x :: RX := fun q hq => (hc.hd q hq).2.2.2
  rcases split with FR | rfl | rfl
 case z.refine_2.inl => obtain rfl := List.length_eq_zero_iff.1 hn; simp at FR
 case s.refine_2.inl =>
  obtain ⟨p, hp, Te⟩ := aej.1 FR
  obtain ⟨l1, l2, rfl⟩ := afI hp
  obtain ⟨i', st⟩ := p
  simp only at Te
  subst Te
  obtain ⟨Tf, hpw⟩ := ja l1 _ hc.pw
  have LR := vl hE (P := P) (T := T) (ops := ops) (t := t) AH l1 l2 bP env h (fun q hq => rS jb (Tf q hq) (by rw [aea]; exact .inl (aej.2 ⟨q, afa _ hq, rfl⟩)) AG wM) hf
  have JG : i' ∉ (l1 ++ l2).map (·.1) ++ x :: RX := fun hm => by
   rw [aea] at hm
   rcases hm with hm | hm
   ·obtain ⟨q, hq, he⟩ := aej.1 hm
    rcases aea.1 hq with hq | hq
    ·exact ky (Tf q hq) he
    ·exact ky (jJ l1 _ hc.pw hq) he.symm
   ·exact adD (i', st) ahy hm
  obtain ⟨r1, r2⟩ := rR (L' := (l1 ++ l2).map (·.1) ++ x :: RX) (fun j => by
   simp only [aeB, aec, aea, aed]
   constructor
   ·rintro ((h | h | h) | h)
    ·exact .inr (.inl (.inl h))
    ·exact .inl h
    ·exact .inr (.inl (.inr h))
    ·exact .inr (.inr h)
   ·rintro (h | (h | h) | h)
    ·exact .inl (.inr (.inl h))
    ·exact .inl (.inl h)
    ·exact .inl (.inr (.inr h))
    ·exact .inr h) JG jl yj D7 AG
  have rQ : rl P T ops.toList (fun env' h' => nN P T ops.toList t (fun bP env h => nN P T ops.toList t EX [(x, false)] bP env h ∧ nN P T ops.toList t EY [(y, false)] bP env h) (l1 ++ l2) bP env' h') [oi] env h := sX (dP (fun v h' hk => hk.2.2) LR)
  have UO : BrC ops t x y (x :: RX) cX cY (l1 ++ l2) := ⟨hpw, fun q hq => hc.hd q (by
   simp only [aea, aed] at hq ⊢
   exact hq.imp id .inr), hcX _ _ _ hc.x, hcY _ _ _ hc.y⟩
  have q : wpOp P ops Q i' (wpAny P .any ops Q (n + (x :: RX).length) (listed.setIfInBounds i' true)) a w := lu hT ops (fun env' h' a' w' μ' S' hk kI => ih (l1 ++ l2) (by simp at hn ⊢; omega) bP _ env' h' a' w' μ' S' UO (fun q hq => bO q (by
   simp only [aea, aed] at hq ⊢
   exact hq.imp id .inr)) ⟨by simpa using jl, r1, r2⟩ hk kI) i' oi wX JH env h a w μ S rQ hs
  rw [show n + (x :: RX).length = n + 1 + RX.length from by simp; omega] at q
  exact q
 case z.refine_2.inr.inl | s.refine_2.inr.inl =>
  have AW : nN P T ops.toList t EX (l ++ [(i, false)]) bP env h := uF l bP env h (xZ (fun _ _ _ q => q.1) l bP env h hf)
  have LR := vl hEX (P := P) (T := T) (ops := ops) (t := t) AH l [] bP env h (fun q hq => rS jb (hc.hd q hq).1 (by rw [aea]; exact .inl (aej.2 ⟨q, hq, rfl⟩)) AG wM) AW
  have JG : i ∉ l.map (·.1) ++ RX := fun hm => by
   rcases aea.1 hm with hm | hm
   ·obtain ⟨q, hq, he⟩ := aej.1 hm
    exact ky (hc.hd q hq).1 he
   ·exact Tg hm
  obtain ⟨r1, r2⟩ := rR (L' := l.map (·.1) ++ RX) (fun j => by
   simp only [aea, aed]
   constructor
   ·rintro (h | h | h)
    ·exact ahj
    ·exact .inl h
    ·exact .inr (.inr h)
   ·rintro (h | h | h)
    ·exact ahj
    ·exact .inl h
    ·exact .inr (.inr h)) JG jl yj D7 AG
  have rQ : rl P T ops.toList (fun env' h' => nN P T ops.toList t EX l bP env' h') [oi] env h := sX (dP (fun v h' hk => by have := hk.2.2; rwa [aeI] at this) LR)
  have q : wpOp P ops Q i (wpAny P .any ops Q (l.length + RX.length) (listed.setIfInBounds i true)) a w := lu hT ops (fun env' h' a' w' μ' S' hk kI => hX l bP _ env' h' a' w' μ' S' hc.x bO ⟨by simpa using jl, r1, r2⟩ hk kI) i oi wX JH env h a w μ S rQ hs
  rw [hn] at q
  exact q
 case z.refine_2.inr.inr | s.refine_2.inr.inr =>
  have AW : nN P T ops.toList t EY (l ++ [(i, false)]) bP env h := uF l bP env h (xZ (fun _ _ _ q => q.2) l bP env h hf)
  have LR := vl hEY (P := P) (T := T) (ops := ops) (t := t) AH l [] bP env h (fun q hq => rS jb (hc.hd q hq).2.1 (by rw [aea]; exact .inl (aej.2 ⟨q, hq, rfl⟩)) AG wM) AW
  have JG : i ∉ l.map (·.1) ++ RY := fun hm => by
   rcases aea.1 hm with hm | hm
   ·obtain ⟨q, hq, he⟩ := aej.1 hm
    exact ky (hc.hd q hq).2.1 he
   ·exact Th hm
  obtain ⟨r1, r2⟩ := rR (L' := l.map (·.1) ++ RY) (fun j => by
   rw [aea, RG j, aea]
   simp only [aed]
   constructor
   ·rintro (h | h | h)
    ·exact ahj
    ·exact .inl h
    ·exact .inr (.inr h)
   ·rintro (h | h | h)
    ·exact ahj
    ·exact .inl h
    ·exact .inr (.inr h)) JG jl yj D7 AG
  have rQ : rl P T ops.toList (fun env' h' => nN P T ops.toList t EY l bP env' h') [oi] env h := sX (dP (fun v h' hk => by have := hk.2.2; rwa [aeI] at this) LR)
  have q : wpOp P ops Q i (wpAny P .any ops Q (l.length + RY.length) (listed.setIfInBounds i true)) a w := lu hT ops (fun env' h' a' w' μ' S' hk kI => hY l bP _ env' h' a' w' μ' S' hc.y bO ⟨by simpa using jl, r1, r2⟩ hk kI) i oi wX JH env h a w μ S rQ hs
  rw [hn, ← hlen] at q
  exact q
theorem uH {ops : Array Oper} {t : List (Nat × List Nat)} : ∀ (l A : List (Nat × Bool)), cj ops t (l ++ A) = true → cj ops t l = true
 | [], _, _ => rfl
 | p :: l, A, h => by
  simp only [afc, cj, so, aeb] at h ⊢
  exact ⟨fun q hq => h.1 q (afa _ hq), uH l A h.2⟩
theorem Ea {ops : Array Oper} {t : List (Nat × List Nat)} {ord : List (Nat × Bool)} {x y : Nat} {RX RY : List Nat} (h : RI ops t ord x y RX RY = true) :
  RX.length = RY.length ∧ (∀ p, p ∈ ord → eZ ops t p (x, false) = true ∧ eZ ops t p (y, false) = true ∧ (∀ d, d ∈ bS ops.toList p.1 → d ∉ x :: RX) ∧ p.1 ∉ x :: RX) ∧ (∀ j, j ∈ x :: RX ↔ j ∈ y :: RY) ∧
  (∀ d, d ∈ bS ops.toList x → d ∉ x :: RX) ∧ x ∉ RX ∧ y ∉ RY ∧ (∀ j, j ∈ RX → j = y ∨ kL (dw t j) x = true ∨ kL (dw t j) y = true) := by
 unfold RI at h
 simp only [so] at h
 obtain ⟨⟨⟨⟨⟨⟨⟨h1, h2⟩, h3⟩, h4⟩, h5⟩, h6⟩, h7⟩, h8⟩ := h
 rw [aeb] at h2 h3 h4 h5 h8
 have no : ∀ (L : List Nat) (z : Nat), (!(kL L z)) = true → z ∉ L := fun L z hz hm => by rw [vi _ _ hm] at hz; cases hz
 refine ⟨adW h1, fun p hp => ?_, fun j => ⟨fun hj => mb _ _ (h3 j hj), fun hj => mb _ _ (h4 j hj)⟩, fun d hd => no _ _ (h5 d hd), no _ _ h6, no _ _ h7, fun j hj => ?_⟩
 ·have := h2 p hp
  rw [so, so, so, aeb] at this
  exact ⟨this.1.1.1, this.1.1.2, fun d vV => no _ _ (this.1.2 d vV), no _ _ this.2⟩
 ·have := h8 j hj
  rw [aeD, aeD] at this
  rcases this with (q | q) | q
  ·exact .inl (adW q)
  ·exact .inr (.inl q)
  ·exact .inr (.inr q)
theorem LU (hT : dJ P T) (ops : Array Oper) {ord : List (Nat × Bool)} {x : Nat} {o1 : List (Nat × Bool)} {x1 : Nat} {yk : List (Nat × Bool)} {y1 : Nat} {HK : List (Nat × Bool)} {y : Nat} {rb : List (Nat × Bool)} (hc : Cr ops ord x o1 x1 yk y1 HK y rb = true)
  {K : Env → List ak → Prop} {Q : Exit → Act → World → Prop} (hK : ∀ env h a w μ S, K env h → nv C μ h S env a w → Q .normal a w) (hd : ∀ o ∈ ops.toList, nD C.nt o = true) {env : Env} {h : List ak} {a : Act} {w : World}
  (hf : fw3 P T ops.toList (vD ops.toList (ord ++ (x, false) :: (o1 ++ (x1, false) :: yk)) []) x o1 x1 yk y1 HK y rb K ord [] env h) (hs : nv C μ h S env a w) : wpAny P .any ops Q ops.size (Array.replicate ops.size false) a w := by
 unfold Cr at hc
 simp only [so] at hc
 obtain ⟨⟨⟨⟨⟨⟨⟨hlen, WE⟩, mh⟩, NC⟩, Mj⟩, SN⟩, eD⟩, jo⟩ := hc
 rw [aeb] at WE mh
 have hlen := adW hlen
 generalize ht : vD ops.toList (ord ++ (x, false) :: (o1 ++ (x1, false) :: yk)) [] = t at *
 have jb : ∀ i x, kL (dw t i) x = true → FN ops.toList x i := by rw [← ht]; exact vj _ [] (fun i x hx => by simp [dw, kL] at hx)
 generalize hal : ord ++ (x, false) :: (o1 ++ (x1, false) :: yk) = al at *
 have bO : ∀ p, p ∈ al → p.1 < ops.size := fun p hp => by
  have := mh p hp
  rw [so] at this
  exact ael this.1
 have Cs : ∀ j, j < ops.size → j ∈ al.map (·.1) := fun j hj => mb _ _ (WE j (afy.2 hj))
 have mH : ∀ i, i < ops.size → ∀ d, d ∈ bS ops.toList i → d < ops.size ∧ d ≠ i := fun i hi d vV => by
  obtain ⟨p, hp, rfl⟩ := aej.1 (Cs i hi)
  have := mh p hp
  rw [so, aeb] at this
  have := this.2 d vV
  rw [so] at this
  exact ⟨ael this.1, fun he => by rw [he, aeY] at this; cases this.2⟩
 obtain ⟨b1, b2, b3, b4, b5, b6, b7⟩ := Ea eD
 obtain ⟨c1, c2, c3, c4, c5, c6, c7⟩ := Ea jo
 have mx : ∀ p, p ∈ ord ∨ p = (x, false) ∨ p ∈ o1 ∨ p = (x1, false) ∨ p ∈ yk → p.1 < ops.size := fun p hp => bO p (by
  rw [← hal]; simp only [aea, aed]; exact hp)
 have mid : ∀ j, j ∈ x1 :: yk.map (·.1) → j < ops.size := fun j hj => by
  rcases aed.1 hj with rfl | hj
  ·exact mx (j, false) (.inr (.inr (.inr (.inl rfl))))
  ·obtain ⟨p, hp, rfl⟩ := aej.1 hj
   exact mx p (.inr (.inr (.inr (.inr hp))))
 have aaz : ∀ j, j ∈ x :: (o1.map (·.1) ++ x1 :: yk.map (·.1)) → j < ops.size := fun j hj => by
  rcases aed.1 hj with rfl | hj
  ·exact mx (j, false) (.inr (.inl rfl))
  ·rcases aea.1 hj with hj | hj
   ·obtain ⟨p, hp, rfl⟩ := aej.1 hj
    exact mx p (.inr (.inr (.inl hp)))
   ·exact mid j hj
 have app : ∀ {A : List (Nat × Bool)} (l1 : List (Nat × Bool)) (p : Nat × Bool) (l2 : List (Nat × Bool)), cj ops t ((l1 ++ p :: l2) ++ A) = true → cj ops t ((l1 ++ l2) ++ A) = true := fun {A} l1 p l2 q => by
  rw [aeG] at q ⊢
  exact (ja l1 _ q).2
 have s1 := FT (C := C) hT ops jb mH hK hd yk (fun p hp => mx p (.inr (.inr (.inr (.inr hp)))))
 have s2 := FT (C := C) hT ops jb mH hK hd HK (fun p hp => mid p.1 ((c3 p.1).2 (aei _ (aej.2 ⟨p, hp, rfl⟩))))
 have s3 := FT (C := C) hT ops jb mH hK hd rb (fun p hp => aaz p.1 ((b3 p.1).2 (aei _ (aej.2 ⟨p, hp, rfl⟩))))
 have in1 := Po (C := C) hT ops jb mH hd (x := x1) (y := y1) (rT yk) (rT HK) s1 s2 app app c1 c3 (mid x1 ahy) c4 c5 c6 c7
 have in2 := RH in1 o1 (fun p hp => mx p (.inr (.inr (.inl hp))))
 have out := Po (C := C) hT ops jb mH hd (x := x) (y := y) (p9 (D9 (p9 (rT yk) _) (p9 (rT HK) _)) o1) (rT rb) in2 s3 (fun l1 p l2 q => by
  rw [aeG] at q ⊢
  obtain ⟨q1, q2, q3, q4⟩ := q
  refine ⟨(ja l1 _ q1).2, fun r hr => q2 r ?_, ?_, ?_⟩
  ·simp only [aea, aed] at hr ⊢
   rcases hr with hr | hr | hr
   ·exact .inl hr
   ·exact .inr (.inl (.inr hr))
   ·exact .inr (.inr hr)
  ·have q3 : cj ops t ((l1 ++ (p :: l2 ++ o1)) ++ yk) = true := q3
   show cj ops t ((l1 ++ (l2 ++ o1)) ++ yk) = true
   rw [aeG] at q3 ⊢
   exact (ja l1 _ q3).2
  ·have q4 : cj ops t ((l1 ++ (p :: l2 ++ o1)) ++ HK) = true := q4
   show cj ops t ((l1 ++ (l2 ++ o1)) ++ HK) = true
   rw [aeG] at q4 ⊢
   exact (ja l1 _ q4).2) app b1 b3 (aaz x ahy) b4 b5 b6 b7
 have hR : ∀ j, j ∈ ord.map (·.1) ++ x :: (o1.map (·.1) ++ x1 :: yk.map (·.1)) ↔ j ∈ al.map (·.1) := fun j => by rw [← hal]; simp
 have jl : ops.size = ord.length + (x :: (o1.map (·.1) ++ x1 :: yk.map (·.1))).length := by rw [← hlen, ← hal]; simp
 have := out ord [] (Array.replicate ops.size false) env h a w μ S ⟨uH ord _ SN, b2, ⟨uH _ _ NC, c2, NC, Mj⟩, SN⟩ (fun p hp => mx p (.inl hp))
  ⟨by simp, fun j hj => ⟨fun _ => (hR j).2 (Cs j hj), fun _ => by simp [Array.getD, hj]⟩, fun j hj hn => absurd ((hR j).2 (Cs j hj)) hn⟩
  (qP (fun bP env h q => ⟨qP (E := fun bP env h => fw P T ops.toList t K ((x1, false) :: yk) bP env h ∧ fw P T ops.toList t K ((y1, false) :: HK) bP env h) (fun bP env h q => ⟨mA _ _ _ _ q.1, mA _ _ _ _ q.2⟩) ((x, false) :: o1) bP env h q.1, mA _ _ _ _ q.2⟩) ord [] env h hf) hs
 rw [← jl] at this
 exact this
theorem RJ {J : List (Nat × PV) → List ak → Prop} {env : Env} {h : List ak} {a : Act} {w : World} (hg : xL C.h.length J env h) : ∀ {μ : Mu} {S : Nat → Prop}, nv C μ h S env a w → ∃ σ η μ3 S3, nv C μ3 η S3 (zd nR σ) a w ∧ J σ η := by
 induction hg with
 | mk σ η ht hj =>
  intro μ S hs
  obtain ⟨μ3, S3, IF⟩ := ze hs ht
  exact ⟨σ, η, μ3, S3, IF, hj⟩
 | ex h1 hx hk ih =>
  intro μ S hs
  obtain ⟨μ1, Pp⟩ := hs.ex hx
  exact ih Pp
 | ab id i j sub h1 ha hk ih =>
  intro μ S hs
  obtain ⟨F, Pp⟩ := hs.ab ha
  exact ih F Pp
theorem RK {m : Nat} {A B : XQ → Env → List ak → Prop} {Q : XQ} {env : Env} {h : List ak} {a : Act} {w : World} {S : Nat → Prop} (hv : uA m A B Q env h) : ∀ {μ : Mu}, nv C μ h S env a w →
  ∃ μ' h', nv C μ' h' S env a w ∧ (A (XQ.then (B Q) Q) env h' ∨ ∃ J, A (XQ.then (xL m J) Q) env h' ∧ ∀ σ η, J σ η → B Q (zd nR σ) η) := by
 induction hv with
 | direct hd => exact fun hs => ⟨_, _, hs, .inl hd⟩
 | cut J ha hb => exact fun hs => ⟨_, _, hs, .inr ⟨J, ha, hb⟩⟩
 | ex h1 hx hk ih =>
  intro μ hs
  obtain ⟨μ1, Pp⟩ := hs.ex hx
  exact ih Pp
 | ab id i j sub h1 ha hk ih =>
  intro μ hs
  obtain ⟨F, Pp⟩ := hs.ab ha
  exact ih F Pp
theorem nn (hT : dJ P T) (wN : P.follows .mixedOrders = true) : ∀ (c : Code) (Q : XQ) (env : Env) (h : List ak) (a : Act) (w : World) (μ : Mu) (S : Nat → Prop),
  vc P T C.h.length c Q env h → codeOk C.nt c = true → nv C μ h S env a w → c.wp P (zb C Q) a w
 | .skip, Q, env, h, a, w, μ, S, hv, _, hs => wp_skip ⟨μ, h, S, env, hs, hv⟩
 | .label _, Q, env, h, a, w, μ, S, hv, _, hs => wp_label ⟨μ, h, S, env, hs, hv⟩
 | .exit _, Q, env, h, a, w, μ, S, hv, _, hs => wp_exit ⟨μ, h, S, env, hs, hv⟩
 | .ret, Q, env, h, a, w, μ, S, hv, _, hs => wp_ret ⟨μ, h, S, env, hs, hv⟩
 | .region id ops d, Q, env, h, a, w, μ, S, hv, yi, hs => by
  simp only [codeOk, so, aeb] at yi
  have hd : ∀ o ∈ ops.toList, nD C.nt o = true := yi.1
  cases d with
  | false =>
   refine wp_region_list (wJ hT ops (Q := zb C Q) (fun env h a w μ S hq hs => ⟨μ, h, S, env, hs, hq⟩) ops.toList env h a w μ S hv hd hs)
  | true =>
   have quiet : wL P T ops.toList h (fun env' => Q .normal env' h) ops.toList env → (Code.region id ops true).wp P (zb C Q) a w := fun hv => by
    refine wp_region_quiet (C := cP w) wN (by simpa using yi.2) (cP.drew w) ?_
    exact sW hT ops h w μ S (fun env a hq hs w' XI => ⟨μ, h, S, env, hs.agree XI, hq⟩) ops.toList env a hv hd hs
   have hv : (match ops.toList.all (fun o => Eb o.op) with
    | true => wL P T ops.toList h (fun env' => Q .normal env' h) ops.toList env
    | false => wO P T C.h.length ops (fun env' h' => Q .normal env' h') env h) := hv
   split at hv
   ·exact quiet hv
   ·cases hv with
    | quiet hq => exact quiet hq
    | orders σ η hc AG hk =>
     refine wp_region_any wN ?_
     refine Co hT ops (C := C) (K := fun env' h' => uz C.h.length env' h' σ η) (Q := zb C Q) (fun env' h' a' w' μ' S' ht kI => ?_) hd ops.size _ [] env h a _ μ S hc (by simpa using AG) (hs.agree (cP.drew w))
     obtain ⟨μ2, S2, Wz⟩ := ze kI ht
     exact ⟨μ2, η, S2, _, Wz, hk⟩
    | N1 ord x ra y rb hc hf =>
     refine wp_region_any wN ?_
     unfold HL at hc
     simp only [so] at hc
     obtain ⟨⟨⟨⟨⟨⟨⟨⟨⟨⟨⟨⟨hlen, aaA⟩, WE⟩, mh⟩, Pm⟩, Ti⟩, Gh⟩, aaB⟩, aaC⟩, WD⟩, Tg⟩, Th⟩, FQ⟩ := hc
     rw [aeb] at WE mh Gh aaB aaC WD FQ
     have hlen := adW hlen
     have bO : ∀ p, p ∈ ord ++ (x, false) :: ra → p.1 < ops.size := fun p hp => by
      have := mh p hp
      rw [so] at this
      exact ael this.1
     have Cs : ∀ j, j < ops.size → j ∈ (ord ++ (x, false) :: ra).map (·.1) := fun j hj => mb _ _ (WE j (afy.2 hj))
     have no : ∀ (L : List Nat) (z : Nat), (!(kL L z)) = true → z ∉ L := fun L z hz hm => by rw [vi _ _ hm] at hz; cases hz
     rw [← hlen]
     exact Pn hT ops (C := C) (vj _ [] (fun i x hx => by simp [dw, kL] at hx)) (fun i hi d vV => by
      obtain ⟨p, hp, rfl⟩ := aej.1 (Cs i hi)
      have := mh p hp
      rw [so, aeb] at this
      have := this.2 d vV
      rw [so] at this
      exact ⟨ael this.1, fun he => by rw [he, aeY] at this; cases this.2⟩)
      (adW aaA) (fun j => ⟨fun hj => mb _ _ (aaB j hj), fun hj => mb _ _ (aaC j hj)⟩) (fun d vV => no _ _ (WD d vV)) (no _ _ Tg) (no _ _ Th)
      (fun p hp => by
       have := FQ p hp
       rw [aeD, aeD] at this
       rcases this with (h1 | h1) | h1
       ·exact .inl (adW h1)
       ·exact .inr (.inl h1)
       ·exact .inr (.inr h1))
      (K := Pq Q) (Q := zb C Q) (fun env h a w μ S hq hs => ⟨μ, h, S, env, hs, hq⟩) hd ord.length ord [] _ env h a _ μ S rfl Pm Ti (fun p hp => by
       have := Gh p hp
       rw [so, so, aeb] at this
       exact ⟨this.1.1, this.1.2, fun d vV => no _ _ (this.2 d vV)⟩) bO (by simp [hlen]) (fun j hj => ⟨fun _ => Cs j hj, fun _ => by simp [Array.getD, hlen, hj]⟩) (fun j hj hn => absurd (Cs j hj) hn) (uI _ _ _ _ hf) (hs.agree (cP.drew w))
    | WG ord x o1 x1 yk y1 HK y rb hc hf =>
     refine wp_region_any wN ?_
     exact LU (C := C) hT ops hc (K := Pq Q) (Q := zb C Q) (fun env h a w μ S hq hs => ⟨μ, h, S, env, hs, hq⟩) hd hf (hs.agree (cP.drew w))
    | float ord hc hf =>
     refine wp_region_any wN ?_
     unfold KR at hc
     simp only [so, aeb, aex] at hc
     obtain ⟨⟨⟨hlen, WE⟩, mh⟩, WC⟩ := hc
     have hlen := adW hlen
     have bO : ∀ p, p ∈ ord → p.1 < ops.size := fun p hp => ael (mh p hp).1
     have hnd : (ord.map (·.1)).Nodup := by
      have : ∀ (l : List (Nat × Bool)), cj ops (vD ops.toList ord []) l = true → (l.map (·.1)).Nodup := fun l => by
       induction l with
       | nil => simp
       | cons p r ih =>
        intro hh
        simp only [cj, so, aeb] at hh
        simp only [aec, List.nodup_cons]
        refine ⟨fun hm => ?_, ih hh.2⟩
        obtain ⟨q, hq, he⟩ := aej.1 hm
        have := hh.1 q hq
        unfold eZ at this
        simp only [so, aex] at this
        have := this.1.1
        rw [he, aeY] at this
        cases this
      exact this _ WC
     have Cs : ∀ j, j < ops.size → j ∈ ord.map (·.1) := fun j hj => mb _ _ (WE j (afy.2 hj))
     exact xX hT ops (C := C) (vj ord [] (fun i x hx => by simp [dw, kL] at hx)) (fun i hi d vV => by
      obtain ⟨p, hp, rfl⟩ := aej.1 (Cs i hi)
      have := (mh p hp).2 d vV
      exact ⟨ael this.1, fun he => by rw [he, aeY] at this; cases this.2⟩)
      (K := fun env' h' => Q .normal env' h') (Q := zb C Q) (fun env h a w μ S hq hs => ⟨μ, h, S, env, hs, hq⟩) hd ops.size ord [] _ env h a _ μ S hlen WC bO ahy (fun j hj => ⟨fun _ => Cs j hj, fun _ => by simp [Array.getD, hj]⟩) (fun j hj hn => absurd (Cs j hj) hn) (mA _ _ _ _ hf) (hs.agree (cP.drew w))
 | .seq x y, Q, env, h, a, w, μ, S, hv, yi, hs => by
  simp only [codeOk, so] at yi
  have hv : uA C.h.length (vc P T C.h.length x) (vc P T C.h.length y) Q env h := hv
  obtain ⟨μ, h, hs, hd | ⟨J, ha, hb⟩⟩ := RK hv hs
  ·refine wp_seq (Code.wp_mono (fun e a' w' hl => ?_) (nn hT wN x _ env h a w μ S hd yi.1 hs))
   cases e with
   | normal =>
    obtain ⟨μ', h', S', env', kI, hq⟩ := hl
    exact nn hT wN y Q env' h' a' w' μ' S' hq yi.2 kI
   | exit id => exact hl
   | goto l => exact hl
   | ret => exact hl
   | panic ch => exact hl
   | outgrown => exact hl
  ·refine wp_seq (Code.wp_mono (fun e a' w' hl => ?_) (nn hT wN x _ env h a w μ S ha yi.1 hs))
   cases e with
   | normal =>
    obtain ⟨μ', h', S', env', kI, hg⟩ := hl
    obtain ⟨σ, η, μ3, S3, IF, hj⟩ := RJ hg kI
    exact nn hT wN y Q _ η a' w' μ3 S3 (hb σ η hj) yi.2 IF
   | exit id => exact hl
   | goto l => exact hl
   | ret => exact hl
   | panic ch => exact hl
   | outgrown => exact hl
 | .cond c x y, Q, env, h, a, w, μ, S, hv, yi, hs => by
  simp only [codeOk, so] at yi
  have hv : (match ev env c with
   | .bool t => fv t (vc P T C.h.length x Q env h) (vc P T C.h.length y Q env h)
   | _ => False) := hv
  have hc := bY hs.tmps c
  split at hv
  ·rename_i b he
   rw [he] at hc
   obtain ⟨h1, h2⟩ := lh hv
   exact wp_cond_split hc.mZ (fun hb => nn hT wN x Q env h a w μ S (h1 hb) yi.1 hs) (fun hb => nn hT wN y Q env h a w μ S (h2 hb) yi.2 hs)
  ·exact hv.elim
 | .block id c, Q, env, h, a, w, μ, S, hv, yi, hs => by
  refine wp_block (Code.wp_mono (fun e a' w' hl => ?_) (nn hT wN c _ env h a w μ S hv yi hs))
  cases e with
  | exit id' =>
   obtain ⟨μ', h', S', env', kI, hq⟩ := hl
   show if id' = id then zb C Q .normal a' w' else zb C Q (.exit id') a' w'
   simp only [XQ.inBlock] at hq
   by_cases hid : id' = id
   ·rw [if_pos hid]
    subst hid
    rw [show Nat.beq id' id' = true by simp] at hq
    exact ⟨μ', h', S', env', kI, hq⟩
   ·rw [if_neg hid]
    have : Nat.beq id' id = false := by
     cases hb : Nat.beq id' id with
     | true => exact (hid (adW hb)).elim
     | false => rfl
    rw [this] at hq
    exact ⟨μ', h', S', env', kI, hq⟩
  | normal => exact hl
  | goto l => exact hl
  | ret => exact hl
  | panic ch => exact hl
  | outgrown => exact hl
 | .loop c, Q, env, h, a, w, μ, S, hv, yi, hs => by
  intro b k cs
  replace hv : qH C.h.length (fun next => vc P T C.h.length c (XQ.then next Q)) env h := hv
  have key : ∀ (a : Act) (w : World) (μ : Mu) (S : Nat → Prop), nv C μ h S env a w → ∃ e a' w', zb C Q e a' w' ∧ Arrives P (lone (b.at a (.code c :: .inLoop c :: k)) cs w) b k cs e a' w' := by
   clear hs
   induction hv with
   | take σ η ht hk ih =>
    intro a w μ S hs
    obtain ⟨μ0, S0, Q6⟩ := ze hs ht
    exact ih a w μ0 S0 Q6
   | ex h1 hx hk ih =>
    intro a w μ S hs
    obtain ⟨μ1, Pp⟩ := hs.ex hx
    exact ih a w μ1 S Pp
   | ab id i j sub h1 ha hk ih =>
    intro a w μ S hs
    obtain ⟨F, Pp⟩ := hs.ab ha
    exact ih F a w μ S Pp
   | step N hN hb ih =>
    intro a w μ S hs
    obtain ⟨e, a₁, w₁, hq, HM⟩ := nn hT wN c _ _ _ a w μ S hb yi hs b (.inLoop c :: k) cs
    cases e with
    | normal =>
     obtain ⟨μ2, h2, S2, adS, Wz, hn⟩ := hq
     obtain ⟨e₂, a₂, w₂, hq₂, harr₂⟩ := ih _ _ hn a₁ w₁ μ2 S2 Wz
     exact ⟨e₂, a₂, w₂, hq₂, .of_steps (Steps.trans HM (.one step_inLoop)) harr₂⟩
    | exit id => exact ⟨_, a₁, w₁, hq, .pass (x := .inLoop c) rfl (fun _ _ => .inl ahy) HM⟩
    | goto l => exact ⟨_, a₁, w₁, hq, .pass (x := .inLoop c) rfl (fun _ _ => .inl ahy) HM⟩
    | ret => exact ⟨_, a₁, w₁, hq, .pass (x := .inLoop c) rfl (fun _ _ => .inl ahy) HM⟩
    | panic ch => exact ⟨_, a₁, w₁, hq, .pass (x := .inLoop c) rfl (fun _ _ => .inl ahy) HM⟩
    | outgrown => exact ⟨_, a₁, w₁, hq, .pass (x := .inLoop c) rfl (fun _ _ => .inl ahy) HM⟩
  obtain ⟨e, a', w', hq, HM⟩ := key a w μ S hs
  exact ⟨e, a', w', hq, .of_steps (.one step_loop) HM⟩
 | .rangeFunc _ _ _ _, Q, env, h, a, w, μ, S, hv, _, _ => hv.elim
 | .scope _, Q, env, h, a, w, μ, S, hv, _, _ => hv.elim
 | .goto _, Q, env, h, a, w, μ, S, hv, _, _ => hv.elim
 | .refuse _, Q, env, h, a, w, μ, S, hv, _, _ => hv.elim
theorem Pr (hT : dJ P T) (hH : cH μ h S w) (t : Nat) (px : PV) (v : Value) (hx : bN μ h S w px v) {K : PV → Prop} (hp : xy T t px h K) : ∃ pv val, K pv ∧ bN μ h S w pv val ∧ (do loadVar t (← asAddr v) : Sem Value).run P w = .ok val w := by
 obtain ⟨pv, val, hK, hv, hr⟩ := BR (P := P) (dst := none) (ty := 0) (pos := "") (after := #[]) (guard := none) (a := ⟨#[v], []⟩) hT hH t (.tmp 0) px (by simpa [Act.eval] using hx) hp
 refine ⟨pv, val, hK, hv, ?_⟩
 have := hr w (cP.refl w)
 have he : (execOp (Act.eval ⟨#[v], []⟩) ⟨none, .load t (.tmp 0), 0, "", #[], none⟩) = (do pure (Next.value (← Instr.loadAt t v)) : Sem Next) := rfl
 rw [he] at this
 have adE : ∃ ad, v = .pointer (some ad) := by
  unfold xy at hp
  split at hp
  ·obtain ⟨b, off, vf, e1, _⟩ := hx.xq; exact ⟨_, e1⟩
  ·rename_i id gen i off
   split at hp
   ·rename_i g sz n e f hg
    obtain ⟨rfl, _⟩ := hp
    have hr := hx.um
    unfold cc at hr
    rw [fH hg] at hr
    obtain ⟨_, _, hr⟩ := hr
    obtain ⟨_, b, base, _, _, hv⟩ := hr rfl
    exact ⟨_, hv⟩
   ·exact agR
  ·exact agR
 obtain ⟨ad, rfl⟩ := adE
 simp only [Instr.loadAt, Instr.sureAddr, asAddr, Sem.run_bind, Sem.run_pure, Result.andThen_ok] at this ⊢
 cases hl : (loadVar t ad).run P w with
 | ok u w' =>
  rw [hl] at this
  simp only [Result.andThen] at this
  injection this with h1 h2
  injection h1 with h1
  rw [h1, h2]
 | halt x w' => rw [hl] at this; cases this
theorem rn (hT : dJ P T) (hs : nv C μ h S env a w) : ∀ (rs : List ResultVar) (K : List PV → Prop), vm T env h rs K → ∃ (vs : List PV) (us : List Value), K vs ∧ us.length = vs.length ∧ (∀ (j : Nat) (pv : PV), vs[j]? = some pv → ∃ u, us[j]? = some u ∧ bN μ h S w pv u) ∧
  (rs.mapM (fun | .tmp t => pure (a.tmps.getD t undef) | .cell ad t => (do loadVar t (← asAddr (a.tmps.getD ad undef))) : ResultVar → Sem Value)).run P w = .ok us w
 | [], K, hp => ⟨[], [], hp, rfl, fun j pv hj => by simp at hj, rfl⟩
 | .tmp t :: r, K, hp => by
  obtain ⟨vs, us, hK, h1, h2, h3⟩ := rn hT hs r _ hp
  refine ⟨env t :: vs, a.tmps.getD t undef :: us, hK, by simp [h1], fun j pv hj => ?_, ?_⟩
  ·cases j with
   | zero => simp at hj; subst hj; exact ⟨_, rfl, hs.tmps t⟩
   | succ j => simp at hj; obtain ⟨u, q1, q2⟩ := h2 j pv hj; exact ⟨u, by simpa using q1, q2⟩
  ·simp only [List.mapM_cons, Sem.run_bind, Sem.run_pure, Result.andThen_ok, h3]
 | .cell ad t :: r, K, hp => by
  obtain ⟨pv, val, hK, hv, hr⟩ := Pr hT hs.core.heap t _ _ (hs.tmps ad) hp
  obtain ⟨vs, us, hK, h1, h2, h3⟩ := rn hT hs r _ hK
  refine ⟨pv :: vs, val :: us, hK, by simp [h1], fun j fR hj => ?_, ?_⟩
  ·cases j with
   | zero => simp at hj; subst hj; exact ⟨_, rfl, hv⟩
   | succ j => simp at hj; obtain ⟨u, q1, q2⟩ := h2 j fR hj; exact ⟨u, by simpa using q1, q2⟩
  ·simp only [List.mapM_cons, Sem.run_bind, hr, Result.andThen_ok, h3, Sem.run_pure]
end
section
variable {P : Program} {T : pr}
def valOf : List Value → Value
 | [v] => v
 | us => .tuple us.toArray
theorem HN {fn : Func} {tmps : Array Value} {us : List Value} {w : World}
  (hm : (fn.results.toList.mapM (fun | .tmp t => pure (tmps.getD t undef) | .cell ad t => (do loadVar t (← asAddr (tmps.getD ad undef))) : ResultVar → Sem Value)).run P w = .ok us w) :
  (results fn tmps).run P w = .ok (valOf us) w := by
 unfold results
 rw [Array.mapM_eq_mapM_toList]
 simp only [map_eq_pure_bind, bind_assoc, pure_bind, Sem.run_bind]
 have key : ∀ X : Result (List Value), X = .ok us w → (X.andThen fun a w' => Sem.run P (pure (if h : a.toArray.size = 1 then a.toArray[0] else Value.tuple a.toArray)) w') = .ok (valOf us) w := by
  rintro _ rfl
  simp only [Result.andThen_ok, Sem.run_pure]
  congr 1
  match us with
  | [] => rfl
  | [v] => rfl
  | v :: u :: r => simp [valOf]
 exact key _ hm
theorem Ps {C : Start} {m : Nat} {R : PV → List ak → Prop} {env : Env} {h : List ak} {a : Act} {w : World} {S : Nat → Prop} {vs : List PV} {us : List Value} (hE : Ends m R h vs) : ∀ {μ : Mu}, nv C μ h S env a w →
  (∀ (j : Nat) (pv : PV), vs[j]? = some pv → ∃ u, us[j]? = some u ∧ bN μ h S w pv u) → ∃ μ' h', nv C μ' h' S env a w ∧ (∀ (j : Nat) (pv : PV), vs[j]? = some pv → ∃ u, us[j]? = some u ∧ bN μ' h' S w pv u) ∧
   vs.all lK = true ∧ ∃ (k : List Nat) (res : PV) (η : List ak), oM (oq η k) = true ∧ m ≤ k.length ∧ Fz h' η k (oneOf vs) res ∧ p6 h' η k m 0 η k ∧ R res η := by
 induction hE with
 | mk hn k res η hk hm hz hh hR => exact fun hs h2 => ⟨_, _, hs, h2, hn, k, res, η, hk, hm, hz, hh, hR⟩
 | ex h1 hx hk ih =>
  intro μ hs h2
  obtain ⟨μ1, hf, hc⟩ := KP hs.core hx
  exact ih (hs.turn hf hc) (fun j pv hj => let ⟨u, q1, q2⟩ := h2 j pv hj; ⟨u, q1, q2.fr hf hs.core.ok⟩)
 | ab id i j sub h1 ha hk ih =>
  intro μ hs h2
  obtain ⟨hf, hc⟩ := KQ hs.core (ha (FAb μ _ sub))
  exact ih _ (hs.turn hf hc) (fun j pv hj => let ⟨u, q1, q2⟩ := h2 j pv hj; ⟨u, q1, q2.fr hf hs.core.ok⟩)
theorem ACall.aan (hT : dJ P T) (wN : P.follows .mixedOrders = true) {f : FuncId} {fn : Func} {c : Code} (hf : P.funcs[f]? = some fn) (hb : fn.body = some c) (xO : (fn.name == "runtime.NumGoroutine") = false)
  (args : List PV) (h : List ak) (R : PV → List ak → Prop) (hn : Nat.ble args.length fn.ntmps = true) (yi : codeOk fn.ntmps c = true)
  (hv : vc P T h.length c (aam T fn.results.toList h.length R) (uB args) h) : ACall P f args h R := by
 refine ⟨⟨fn, c, hf, hb, xO⟩, fun w vs μ S hH hM jl qG => ?_⟩
 have hn := ael hn
 let C : Start := ⟨μ, h, S, w, fn.ntmps⟩
 have hs : nv C μ h S (uB args) ⟨vs ++ Array.replicate (fn.ntmps - vs.size) undef, []⟩ w := by
  refine ⟨⟨hH, hM⟩, Fr.refl, fun t => ?_, by simp; show _ = fn.ntmps; omega, fun t ht => ?_, rfl⟩
  ·unfold uB
   rw [adY]
   cases ha : args[t]? with
   | none => trivial
   | some pv =>
    obtain ⟨v, h1, h2⟩ := qG t pv ha
    have bO : t < vs.size := (adZ.1 h1).1
    have : (vs ++ Array.replicate (fn.ntmps - vs.size) undef).getD t undef = v := by
     rw [Array.getD_eq_getD_getElem?, aeH bO, h1]; rfl
    simp only [afq]
    rw [this]
    exact bN.Ry h2
  ·unfold uB
   rw [adY, aev]
   ·rfl
   ·exact aer hn ht
 refine calls_of_wp hf hb ?_
 refine Code.wp_mono (fun e a' w' hl => ?_) (nn (C := C) hT wN c _ _ h _ w μ S hv yi hs)
 obtain ⟨μ', h', S', env', kI, hq⟩ := hl
 have fin : vm T env' h' fn.results.toList (Ends h.length R h') → a'.defers = [] ∧ ∃ v, (results fn a'.tmps).run P w' = .ok v w' ∧
   (∃ (v' : Value) (res : PV) (RL : List ak) (μ'' : Mu) (WH : Nat → Prop), Ending.returned v = .returned v' ∧ R res RL ∧ bN μ'' RL WH w' res v' ∧ cH μ'' RL WH w' ∧ tG μ'' RL WH w' ∧ Fr μ h S w μ'' RL WH w') := fun hr => by
  obtain ⟨Tj, us, hE, h1, h2, h3⟩ := rn hT kI _ _ hr
  refine ⟨kI.defers, _, HN h3, ?_⟩
  obtain ⟨μ', h', kI, h2, Ta, k, res, η, hk, hm, hz, hh, hR⟩ := Ps hE kI h2
  have hvr : bN μ' h' S' w' (oneOf Tj) (valOf us) := by
   have key : (∀ v, Tj ≠ [v]) → bN μ' h' S' w' (oneOf Tj) (valOf us) := fun rZ => by
    have e1 : oneOf Tj = .fu Tj := by
     match Tj, rZ with
     | [], _ => rfl
     | [v], rZ => exact (rZ v rfl).elim
     | a :: b :: r, _ => rfl
    have e2 : valOf us = .tuple us.toArray := by
     match us, h1 with
     | [], _ => rfl
     | [v], h1 =>
      match Tj, h1, rZ with
      | [x], _, rZ => exact (rZ x rfl).elim
     | a :: b :: r, _ => rfl
    rw [e1, e2]
    refine ⟨_, rfl, by simpa using h1, fun j pv hj => ?_⟩
    obtain ⟨u, q1, q2⟩ := h2 j pv hj
    refine ⟨u, by simpa using q1, ?_⟩
    have hp : lK pv = true := (aeb.1 Ta) pv (aef hj)
    cases pv with
    | fu ps => cases hp
    | _ => exact q2
   match Tj, us, h1 with
   | [v], [u], _ =>
    obtain ⟨u', q1, q2⟩ := h2 0 v rfl
    simp at q1
    subst q1
    exact q2
   | [], us, _ => exact key (fun v hv => by cases hv)
   | a :: b :: r, us, _ => exact key (fun v hv => by cases hv)
  obtain ⟨tt, _, _⟩ := xW kI.core hh hk
  exact ⟨_, res, η, mm μ' h' k, D5 μ' h' k S', rfl, hR, (uD kI.core hh hz).2.2 _ hvr, tt.heap, tt.ok, Tb (C := C) kI.core kI.fr hh hk hm⟩
 cases e with
 | ret => exact fin hq
 | normal => exact fin hq
 | exit id => exact hq.elim
 | goto l => exact hq.elim
 | panic ch => exact hq.elim
 | outgrown => exact hq.elim
theorem ACall.mono {f : FuncId} {args : List PV} {h : List ak} {R R' : PV → List ak → Prop} (hc : ACall P f args h R) (hr : ∀ res h', R res h' → R' res h') : ACall P f args h R' :=
 ⟨hc.1, fun w vs μ S hH hM jl ha => (hc.2 w vs μ S hH hM jl ha).mono fun e w' ⟨v, res, h', μ', S', he, hR, rest⟩ => ⟨v, res, h', μ', S', he, hr _ _ hR, rest⟩⟩
end
def nK (N : Nat) : PV → PV
 | .own id gen off len => .own (N + id) gen off len
 | .aG id gen i off => .aG (N + id) gen i off
 | .lA id => .lA (N + id)
 | .oP f bX => .oP f (sY (N + ·) bX)
 | v => v
def JK (N : Nat) : PV → PV
 | .agg cs => .agg (cs.map (nK N))
 | v => nK N v
def oL (N : Nat) : PV → PV
 | .fu vs => .fu (vs.map (JK N))
 | v => JK N v
def fL (N : Nat) : ak → ak
 | .row g sz n e f => .row g sz n e (fun i => (f i).map (nK N))
 | .dead => .dead
def DY : PV → Bool
 | .agg cs => cs.all bG
 | v => bG v
def p7 : PV → Bool
 | .gz _ _ _ => false
 | .gf _ => false
 | .bf _ _ _ _ _ => false
 | _ => true
def Tk : PV → Bool
 | .agg cs => cs.all p7
 | v => p7 v
def DX : PV → Bool
 | .fu vs => vs.all Tk
 | v => Tk v
def OO : ak → Prop
 | .row _ _ n _ f => ∀ i, i < n → (f i).all p7 = true
 | .dead => True
section
variable {P : Program} {T : pr} {μ μ0 : Mu} {h h0 : List ak} {S S0 S' : Nat → Prop} {w w' : World}
def kC (μ : Mu) (N : Nat) (μ0 : Mu) : Mu := fun id => if id < N then μ id else μ0 (id - N)
theorem zY {N : Nat} {a : PV} (h : kE a = true) : nK N a = a := by cases a <;> first | rfl | cases h
theorem pj (N : Nat) (hN : h.length = N) (id : Nat) : (h ++ h0.map (fL N))[N + id]? = (h0[id]?).map (fL N) := by
 subst hN
 rw [aen ahw, Nat.add_sub_cancel_left, aem]
theorem sZ (N id : Nat) : kC μ N μ0 (N + id) = μ0 id := by
 unfold kC
 rw [if_neg ahw, Nat.add_sub_cancel_left]
theorem fe (G : PV → Prop) (hG : ∀ pv v, G pv → aV S0 w' pv v → aV S' w' pv v) {pv : PV} {v : Value} (hg : G pv) (hc : bZ μ0 h0 S0 w' pv v) :
  bZ (kC μ h.length μ0) (h ++ h0.map (fL h.length)) S' w' (nK h.length pv) v := by
 have uJ : ∀ (id gen i off : Nat) (v : Value), cc μ0 h0 w' id gen i off v → cc (kC μ h.length μ0) (h ++ h0.map (fL h.length)) w' (h.length + id) gen i off v := fun id gen i off v hc => by
  unfold cc at hc ⊢
  rw [pj _ rfl, sZ]
  obtain ⟨h1, h2⟩ := hc
  refine ⟨h1, ?_⟩
  cases ho : h0[id]? with
  | none => rw [ho] at h2; exact h2
  | some o =>
   rw [ho] at h2
   cases o with
   | dead => trivial
   | row g sz n e f => exact h2
 cases pv with
 | own id gen off len =>
  have hc : bL μ0 h0 w' id gen off len v := hc
  show bL _ _ _ (h.length + id) gen off len v
  unfold bL at hc ⊢
  rw [pj _ rfl, sZ]
  obtain ⟨h1, h2⟩ := hc
  refine ⟨h1, ?_⟩
  cases ho : h0[id]? with
  | none => rw [ho] at h2; exact h2
  | some o =>
   rw [ho] at h2
   cases o with
   | dead => trivial
   | row g sz n e f => exact h2
 | aG id gen i off => exact uJ _ _ _ _ _ hc
 | oP f bX => exact tH.map (O := fun id g u => cc (kC μ h.length μ0) (h ++ h0.map (fL h.length)) w' id g 0 0 u) (tH.mono (show oJ μ0 h0 w' f bX v from hc) (fun id g u hu => uJ id g 0 0 u hu))
 | lA id =>
  have hc : gJ μ0 h0 w' id v := hc
  show gJ _ _ _ (h.length + id) v
  unfold gJ at hc ⊢
  rw [pj _ rfl, sZ]
  obtain ⟨h1, h2⟩ := hc
  refine ⟨h1, ?_⟩
  cases ho : h0[id]? with
  | none => rw [ho] at h2; exact h2
  | some o =>
   rw [ho] at h2
   cases o with
   | dead => trivial
   | row g sz n e f => exact h2
 | iZ => exact hc
 | bf sz n e f F => exact hc
 | agg cs => exact (show False from hc).elim
 | fu cs => exact (show False from hc).elim
 | int k n => exact hG _ _ hg hc
 | bool b => exact hG _ _ hg hc
 | str s => exact hG _ _ hg hc
 | aq => exact hG _ _ hg hc
 | gz sz n f => exact hG _ _ hg hc
 | gf cs => exact hG _ _ hg hc
 | fn f => exact hG _ _ hg hc
theorem ff (G : PV → Prop) (hG : ∀ pv v, G pv → aV S0 w' pv v → aV S' w' pv v) {pv : PV} {v : Value} (hg : match pv with | .agg cs => ∀ c ∈ cs, G c | v => G v) (hc : jX μ0 h0 S0 w' pv v) :
  jX (kC μ h.length μ0) (h ++ h0.map (fL h.length)) S' w' (JK h.length pv) v := by
 cases pv with
 | agg cs =>
  obtain ⟨vs, h1, h2, h3⟩ := hc
  refine ⟨vs, h1, by simpa using h2, fun j pv hj => ?_⟩
  rw [aem] at hj
  cases hx : cs[j]? with
  | none => rw [hx] at hj; cases hj
  | some c =>
   rw [hx] at hj
   injection hj with hj
   subst hj
   obtain ⟨u, q1, q2⟩ := h3 j c hx
   exact ⟨u, q1, fe G hG (hg c (aef hx)) q2⟩
 | iZ => trivial
 | bf sz n e f F => exact fe (μ := μ) (μ0 := μ0) (h := h) (h0 := h0) (pv := .bf sz n e f F) G hG hg hc
 | fu cs => exact (show False from hc).elim
 | own id gen off len => exact fe (μ := μ) (μ0 := μ0) (h := h) (h0 := h0) (pv := .own id gen off len) G hG hg hc
 | aG id gen i off => exact fe (μ := μ) (μ0 := μ0) (h := h) (h0 := h0) (pv := .aG id gen i off) G hG hg hc
 | lA id => exact fe (μ := μ) (μ0 := μ0) (h := h) (h0 := h0) (pv := .lA id) G hG hg hc
 | oP f bX => exact fe (μ := μ) (μ0 := μ0) (h := h) (h0 := h0) (pv := .oP f bX) G hG hg hc
 | int k n => exact fe (μ := μ) (μ0 := μ0) (h := h) (h0 := h0) (pv := .int k n) G hG hg hc
 | bool b => exact fe (μ := μ) (μ0 := μ0) (h := h) (h0 := h0) (pv := .bool b) G hG hg hc
 | str s => exact fe (μ := μ) (μ0 := μ0) (h := h) (h0 := h0) (pv := .str s) G hG hg hc
 | aq => exact fe (μ := μ) (μ0 := μ0) (h := h) (h0 := h0) (pv := .aq) G hG hg hc
 | gz sz n f => exact fe (μ := μ) (μ0 := μ0) (h := h) (h0 := h0) (pv := .gz sz n f) G hG hg hc
 | gf cs => exact fe (μ := μ) (μ0 := μ0) (h := h) (h0 := h0) (pv := .gf cs) G hG hg hc
 | fn f => exact fe (μ := μ) (μ0 := μ0) (h := h) (h0 := h0) (pv := .fn f) G hG hg hc
def RM (G : PV → Prop) : PV → Prop
 | .fu vs => ∀ v ∈ vs, (match v with | .agg cs => ∀ c ∈ cs, G c | v => G v)
 | .agg cs => ∀ c ∈ cs, G c
 | v => G v
theorem Ct (G : PV → Prop) (hG : ∀ pv v, G pv → aV S0 w' pv v → aV S' w' pv v) {pv : PV} {v : Value} (hg : RM G pv) (hc : bN μ0 h0 S0 w' pv v) :
  bN (kC μ h.length μ0) (h ++ h0.map (fL h.length)) S' w' (oL h.length pv) v := by
 cases pv with
 | fu cs =>
  obtain ⟨vs, h1, h2, h3⟩ := hc
  refine ⟨vs, h1, by simpa using h2, fun j pv hj => ?_⟩
  rw [aem] at hj
  cases hx : cs[j]? with
  | none => rw [hx] at hj; cases hj
  | some c =>
   rw [hx] at hj
   injection hj with hj
   subst hj
   obtain ⟨u, q1, q2⟩ := h3 j c hx
   exact ⟨u, q1, ff G hG (hg c (aef hx)) q2⟩
 | agg cs => exact ff (μ := μ) (μ0 := μ0) (h := h) (h0 := h0) (pv := .agg cs) G hG hg hc
 | iZ => trivial
 | bf sz n e f F => exact ff (μ := μ) (μ0 := μ0) (h := h) (h0 := h0) (pv := .bf sz n e f F) G hG hg hc
 | own id gen off len => exact ff (μ := μ) (μ0 := μ0) (h := h) (h0 := h0) (pv := .own id gen off len) G hG hg hc
 | aG id gen i off => exact ff (μ := μ) (μ0 := μ0) (h := h) (h0 := h0) (pv := .aG id gen i off) G hG hg hc
 | lA id => exact ff (μ := μ) (μ0 := μ0) (h := h) (h0 := h0) (pv := .lA id) G hG hg hc
 | oP f bX => exact ff (μ := μ) (μ0 := μ0) (h := h) (h0 := h0) (pv := .oP f bX) G hG hg hc
 | int k n => exact ff (μ := μ) (μ0 := μ0) (h := h) (h0 := h0) (pv := .int k n) G hG hg hc
 | bool b => exact ff (μ := μ) (μ0 := μ0) (h := h) (h0 := h0) (pv := .bool b) G hG hg hc
 | str s => exact ff (μ := μ) (μ0 := μ0) (h := h) (h0 := h0) (pv := .str s) G hG hg hc
 | aq => exact ff (μ := μ) (μ0 := μ0) (h := h) (h0 := h0) (pv := .aq) G hG hg hc
 | gz sz n f => exact ff (μ := μ) (μ0 := μ0) (h := h) (h0 := h0) (pv := .gz sz n f) G hG hg hc
 | gf cs => exact ff (μ := μ) (μ0 := μ0) (h := h) (h0 := h0) (pv := .gf cs) G hG hg hc
 | fn f => exact ff (μ := μ) (μ0 := μ0) (h := h) (h0 := h0) (pv := .fn f) G hG hg hc
theorem Ec (hH : cH μ h S w) (hM : tG μ h S w) {μc : Mu} {Sc : Nat → Prop} (hF : Fr μc [] Sc w μ0 h0 S0 w') (Qn : cH μ0 h0 S0 w') (Ed : tG μ0 h0 S0 w')
  (G : PV → Prop) (hG : ∀ pv v, G pv → aV S0 w' pv v → aV S' w' pv v) (aaD : ∀ (id g sz n : Nat) (e : TypeId) (f : Nat → List PV), h0[id]? = some (ak.row g sz n e f) → ∀ i, i < n → ∀ c ∈ f i, (ef c = false → G c) ∧ (ef c = true → OG G c))
  (hS1 : ∀ b, S b → S' b) (hS2 : ∀ b, S' b → S b ∨ w.heap.size ≤ b) (hS3 : ∀ b, S' b → b < w'.heap.size) (hS4 : ∀ b, S' b → ¬ cQ μ0 h0 b) :
  cH (kC μ h.length μ0) (h ++ h0.map (fL h.length)) S' w' ∧ tG (kC μ h.length μ0) (h ++ h0.map (fL h.length)) S' w' ∧ Fr μ h S w (kC μ h.length μ0) (h ++ h0.map (fL h.length)) S' w' := by
 have xp : ∀ b, ¬ cQ μc [] b := fun b => kx
 have kH : ∀ b, b < w.heap.size → w'.heap[b]? = w.heap[b]? := fun b hb => hF.blocks b hb (xp b)
 have JL : ∀ b, cQ μ0 h0 b → w.heap.size ≤ b := fun b hb => (hF.own b hb).resolve_left (xp b)
 have qD : ∀ id o, h[id]? = some o → (h ++ h0.map (fL h.length))[id]? = some o ∧ kC μ h.length μ0 id = μ id := fun id o hid => by
  have bO := (An.1 hid).1
  exact ⟨by rw [aew bO]; exact hid, by unfold kC; rw [if_pos bO]⟩
 have inv : ∀ (id g sz n : Nat) (e : TypeId) (f : Nat → List PV), (h ++ h0.map (fL h.length))[id]? = some (ak.row g sz n e f) →
   (h[id]? = some (ak.row g sz n e f) ∧ kC μ h.length μ0 id = μ id) ∨ ∃ CR f0, id = h.length + CR ∧ h0[CR]? = some (ak.row g sz n e f0) ∧ kC μ h.length μ0 id = μ0 CR ∧ f = fun i => (f0 i).map (nK h.length) := fun id g sz n e f hid => by
  rcases aeE id h.length with bO | Ql
  ·rw [aew bO] at hid
   exact .inl ⟨hid, by unfold kC; rw [if_pos bO]⟩
  ·obtain ⟨CR, rfl⟩ : ∃ CR, id = h.length + CR := ⟨id - h.length, by omega⟩
   rw [pj _ rfl] at hid
   cases ho : h0[CR]? with
   | none => rw [ho] at hid; cases hid
   | some o =>
    rw [ho] at hid
    cases o with
    | dead => cases hid
    | row g0 RC n0 e0 f0 =>
     injection hid with hid
     injection hid with e1 e2 e3 e4 e5
     subst e1 e2 e3 e4 e5
     exact .inr ⟨CR, f0, rfl, ho, sZ _ _, rfl⟩
 have AD : ∀ b, CP (kC μ h.length μ0) (h ++ h0.map (fL h.length)) b → CP μ h b ∨ CP μ0 h0 b := fun b ⟨id, g, sz, n, e, f, base, hid, hm⟩ => by
  rcases inv id g sz n e f hid with ⟨h1, h2⟩ | ⟨CR, f0, rfl, h1, h2, _⟩
  ·rw [h2] at hm; exact .inl ⟨id, g, sz, n, e, f, base, h1, hm⟩
  ·rw [h2] at hm; exact .inr ⟨CR, g, sz, n, e, f0, base, h1, hm⟩
 have adF : ∀ {c : PV} {sz n : Nat} {e : TypeId} {f : Nat → List PV} {F : Nat → Prop}, nK h.length c = .bf sz n e f F → c = .bf sz n e f F := fun {c} _ _ _ _ _ hc => by
  cases c <;> first | exact hc | cases hc
 have qn : ∀ id i j b, eg (h ++ h0.map (fL h.length)) id i j b → eg h id i j b ∨ ∃ CR, id = h.length + CR ∧ eg h0 CR i j b := fun id i j b ⟨g, sz, n, e, f, cf, n', e', f', F', q1, q2, q3, q4⟩ => by
  rcases inv id g sz n e f q1 with ⟨h1, h2⟩ | ⟨CR, f0, rfl, h1, h2, rfl⟩
  ·exact .inl ⟨_, _, _, _, _, _, _, _, _, _, h1, q2, q3, q4⟩
  ·rw [aem] at q3
   cases hx : (f0 i)[j]? with
   | none => rw [hx] at q3; cases q3
   | some c =>
    rw [hx] at q3
    injection q3 with q3
    rw [adF q3] at hx
    exact .inr ⟨CR, rfl, _, _, _, _, _, _, _, _, _, _, h1, q2, hx, q4⟩
 have nh : ∀ b, cQ (kC μ h.length μ0) (h ++ h0.map (fL h.length)) b → cQ μ h b ∨ cQ μ0 h0 b := fun b hb => by
  rcases hb with hb | ⟨x, y, z, hb⟩
  ·exact (AD b hb).imp .inl .inl
  ·rcases qn x y z b hb with q | ⟨_, _, q⟩
   ·exact .inl (.inr ⟨_, _, _, q⟩)
   ·exact .inr (.inr ⟨_, _, _, q⟩)
 have lW : Fr μ h S w (kC μ h.length μ0) (h ++ h0.map (fL h.length)) S' w' := by
  refine ⟨by simp, fun b hb _ => kH b hb, hS1, fun b hb => (hS2 b hb).imp id .inr, fun b hb => (nh b hb).imp id (JL b), hF.size, hF.os, hF.tape, hF.output, fun id g sz n e f hid => ?_, fun id hid => (qD id _ hid).1, fun b k hb hc => lj.of_same (kH b hc.lt) hc, fun id g sz n e f b base hid hm oC => ⟨let ⟨es, c, q⟩ := oC; ⟨es, c, (kH b (adZ.1 q).1).trans q⟩, .inr ⟨⟨_, _, _, _, _, (qD id _ hid).1⟩, (qD id _ hid).2.trans hm⟩⟩, fun b _ _ _ hx oC => let ⟨es, c, q⟩ := oC; ⟨es, c, (kH b (adZ.1 q).1).trans q⟩⟩
  obtain ⟨h1, h2⟩ := qD id _ hid
  rw [h1]
  exact ⟨adV _, fun _ => ⟨h2, rfl, rfl, rfl⟩⟩
 refine ⟨fun id g sz n e f hid => ?_, ⟨fun b hb hs => ?_, fun b hb => ?_, hS3, ?_, hM.B3 lW, fun b hb x y z hx => ?_, fun b x y z x' y' z' hx wA => ?_⟩, lW⟩
 rotate_right 2
 ·rcases AD b hb with h1 | h1
  ·rcases qn x y z b hx with h2 | ⟨_, _, h2⟩
   ·exact hM.hv b h1 _ _ _ h2
   ·have a1 := hM.lt b (.inl h1)
    have a2 := JL b (.inr ⟨_, _, _, h2⟩)
    omega
  ·rcases qn x y z b hx with h2 | ⟨_, _, h2⟩
   ·have a1 := hM.lt b (.inr ⟨_, _, _, h2⟩)
    have a2 := JL b (.inl h1)
    omega
   ·exact Ed.hv b h1 _ _ _ h2
 ·rcases qn x y z b hx with h1 | ⟨u1, rfl, h1⟩
  ·rcases qn x' y' z' b wA with h2 | ⟨u2, rfl, h2⟩
   ·exact hM.hh b _ _ _ _ _ _ h1 h2
   ·have a1 := hM.lt b (.inr ⟨_, _, _, h1⟩)
    have a2 := JL b (.inr ⟨_, _, _, h2⟩)
    omega
  ·rcases qn x' y' z' b wA with h2 | ⟨u2, rfl, h2⟩
   ·have a1 := hM.lt b (.inr ⟨_, _, _, h2⟩)
    have a2 := JL b (.inr ⟨_, _, _, h1⟩)
    omega
   ·obtain ⟨e1, e2, e3⟩ := Ed.hh b _ _ _ _ _ _ h1 h2
    exact ⟨by rw [e1], e2, e3⟩
 ·rcases inv id g sz n e f hid with ⟨h1, h2⟩ | ⟨CR, f0, rfl, h1, h2, rfl⟩
  ·obtain ⟨q1, q2⟩ := hH id g sz n e f h1
   refine ⟨q1, ?_⟩
   rw [h2]
   cases hm : μ id with
   | none => rw [hm] at q2; exact q2
   | some p =>
    obtain ⟨b, base⟩ := p
    rw [hm] at q2
    obtain ⟨o, r1, r2⟩ := q2
    have bO : b < w.heap.size := (adZ.1 r1).1
    exact ⟨o, (kH b bO).trans r1, r2.mono (fun i y pv v hi hy hr => hr.fr lW hM (fun cf n' e' f' F' he b2 jo => kH b2 (hM.lt b2 (.inr ⟨id, i, y, _, _, _, _, _, _, _, _, _, _, h1, hi, he ▸ hy, jo⟩))))⟩
  ·obtain ⟨q1, q2⟩ := Qn CR g sz n e f0 h1
   refine ⟨fun i hi => by simpa using q1 i hi, ?_⟩
   rw [h2]
   cases hm : μ0 CR with
   | none => rw [hm] at q2; exact q2
   | some p =>
    obtain ⟨b, base⟩ := p
    rw [hm] at q2
    obtain ⟨o, r1, r2⟩ := q2
    refine ⟨o, r1, ?_⟩
    cases o with
    | cells cur e' z =>
     obtain ⟨x1, x2, x3, r3⟩ := r2
     refine ⟨x1, x2, x3, fun i j pv hi hj => ?_⟩
     rw [aem] at hj
     cases hx : (f0 i)[j]? with
     | none => rw [hx] at hj; cases hj
     | some c =>
      rw [hx] at hj
      injection hj with hj
      subst hj
      obtain ⟨v, s1, s2⟩ := r3 i j c hi hx
      obtain ⟨g1, g2⟩ := aaD CR g sz n e f0 h1 i hi c (aef hx)
      refine ⟨v, s1, ?_⟩
      cases ho : ef c with
      | false => exact bZ.k (fe G hG (g1 ho) s2.c) (by cases c <;> first | rfl | cases ho)
      | true =>
       cases c with
       | bf qI n2 e2 f2 F2 => exact ml.og hG (show ml S0 w' (.bf qI n2 e2 f2 F2) v from s2) (g2 rfl)
       | _ => cases ho
    | map es c =>
     obtain ⟨x1, r3⟩ := r2
     refine ⟨x1, fun i hi => ?_⟩
     obtain ⟨kp, vp, en, y1, y2, y3, y4⟩ := r3 i hi
     exact ⟨kp, vp, en, by show (f0 i).map (nK h.length) = _; rw [y1]; show [nK h.length kp, nK h.length vp] = _; rw [zY y2, zY y3], y2, y3, y4⟩
    | _ => exact r2.elim
 ·rcases nh b hb with h1 | h1
  ·rcases hS2 b hs with h2 | h2
   ·exact hM.apart b h1 h2
   ·have := hM.lt b h1; omega
  ·exact hS4 b hs h1
 ·rcases nh b hb with h1 | h1
  ·exact aet (hM.lt b h1) hF.size
  ·exact Ed.lt b h1
 ·intro i j gi Qm ni ei fi gj pU nj ej fj b o o' hi hj qm pg
  rcases inv i _ _ _ _ _ hi with ⟨h1, h2⟩ | ⟨CR, f0, rfl, h1, h2, _⟩
  ·rw [h2] at qm
   rcases inv j _ _ _ _ _ hj with ⟨h3, h4⟩ | ⟨XF, f1, rfl, h3, h4, _⟩
   ·rw [h4] at pg; exact hM.inj i j _ _ _ _ _ _ _ _ _ _ _ _ _ h1 h3 qm pg
   ·rw [h4] at pg
    have a1 := hM.lt b (.inl ⟨i, _, _, _, _, _, _, h1, qm⟩)
    have a2 := JL b (.inl ⟨XF, _, _, _, _, _, _, h3, pg⟩)
    omega
  ·rw [h2] at qm
   rcases inv j _ _ _ _ _ hj with ⟨h3, h4⟩ | ⟨XF, f1, rfl, h3, h4, _⟩
   ·rw [h4] at pg
    have a1 := hM.lt b (.inl ⟨j, _, _, _, _, _, _, h3, pg⟩)
    have a2 := JL b (.inl ⟨CR, _, _, _, _, _, _, h1, qm⟩)
    omega
   ·rw [h4] at pg
    have := Ed.inj CR XF _ _ _ _ _ _ _ _ _ _ _ _ _ h1 h3 qm pg
    rw [this]
theorem ACall.frame {f : FuncId} {args : List PV} {R : PV → List ak → Prop} (hA : ACall P f args [] R) (h : List ak) (hp : args.all DY = true) :
  ACall P f args h (fun res h' => ∃ r0 h0, R r0 h0 ∧ res = oL h.length r0 ∧ h' = h ++ h0.map (fL h.length)) := by
 refine ⟨hA.1, fun w vs μ S hH hM jl ha => ?_⟩
 refine (hA.2 w vs (fun _ => none) S (fun id g sz n e f hid => by simp at hid) ⟨fun b hb => absurd hb kx, fun b hb => absurd hb kx, hM.slt, fun i j g sz n e f g' cf n' e' f' b o o' hi => by simp at hi, hM.known, fun b _ x y z hx => va hx, fun b _ _ _ _ _ _ hx => absurd hx va⟩ jl (fun j pv hj => ?_)).mono ?_
 ·obtain ⟨v, h1, h2⟩ := ha j pv hj
  refine ⟨v, h1, ?_⟩
  have HO := (aeb.1 hp) pv (aef hj)
  cases pv with
  | agg cs =>
   obtain ⟨us, q1, q2, q3⟩ := h2
   refine ⟨us, q1, q2, fun i c hi => ?_⟩
   obtain ⟨u, r1, r2⟩ := q3 i c hi
   have hc := (aeb.1 HO) c (aef hi)
   exact ⟨u, r1, bZ.kG (ve hc r2)⟩
  | fu cs => cases HO
  | own id gen off len => cases HO
  | aG id gen i off => cases HO
  | lA id => cases HO
  | oP f bX => cases HO
  | iZ => cases HO
  | bf sz n e f F => cases HO
  | int k n => exact h2
  | bool b => exact h2
  | str s => exact h2
  | aq => exact h2
  | gz sz n f => exact h2
  | gf cs => exact h2
  | fn f => exact h2
 ·rintro e w' ⟨v, r0, h0, μ0, S0, he, hR, hv, Qn, Ed, hF⟩
  have xp : ∀ b, ¬ cQ (fun _ => none) [] b := fun b => kx
  obtain ⟨c1, c2, c3⟩ := Ec (S' := S0) hH hM hF Qn Ed (fun _ => True) (fun _ _ _ h => h) (fun id g sz n e f hid i hi c hcm => ⟨fun _ => trivial, fun hx => by
    obtain ⟨j, hj, hcj⟩ := aeM.1 hcm
    obtain ⟨_, q2⟩ := Qn id g sz n e f hid
    cases iL : μ0 id with
    | none => rw [iL] at q2; omega
    | some p =>
     obtain ⟨b, base⟩ := p
     rw [iL] at q2
     obtain ⟨o, _, r2⟩ := q2
     cases o with
     | cells cur e' z =>
      obtain ⟨_, _, _, r3⟩ := r2
      obtain ⟨v, _, s2⟩ := r3 i j c hi (by rw [← hcj]; exact Is hj)
      cases c with
      | bf qI n2 e2 f2 F2 => exact ml.all (show ml S0 w' (.bf qI n2 e2 f2 F2) v from s2)
      | _ => cases hx
     | map es cl =>
      obtain ⟨kp, vp, en, y1, y2, y3, _⟩ := r2.2 i hi
      rw [y1] at hcm
      rcases aed.1 hcm with q | q
      ·rw [q] at hx; cases kp <;> first | (cases hx; done) | (cases y2; done)
      ·rw [aeW.1 q] at hx; cases vp <;> first | (cases hx; done) | (cases y3; done)
     | _ => exact r2.elim⟩) hF.sub
   (fun b hb => (hF.new b hb).imp id (fun h => h.resolve_left (xp b))) Ed.slt (fun b hb ho => Ed.apart b ho hb)
  have mh : RM (fun _ => True) r0 := by
   unfold RM
   split
   ·intro v _; split <;> intros <;> trivial
   ·intros; trivial
   ·trivial
  exact ⟨v, _, _, _, S0, he, ⟨r0, h0, hR, rfl, rfl⟩, Ct _ (fun _ _ _ h => h) mh hv, c1, c2, c3⟩
theorem ACall.acd {f : FuncId} {args : List PV} {R : PV → List ak → Prop} {sz : Nat} {e : TypeId} {g : Nat → List PV} (hA : ACall P f (.own 0 0 0 0 :: args) [.row 0 sz 0 e g] R) (hp : args.all DY = true) : ACall P f (.aq :: args) [] R := by
 have hnh : ∀ id i j b, ¬ eg [ak.row 0 sz 0 e g] id i j b := fun id i j b ⟨g', cf, n', e', f', _, _, _, _, _, q1, q2, _⟩ => by
  cases id with
  | succ id => simp at q1
  | zero =>
   simp at q1
   obtain ⟨rfl, rfl, rfl, rfl, rfl⟩ := q1
   exact aey _ q2
 have hnv : ∀ b, ¬ CP (fun _ => none) [ak.row 0 sz 0 e g] b := fun b ⟨id, g, sz, n, e, f, base, h1, h2⟩ => by cases h2
 have xp : ∀ b, ¬ cQ (fun _ => none) [ak.row 0 sz 0 e g] b := fun b hb => by
  rcases hb with hb | ⟨x, y, z, hb⟩
  ·exact hnv b hb
  ·exact hnh _ _ _ _ hb
 have adG : ∀ (μ : Mu) b, ¬ cQ μ [] b := fun μ b => kx
 refine ⟨hA.1, fun w vs μ S hH hM jl ha => ?_⟩
 refine (hA.2 w vs (fun _ => none) S (fun id g' cf n' e' f' hid => ?_) ⟨fun b hb => absurd hb (xp b), fun b hb => absurd hb (xp b), hM.slt, (fun i j g sz n e f g' cf n' e' f' b o o' _ _ h3 => by cases h3), hM.known, fun b hb => absurd hb (hnv b), fun b _ _ _ _ _ _ hx => absurd hx (hnh _ _ _ _)⟩ aie (fun j pv hj => ?_)).mono ?_
 ·cases id with
  | succ id => simp at hid
  | zero =>
   simp at hid
   obtain ⟨rfl, rfl, rfl, rfl, rfl⟩ := hid
   exact ⟨fun i hi => absurd hi (aey _), rfl⟩
 ·cases j with
  | zero =>
   simp at hj
   subst hj
   obtain ⟨v, h1, h2⟩ := ha 0 .aq rfl
   refine ⟨v, h1, ?_⟩
   have h2 : aV S w .aq v := h2
   cases h2
   have hr : bL (fun _ => none) [.row 0 sz 0 e g] w 0 0 0 0 (.slice none 0 0) := ⟨⟨_, _, _, rfl⟩, adV _, fun _ => ⟨adV _, rfl⟩⟩
   exact hr
  | succ j =>
   have Hc : args[j]? = some pv := by simpa using hj
   obtain ⟨v, h1, h2⟩ := ha (j + 1) pv (by simpa using Hc)
   refine ⟨v, h1, ?_⟩
   have HO := (aeb.1 hp) pv (aef Hc)
   cases pv with
   | agg cs =>
    obtain ⟨us, q1, q2, q3⟩ := h2
    refine ⟨us, q1, q2, fun i c hi => ?_⟩
    obtain ⟨u, r1, r2⟩ := q3 i c hi
    have hc := (aeb.1 HO) c (aef hi)
    exact ⟨u, r1, bZ.kG (ve hc r2)⟩
   | fu cs => cases HO
   | own id gen off len => cases HO
   | aG id gen i off => cases HO
   | lA id => cases HO
   | oP f bX => cases HO
   | iZ => cases HO
   | bf sz n e f F => cases HO
   | int k n => exact h2
   | bool b => exact h2
   | str s => exact h2
   | aq => exact h2
   | gz sz n f => exact h2
   | gf cs => exact h2
   | fn f => exact h2
 ·rintro e' w' ⟨v, r0, h0, μ0, S0, he, hR, hv, Qn, Ed, hF⟩
  exact ⟨v, r0, h0, μ0, S0, he, hR, hv, Qn, Ed, ⟨aeo _, fun b hb _ => hF.blocks b hb (xp b), hF.sub, fun b hb => (hF.new b hb).imp id (fun h => .inr (h.resolve_left (xp b))), fun b hb => .inr ((hF.own b hb).resolve_left (xp b)), hF.size, hF.os, hF.tape, hF.output,
   fun id g sz n e f hj => by simp at hj, fun id hj => by simp at hj, fun b k hb _ => absurd hb (adG _ b), fun id g sz n e f b base hj _ _ => by simp at hj, fun b _ _ _ hx _ => absurd hx va⟩⟩
def xJ : ak → Prop
 | .row _ _ n _ f => ∀ i, i < n → ∀ c ∈ f i, (ef c = false → p7 c = true) ∧ (ef c = true → OG (fun pv => p7 pv = true) c)
 | .dead => True
theorem OO.p {o : ak} (h : OO o) : xJ o := by
 cases o with
 | dead => trivial
 | row g sz n e f =>
  intro i hi c hc
  have := (aeb.1 (h i hi)) c hc
  exact ⟨fun _ => this, fun hx => by cases c <;> first | (cases hx; done) | (cases this; done)⟩
theorem ACall.snap {f : FuncId} {args jn : List PV} {R : PV → List ak → Prop} (hA : ACall P f jn [] R) (h : List ak) (hl : jn.length = args.length)
  (hz : ∀ (j : Nat) (pv fR : PV), args[j]? = some pv → jn[j]? = some fR → Fz h [] [] pv fR ∧ lK fR = true) (DW : ∀ r0 h0, R r0 h0 → DX r0 = true ∧ ∀ o ∈ h0, xJ o) :
  ACall P f args h (fun res h' => ∃ r0 h0, R r0 h0 ∧ res = oL h.length r0 ∧ h' = h ++ h0.map (fL h.length)) := by
 refine ⟨hA.1, fun w vs μ S hH hM jl ha => ?_⟩
 have hfz : p6 h [] [] 0 0 [] [] := trivial
 obtain ⟨tt, _, _⟩ := xW (m := 0) ⟨hH, hM⟩ hfz rfl
 refine (hA.2 w vs (mm μ h []) (D5 μ h [] S) tt.heap tt.ok ahw (fun j fR hj => ?_)).mono ?_
 ·have H7 : j < args.length := by rw [← hl]; exact (An.1 hj).1
  have rk := Is H7
  obtain ⟨v, h1, h2⟩ := ha j _ rk
  obtain ⟨z1, z2⟩ := hz j _ fR rk hj
  exact ⟨v, h1, (uD (m := 0) ⟨hH, hM⟩ hfz z1).2.1 v h2⟩
 ·rintro e w' ⟨v, r0, h0, μ0, S0, he, hR, hv, Qn, Ed, hF⟩
  obtain ⟨za, KN⟩ := DW r0 h0 hR
  have xp : ∀ b, ¬ cQ (mm μ h []) [] b := fun b => kx
  have hG : ∀ pv v, p7 pv = true → aV S0 w' pv v → aV S w' pv v := fun pv v hf hp => by
   cases hp with
   | int k n => exact .int k n
   | bool b => exact .bool b
   | str s => exact .str s
   | aq => exact .aq
   | fn f => exact .fn f
   | qj => cases hf
   | gz => cases hf
   | gf => cases hf
  obtain ⟨c1, c2, c3⟩ := Ec (S' := S) hH hM hF Qn Ed (fun pv => p7 pv = true) hG (fun id g sz n e f hid i hi c hc => KN _ (aef hid) i hi c hc) (fun _ hb => hb) (fun b hb => .inl hb) (fun b hb => aet (hM.slt b hb) hF.size)
   (fun b hb ho => by
    have h1 := (hF.own b ho).resolve_left (xp b)
    have h2 := hM.slt b hb
    omega)
  have mh : RM (fun pv => p7 pv = true) r0 := by
   cases r0 with
   | fu vs =>
    intro v hv
    have := (aeb.1 za) v hv
    cases v with
    | agg cs => exact fun c hc => (aeb.1 this) c hc
    | _ => exact this
   | agg cs => exact fun c hc => (aeb.1 za) c hc
   | _ => exact za
  exact ⟨v, _, _, _, S, he, ⟨r0, h0, hR, rfl, rfl⟩, Ct _ hG mh hv, c1, c2, c3⟩
end
def pZ (σ : Nat → Nat) : PV → PV
 | .own id gen off len => .own (σ id) gen off len
 | .aG id gen i off => .aG (σ id) gen i off
 | .lA id => .lA (σ id)
 | .oP f bX => .oP f (sY σ bX)
 | v => v
def B8 (σ : Nat → Nat) : PV → PV
 | .agg cs => .agg (cs.map (pZ σ))
 | v => pZ σ v
def Js (σ : Nat → Nat) : PV → PV
 | .fu vs => .fu (vs.map (B8 σ))
 | v => B8 σ v
def uy (σ : Nat → Nat) : ak → ak
 | .row g sz n e f => .row g sz n e (fun i => (f i).map (pZ σ))
 | .dead => .dead
theorem Ee {σ : Nat → Nat} {a : PV} (h : kE (pZ σ a) = true) : pZ σ a = a := by cases a <;> first | rfl | cases h
theorem Ef {σ : Nat → Nat} {a : PV} (h : kE a = true) : pZ σ a = a := by cases a <;> first | rfl | cases h
section
variable {P : Program} {T : pr} {μ μ0 μ1 : Mu} {h h0 h1 hc : List ak} {S S0 S1 : Nat → Prop} {w w' : World} {σ : Nat → Nat}
theorem Pt {pv : PV} {v : Value} (jq : ∀ j, (∃ g sz n e f, h0[j]? = some (ak.row g sz n e f) ∧ (∃ f', h1[σ j]? = some (ak.row g sz n e f')) ∧ μ1 (σ j) = μ0 j) ∨ (h0[j]? = some ak.dead ∧ h1[σ j]? = some ak.dead) ∨ h0[j]? = none)
  (hS : ∀ b, S0 b → S1 b) (hc : bZ μ0 h0 S0 w pv v) : bZ μ1 h1 S1 w (pZ σ pv) v := by
 have uJ : ∀ (id gen i off : Nat) (v : Value), cc μ0 h0 w id gen i off v → cc μ1 h1 w (σ id) gen i off v := fun id gen i off v hc => by
  unfold cc at hc ⊢
  obtain ⟨q1, q2⟩ := hc
  refine ⟨q1, ?_⟩
  rcases jq id with ⟨g, sz, n, e, f, r1, ⟨f', r2⟩, r3⟩ | ⟨r1, r2⟩ | r1
  ·rw [r1] at q2
   rw [r2]
   show gen ≤ g ∧ _
   rw [r3]
   exact q2
  ·rw [r2]; trivial
  ·rw [r1] at q2; exact q2.elim
 cases pv with
 | own id gen off len =>
  have hc : bL μ0 h0 w id gen off len v := hc
  show bL μ1 h1 w (σ id) gen off len v
  unfold bL at hc ⊢
  obtain ⟨q1, q2⟩ := hc
  refine ⟨q1, ?_⟩
  rcases jq id with ⟨g, sz, n, e, f, r1, ⟨f', r2⟩, r3⟩ | ⟨r1, r2⟩ | r1
  ·rw [r1] at q2
   rw [r2]
   show gen ≤ g ∧ _
   rw [r3]
   exact q2
  ·rw [r2]; trivial
  ·rw [r1] at q2; exact q2.elim
 | aG id gen i off => exact uJ _ _ _ _ _ hc
 | oP f bX => exact tH.map (O := fun id g u => cc μ1 h1 w id g 0 0 u) (tH.mono (show oJ μ0 h0 w f bX v from hc) (fun id g u hu => uJ id g 0 0 u hu))
 | lA id =>
  have hc : gJ μ0 h0 w id v := hc
  show gJ μ1 h1 w (σ id) v
  unfold gJ at hc ⊢
  obtain ⟨q1, q2⟩ := hc
  refine ⟨q1, ?_⟩
  rcases jq id with ⟨g, sz, n, e, f, r1, ⟨f', r2⟩, r3⟩ | ⟨r1, r2⟩ | r1
  ·rw [r1] at q2
   rw [r2]
   obtain ⟨b, base, x1, x2⟩ := q2
   exact ⟨b, base, r3.trans x1, x2⟩
  ·rw [r2]; trivial
  ·rw [r1] at q2; exact q2.elim
 | iZ => exact hc
 | bf sz n e f F => exact hc
 | agg cs => exact (show False from hc).elim
 | fu cs => exact (show False from hc).elim
 | int k n => exact aV.mono (fun _ _ => rfl) hS hc
 | bool b => exact aV.mono (fun _ _ => rfl) hS hc
 | str s => exact aV.mono (fun _ _ => rfl) hS hc
 | aq => exact aV.mono (fun _ _ => rfl) hS hc
 | gz sz n f => exact aV.mono (fun _ _ => rfl) hS hc
 | gf cs => exact aV.mono (fun _ _ => rfl) hS hc
 | fn f => exact aV.mono (fun _ _ => rfl) hS hc
theorem jc {pv : PV} {v : Value} (bw : ∀ pv v, bZ μ0 h0 S0 w pv v → bZ μ1 h1 S1 w (pZ σ pv) v) (hc : jX μ0 h0 S0 w pv v) : jX μ1 h1 S1 w (B8 σ pv) v := by
 cases pv with
 | agg cs =>
  obtain ⟨vs, q1, q2, q3⟩ := hc
  refine ⟨vs, q1, by simpa using q2, fun j pv hj => ?_⟩
  rw [aem] at hj
  cases hx : cs[j]? with
  | none => rw [hx] at hj; cases hj
  | some c =>
   rw [hx] at hj
   injection hj with hj
   subst hj
   obtain ⟨u, r1, r2⟩ := q3 j c hx
   exact ⟨u, r1, bw _ _ r2⟩
 | iZ => trivial
 | bf sz n e f F => exact bw (.bf sz n e f F) v hc
 | fu cs => exact (show False from hc).elim
 | own id gen off len => exact bw (.own id gen off len) v hc
 | aG id gen i off => exact bw (.aG id gen i off) v hc
 | lA id => exact bw (.lA id) v hc
 | oP f bX => exact bw (.oP f bX) v hc
 | int k n => exact bw (.int k n) v hc
 | bool b => exact bw (.bool b) v hc
 | str s => exact bw (.str s) v hc
 | aq => exact bw .aq v hc
 | gz sz n f => exact bw (.gz sz n f) v hc
 | gf cs => exact bw (.gf cs) v hc
 | fn f => exact bw (.fn f) v hc
theorem Pu {pv : PV} {v : Value} (bw : ∀ pv v, bZ μ0 h0 S0 w pv v → bZ μ1 h1 S1 w (pZ σ pv) v) (hc : bN μ0 h0 S0 w pv v) : bN μ1 h1 S1 w (Js σ pv) v := by
 cases pv with
 | fu cs =>
  obtain ⟨vs, q1, q2, q3⟩ := hc
  refine ⟨vs, q1, by simpa using q2, fun j pv hj => ?_⟩
  rw [aem] at hj
  cases hx : cs[j]? with
  | none => rw [hx] at hj; cases hj
  | some c =>
   rw [hx] at hj
   injection hj with hj
   subst hj
   obtain ⟨u, r1, r2⟩ := q3 j c hx
   exact ⟨u, r1, jc bw r2⟩
 | agg cs => exact jc (pv := .agg cs) bw hc
 | iZ => trivial
 | bf sz n e f F => exact jc (pv := .bf sz n e f F) bw hc
 | own id gen off len => exact jc (pv := .own id gen off len) bw hc
 | aG id gen i off => exact jc (pv := .aG id gen i off) bw hc
 | lA id => exact jc (pv := .lA id) bw hc
 | oP f bX => exact jc (pv := .oP f bX) bw hc
 | int k n => exact jc (pv := .int k n) bw hc
 | bool b => exact jc (pv := .bool b) bw hc
 | str s => exact jc (pv := .str s) bw hc
 | aq => exact jc (pv := .aq) bw hc
 | gz sz n f => exact jc (pv := .gz sz n f) bw hc
 | gf cs => exact jc (pv := .gf cs) bw hc
 | fn f => exact jc (pv := .fn f) bw hc
structure XK (σ : Nat → Nat) (m : Nat) (h : List ak) : Prop where
 lt : ∀ j, j < m → σ j < h.length
 new : ∀ j, m ≤ j → σ j = h.length + (j - m)
 inj : ∀ i j, i < m → j < m → σ i = σ j → i = j
theorem XK.adH {m : Nat} (hs : XK σ m h) {i j : Nat} (he : σ i = σ j) : i = j := by
 rcases aeE i m with hi | hi
 ·rcases aeE j m with hj | hj
  ·exact hs.inj i j hi hj he
  ·have := hs.lt i hi; have := hs.new j hj; omega
 ·rcases aeE j m with hj | hj
  ·have := hs.lt j hj; have := hs.new i hi; omega
  ·have := hs.new i hi; have := hs.new j hj; omega
structure Tl (σ : Nat → Nat) (h h0 h' : List ak) : Prop where
 CQ : ∀ id, (∀ j, j < h0.length → σ j ≠ id) → h'[id]? = h[id]?
 Qo : ∀ j o, h0[j]? = some o → h'[σ j]? = some (uy σ o)
 len : h.length ≤ h'.length
def Cu (μ : Mu) (σ : Nat → Nat) (m : Nat) : Mu := fun j => if j < m then μ (σ j) else none
open Classical in
noncomputable def Pv (μ : Mu) (σ : Nat → Nat) (m : Nat) (μ0 : Mu) : Mu := fun id => if hx : ∃ j, j < m ∧ σ j = id then μ0 (Classical.choose hx) else μ id
theorem RN {m : Nat} (Pw : ∀ i j, σ i = σ j → i = j) {j : Nat} (hj : j < m) : Pv μ σ m μ0 (σ j) = μ0 j := by
 have hx : ∃ i, i < m ∧ σ i = σ j := ⟨j, hj, rfl⟩
 unfold Pv
 rw [dif_pos hx, Pw _ _ (Classical.choose_spec hx).2]
theorem FU {m id : Nat} (hn : ∀ j, j < m → σ j ≠ id) : Pv μ σ m μ0 id = μ id := by
 unfold Pv
 rw [dif_neg]
 rintro ⟨j, h1, h2⟩
 exact hn j h1 h2
theorem gB (qp : XK σ hc.length h) (jq : ∀ j o, hc[j]? = some o → h[σ j]? = some (uy σ o)) {pv : PV} {v : Value} (hr : bZ μ h S w (pZ σ pv) v) : bZ (Cu μ σ hc.length) hc S w pv v := by
 have get : ∀ id, (∃ g sz n e f, hc[id]? = some (ak.row g sz n e f) ∧ h[σ id]? = some (uy σ (ak.row g sz n e f)) ∧ Cu μ σ hc.length id = μ (σ id)) ∨ (hc[id]? = some ak.dead ∧ h[σ id]? = some ak.dead) ∨ h[σ id]? = none := fun id => by
  cases ho : hc[id]? with
  | none =>
   refine .inr (.inr (aev ?_))
   have Ql : hc.length ≤ id := List.getElem?_eq_none_iff.1 ho
   have := qp.new id Ql
   omega
  | some o =>
   have bO := (An.1 ho).1
   cases o with
   | dead => exact .inr (.inl ⟨rfl, jq id _ ho⟩)
   | row g sz n e f => exact .inl ⟨g, sz, n, e, f, rfl, jq id _ ho, by unfold Cu; rw [if_pos bO]⟩
 have uJ : ∀ (id gen i off : Nat) (v : Value), cc μ h w (σ id) gen i off v → cc (Cu μ σ hc.length) hc w id gen i off v := fun id gen i off v hr => by
  unfold cc at hr ⊢
  obtain ⟨q1, q2⟩ := hr
  refine ⟨q1, ?_⟩
  rcases get id with ⟨g, sz, n, e, f, r1, r2, r3⟩ | ⟨r1, r2⟩ | r1
  ·rw [r2] at q2
   rw [r1]
   show gen ≤ g ∧ _
   rw [r3]
   exact q2
  ·rw [r1]; trivial
  ·rw [r1] at q2; exact q2.elim
 cases pv with
 | own id gen off len =>
  have hr : bL μ h w (σ id) gen off len v := hr
  show bL _ hc w id gen off len v
  unfold bL at hr ⊢
  obtain ⟨q1, q2⟩ := hr
  refine ⟨q1, ?_⟩
  rcases get id with ⟨g, sz, n, e, f, r1, r2, r3⟩ | ⟨r1, r2⟩ | r1
  ·rw [r2] at q2
   rw [r1]
   show gen ≤ g ∧ _
   rw [r3]
   exact q2
  ·rw [r1]; trivial
  ·rw [r1] at q2; exact q2.elim
 | aG id gen i off => exact uJ _ _ _ _ _ hr
 | oP f bX => exact tH.mono (tH.aaE (show oJ μ h w f (sY σ bX) v from hr)) (fun id g u hu => uJ _ _ _ _ _ hu)
 | lA id =>
  have hr : gJ μ h w (σ id) v := hr
  show gJ _ hc w id v
  unfold gJ at hr ⊢
  obtain ⟨q1, q2⟩ := hr
  refine ⟨q1, ?_⟩
  rcases get id with ⟨g, sz, n, e, f, r1, r2, r3⟩ | ⟨r1, r2⟩ | r1
  ·rw [r2] at q2
   rw [r1]
   obtain ⟨b, base, x1, x2⟩ := q2
   exact ⟨b, base, r3.trans x1, x2⟩
  ·rw [r1]; trivial
  ·rw [r1] at q2; exact q2.elim
 | iZ => exact hr
 | bf sz n e f F => exact hr
 | agg cs => exact (show False from hr).elim
 | fu cs => exact (show False from hr).elim
 | int k n => exact hr
 | bool b => exact hr
 | str s => exact hr
 | aq => exact hr
 | gz sz n f => exact hr
 | gf cs => exact hr
 | fn f => exact hr
theorem LV (qp : XK σ hc.length h) (jq : ∀ j o, hc[j]? = some o → h[σ j]? = some (uy σ o)) {pv : PV} {v : Value} (hr : jX μ h S w (B8 σ pv) v) : jX (Cu μ σ hc.length) hc S w pv v := by
 cases pv with
 | agg cs =>
  obtain ⟨vs, q1, q2, q3⟩ := hr
  refine ⟨vs, q1, by simpa using q2, fun j pv hj => ?_⟩
  obtain ⟨u, r1, r2⟩ := q3 j (pZ σ pv) (by rw [aem, hj]; rfl)
  exact ⟨u, r1, gB qp jq r2⟩
 | iZ => trivial
 | bf sz n e f F => exact gB (μ := μ) (S := S) (w := w) (pv := .bf sz n e f F) qp jq hr
 | fu cs => exact (show False from hr).elim
 | own id gen off len => exact gB (μ := μ) (S := S) (w := w) (pv := .own id gen off len) qp jq hr
 | aG id gen i off => exact gB (μ := μ) (S := S) (w := w) (pv := .aG id gen i off) qp jq hr
 | lA id => exact gB (μ := μ) (S := S) (w := w) (pv := .lA id) qp jq hr
 | oP f bX => exact gB (μ := μ) (S := S) (w := w) (pv := .oP f bX) qp jq hr
 | int k n => exact gB (μ := μ) (S := S) (w := w) (pv := .int k n) qp jq hr
 | bool b => exact gB (μ := μ) (S := S) (w := w) (pv := .bool b) qp jq hr
 | str s => exact gB (μ := μ) (S := S) (w := w) (pv := .str s) qp jq hr
 | aq => exact gB (μ := μ) (S := S) (w := w) (pv := .aq) qp jq hr
 | gz sz n f => exact gB (μ := μ) (S := S) (w := w) (pv := .gz sz n f) qp jq hr
 | gf cs => exact gB (μ := μ) (S := S) (w := w) (pv := .gf cs) qp jq hr
 | fn f => exact gB (μ := μ) (S := S) (w := w) (pv := .fn f) qp jq hr
theorem Px {c : PV} {sz n : Nat} {e : TypeId} {f : Nat → List PV} {F : Nat → Prop} (hc : pZ σ c = .bf sz n e f F) : c = .bf sz n e f F := by cases c <;> first | exact hc | cases hc
theorem RO {c : PV} (h : ef c = false) : ef (pZ σ c) = false := by cases c <;> first | rfl | cases h
theorem ACall.Qo {f : FuncId} {args ot : List PV} {R : PV → List ak → Prop} (hA : ACall P f args hc R) (h : List ak) (qp : XK σ hc.length h) (jq : ∀ j o, hc[j]? = some o → h[σ j]? = some (uy σ o))
  (qG : ot = args.map (B8 σ)) (nxt : List ak → List ak) (adI : ∀ h0, hc.length ≤ h0.length → Tl σ h h0 (nxt h0)) :
  ACall P f ot h (fun res h' => ∃ r0 h0, R r0 h0 ∧ res = Js σ r0 ∧ h' = nxt h0) := by
 refine ⟨hA.1, fun w vs μ S hH hM jl ha => ?_⟩
 subst qG
 have Pw : ∀ i j, σ i = σ j → i = j := fun i j => qp.adH
 have RP : ∀ b, CP (Cu μ σ hc.length) hc b → CP μ h b := fun b ⟨j, g, sz, n, e, f, base, q1, q2⟩ => by
  have bO := (An.1 q1).1
  unfold Cu at q2
  rw [if_pos bO] at q2
  exact ⟨σ j, g, sz, n, e, _, base, jq j _ q1, q2⟩
 have LW : ∀ j x y b, eg hc j x y b → eg h (σ j) x y b := fun j x y b ⟨g, sz, n, e, f, cf, n', e', f', F', q1, q2, q3, q4⟩ => ⟨g, sz, n, e, _, cf, n', e', f', F', jq j _ q1, q2, by
  show ((f x).map (pZ σ))[y]? = _
  rw [aem, q3]; rfl, q4⟩
 have Py : ∀ b, cQ (Cu μ σ hc.length) hc b → cQ μ h b ∧ True := fun b hb => by
  rcases hb with hb | ⟨x, y, z, hb⟩
  ·exact ⟨.inl (RP b hb), trivial⟩
  ·exact ⟨.inr ⟨_, _, _, LW _ _ _ _ hb⟩, trivial⟩
 have hHc : cH (Cu μ σ hc.length) hc S w := fun j g sz n e f hj => by
  have bO := (An.1 hj).1
  obtain ⟨q1, q2⟩ := hH (σ j) _ _ _ _ _ (jq j _ hj)
  refine ⟨fun i hi => by simpa using q1 i hi, ?_⟩
  have hm : Cu μ σ hc.length j = μ (σ j) := by unfold Cu; rw [if_pos bO]
  rw [hm]
  cases iL : μ (σ j) with
  | none => rw [iL] at q2; exact q2
  | some p =>
   obtain ⟨b, base⟩ := p
   rw [iL] at q2
   obtain ⟨o, r1, r2⟩ := q2
   refine ⟨o, r1, ?_⟩
   cases o with
   | cells cur e' z =>
    obtain ⟨x1, x2, x3, r3⟩ := r2
    refine ⟨x1, x2, x3, fun i k pv hi hk => ?_⟩
    obtain ⟨u, s1, s2⟩ := r3 i k (pZ σ pv) hi (by rw [aem, hk]; rfl)
    refine ⟨u, s1, ?_⟩
    cases hx : ef pv with
    | false => exact (gB qp jq s2.c).k hx
    | true =>
     cases pv with
     | bf qI n2 e2 f2 F2 => exact s2
     | _ => cases hx
   | map es c =>
    obtain ⟨x1, r3⟩ := r2
    refine ⟨x1, fun i hi => ?_⟩
    obtain ⟨kp, vp, en, y1, y2, y3, y4⟩ := r3 i hi
    refine ⟨kp, vp, en, ?_, y2, y3, y4⟩
    have y1 : (f i).map (pZ σ) = [kp, vp] := y1
    generalize f i = l at y1
    rcases l with _ | ⟨a, _ | ⟨b, _ | ⟨c3, l3⟩⟩⟩ <;> simp at y1
    obtain ⟨rfl, rfl⟩ := y1
    rw [Ee y2, Ee y3]
   | _ => exact r2.elim
 have hMc : tG (Cu μ σ hc.length) hc S w := ⟨fun b hb => hM.apart b (Py b hb).1, fun b hb => hM.lt b (Py b hb).1, hM.slt, fun i j gi Qm ni ei fi gj pU nj ej fj b o o' hi hj qm pg => by
  have hli := (An.1 hi).1
  have S9 := (An.1 hj).1
  unfold Cu at qm pg
  rw [if_pos hli] at qm
  rw [if_pos S9] at pg
  exact Pw _ _ (hM.inj _ _ _ _ _ _ _ _ _ _ _ _ _ _ _ (jq i _ hi) (jq j _ hj) qm pg), hM.known, fun b hb x y z hx => hM.hv b (RP b hb) _ _ _ (LW _ _ _ _ hx), fun b x y z x' y' z' hx wA => by
  obtain ⟨e1, e2, e3⟩ := hM.hh b _ _ _ _ _ _ (LW _ _ _ _ hx) (LW _ _ _ _ wA)
  exact ⟨Pw _ _ e1, e2, e3⟩⟩
 refine (hA.2 w vs _ S hHc hMc aie (fun j pv hj => ?_)).mono ?_
 ·obtain ⟨v, q1, q2⟩ := ha j (B8 σ pv) (by rw [aem, hj]; rfl)
  exact ⟨v, q1, LV qp jq q2⟩
 ·rintro e w' ⟨v, r0, h0, μ0, S0, he, hR, hv, Qn, Ed, hF⟩
  have hlen : hc.length ≤ h0.length := hF.len
  have LX := adI h0 hlen
  obtain ⟨h', hh'⟩ : ∃ h', h' = nxt h0 := ⟨_, rfl⟩
  rw [← hh'] at LX
  have hmA : ∀ j, j < h0.length → Pv μ σ h0.length μ0 (σ j) = μ0 j := fun j hj => RN Pw hj
  have inv : ∀ id o, h'[id]? = some o → (∃ j o0, σ j = id ∧ h0[j]? = some o0 ∧ o = uy σ o0 ∧ Pv μ σ h0.length μ0 id = μ0 j) ∨ ((∀ j, j < h0.length → σ j ≠ id) ∧ h[id]? = some o ∧ Pv μ σ h0.length μ0 id = μ id) := fun id o hid => by
   by_cases hx : ∃ j, j < h0.length ∧ σ j = id
   ·obtain ⟨j, hj, rfl⟩ := hx
    have := LX.Qo j _ (Is hj)
    rw [this] at hid
    injection hid with hid
    exact .inl ⟨j, _, rfl, Is hj, hid.symm, hmA j hj⟩
   ·have hn : ∀ j, j < h0.length → σ j ≠ id := fun j hj he => hx ⟨j, hj, he⟩
    rw [LX.CQ id hn] at hid
    exact .inr ⟨hn, hid, FU hn⟩
  have apart : ∀ id g sz n e f b base, (∀ j, j < h0.length → σ j ≠ id) → h[id]? = some (ak.row g sz n e f) → μ id = some (b, base) → ¬ cQ (Cu μ σ hc.length) hc b := fun id g sz n e f b base hn hid hm B2 => by
   rcases B2 with ⟨j, gj, pU, nj, ej, fj, bj, q1, q2⟩ | ⟨x, y, z, hx⟩
   rotate_left
   ·exact hM.hv b ⟨id, g, sz, n, e, f, base, hid, hm⟩ _ _ _ (LW _ _ _ _ hx)
   have bO := (An.1 q1).1
   unfold Cu at q2
   rw [if_pos bO] at q2
   exact hn j ahw (hM.inj _ _ _ _ _ _ _ _ _ _ _ _ _ _ _ (jq j _ q1) hid q2 hm)
  have Cv : ∀ id x y b, (∀ j, j < h0.length → σ j ≠ id) → eg h id x y b → ¬ cQ (Cu μ σ hc.length) hc b := fun id x y b hn hx B2 => by
   rcases B2 with B2 | ⟨j, x', y', wA⟩
   ·exact hM.hv b (RP b B2) _ _ _ hx
   ·obtain ⟨e1, _, _⟩ := hM.hh b _ _ _ _ _ _ (LW _ _ _ _ wA) hx
    obtain ⟨_, _, _, _, _, _, _, _, _, _, q1, _⟩ := wA
    have := (An.1 q1).1
    exact hn j ahw e1
  have Tm : ∀ b, CP (Pv μ σ h0.length μ0) h' b → CP μ0 h0 b ∨ ∃ id g sz n e f base, (∀ j, j < h0.length → σ j ≠ id) ∧ h[id]? = some (ak.row g sz n e f) ∧ μ id = some (b, base) := fun b ⟨id, g, sz, n, e, f, base, q1, q2⟩ => by
   rcases inv id _ q1 with ⟨j, o0, rfl, r1, r2, r3⟩ | ⟨r1, r2, r3⟩
   ·rw [r3] at q2
    cases o0 with
    | dead => cases r2
    | row g0 RC n0 e0 f0 => exact .inl ⟨j, g0, RC, n0, e0, f0, base, r1, q2⟩
   ·rw [r3] at q2
    exact .inr ⟨id, g, sz, n, e, f, base, r1, r2, q2⟩
  have Eg : ∀ id x y b, eg h' id x y b → (∃ j, σ j = id ∧ eg h0 j x y b) ∨ ((∀ j, j < h0.length → σ j ≠ id) ∧ eg h id x y b) := fun id x y b ⟨g, sz, n, e, f, cf, n', e', f', F', q1, q2, q3, q4⟩ => by
   rcases inv id _ q1 with ⟨j, o0, rfl, r1, r2, r3⟩ | ⟨r1, r2, r3⟩
   ·cases o0 with
    | dead => cases r2
    | row g0 RC n0 e0 f0 =>
     injection r2 with e1 e2 e3 e4 e5
     subst e1 e2 e3 e4 e5
     rw [aem] at q3
     cases hx : (f0 x)[y]? with
     | none => rw [hx] at q3; cases q3
     | some c =>
      rw [hx] at q3
      injection q3 with q3
      rw [Px q3] at hx
      exact .inl ⟨j, rfl, _, _, _, _, _, _, _, _, _, _, r1, q2, hx, q4⟩
   ·exact .inr ⟨r1, _, _, _, _, _, _, _, _, _, _, r2, q2, q3, q4⟩
  have nh : ∀ b, cQ (Pv μ σ h0.length μ0) h' b → cQ μ0 h0 b ∨ (cQ μ h b ∧ ¬ cQ (Cu μ σ hc.length) hc b) := fun b hb => by
   rcases hb with hb | ⟨x, y, z, hb⟩
   ·rcases Tm b hb with q | ⟨id, g, sz, n, e, f, base, q1, q2, q3⟩
    ·exact .inl (.inl q)
    ·exact .inr ⟨.inl ⟨id, g, sz, n, e, f, base, q2, q3⟩, apart id _ _ _ _ _ _ _ q1 q2 q3⟩
   ·rcases Eg x y z b hb with ⟨j, _, q⟩ | ⟨q1, q2⟩
    ·exact .inl (.inr ⟨_, _, _, q⟩)
    ·exact .inr ⟨.inr ⟨_, _, _, q2⟩, Cv _ _ _ _ q1 q2⟩
  have mixed : ∀ b, cQ μ0 h0 b → cQ μ h b → ¬ cQ (Cu μ σ hc.length) hc b → False := fun b q1 q2 q3 => by
   rcases hF.own b q1 with r | r
   ·exact q3 r
   ·have := hM.lt b q2; omega
  have lW : Fr μ h S w (Pv μ σ h0.length μ0) h' S0 w' := by
   refine ⟨LX.len, fun b hb xp => hF.blocks b hb (fun ho => xp (Py b ho).1), hF.sub, fun b hb => ?_, fun b hb => ?_, hF.size, hF.os, hF.tape, hF.output, fun id g sz n e f hid => ?_, fun id hid => ?_, fun b k hb iY => ?_, fun id g sz n e f b base hid hm oC => ?_, fun b id x y hx oC => ?_⟩
   rotate_right
   ·by_cases ho : cQ (Cu μ σ hc.length) hc b
    ·rcases ho with ho | ⟨j, x', y', ho⟩
     ·exact absurd hx (hM.hv b (RP b ho) _ _ _)
     ·exact hF.vO b j x' y' ho oC
    ·obtain ⟨es, c, q⟩ := oC
     exact ⟨es, c, (hF.blocks b (adZ.1 q).1 ho).trans q⟩
   ·rcases hF.new b hb with q | q | q
    ·exact .inl q
    ·exact .inr (.inl (Py b q).1)
    ·exact .inr (.inr q)
   ·rcases nh b hb with q | ⟨q, _⟩
    ·rcases hF.own b q with r | r
     ·exact .inl (Py b r).1
     ·exact .inr r
    ·exact .inl q
   ·by_cases hx : ∃ j, j < hc.length ∧ σ j = id
    ·obtain ⟨j, hj, rfl⟩ := hx
     have rk : j < h0.length := by omega
     have LD := Is hj
     have B2 := jq j _ LD
     rw [B2] at hid
     cases hoc : hc[j] with
     | dead => rw [hoc] at hid; cases hid
     | row gc szc nc ec fc =>
      rw [hoc] at hid LD
      injection hid with hid
      injection hid with e1 e2 e3 e4 e5
      subst e1 e2 e3 e4
      have hg := hF.B4 j _ _ _ _ _ LD
      have hs := LX.Qo j _ (Is rk)
      rw [Is rk] at hg
      rw [hs]
      cases ho0 : h0[j] with
      | dead => trivial
      | row g' cf n' e' f' =>
       rw [ho0] at hg
       refine ⟨hg.1, fun Ql => ?_⟩
       obtain ⟨a1, a2, a3, a4⟩ := hg.2 Ql
       refine ⟨?_, a2, a3, a4⟩
       rw [hmA j rk, a1]
       unfold Cu
       rw [if_pos hj]
    ·have hn : ∀ j, j < h0.length → σ j ≠ id := fun j hj he => by
      rcases aeE j hc.length with h1 | h1
      ·exact hx ⟨j, h1, he⟩
      ·have := qp.new j h1
       have := (An.1 hid).1
       omega
     rw [LX.CQ id hn, hid]
     exact ⟨adV _, fun _ => ⟨FU hn, rfl, rfl, rfl⟩⟩
   ·by_cases hx : ∃ j, j < hc.length ∧ σ j = id
    ·obtain ⟨j, hj, rfl⟩ := hx
     have rk : j < h0.length := by omega
     have LD := Is hj
     have B2 := jq j _ LD
     rw [B2] at hid
     cases hoc : hc[j] with
     | row gc szc nc ec fc => rw [hoc] at hid; cases hid
     | dead =>
      rw [hoc] at LD
      have hd := hF.dead j LD
      exact LX.Qo j _ hd
    ·have hn : ∀ j, j < h0.length → σ j ≠ id := fun j hj he => by
      rcases aeE j hc.length with h1 | h1
      ·exact hx ⟨j, h1, he⟩
      ·have := qp.new j h1
       have := (An.1 hid).1
       omega
     rw [LX.CQ id hn, hid]
   ·by_cases ho : cQ (Cu μ σ hc.length) hc b
    ·exact hF.bX b k ho iY
    ·exact lj.of_same (hF.blocks b iY.lt ho) iY
   ·by_cases hx : ∃ j, j < hc.length ∧ σ j = id
    ·obtain ⟨j, hj, rfl⟩ := hx
     have rk : j < h0.length := by omega
     have LD := Is hj
     have B2 := jq j _ LD
     rw [B2] at hid
     cases hoc : hc[j] with
     | dead => rw [hoc] at hid; cases hid
     | row gc szc nc ec fc =>
      rw [hoc] at hid LD
      have hmc : Cu μ σ hc.length j = some (b, base) := by unfold Cu; rw [if_pos hj]; exact hm
      obtain ⟨r1, r2⟩ := hF.maps j _ _ _ _ _ b base LD hmc oC
      refine ⟨r1, ?_⟩
      rcases r2 with r2 | ⟨⟨g', cf, n', e', f', r2⟩, r3⟩
      ·exact .inl (LX.Qo j _ r2)
      ·exact .inr ⟨⟨_, _, _, _, _, LX.Qo j _ r2⟩, (hmA j rk).trans r3⟩
    ·have hn : ∀ j, j < h0.length → σ j ≠ id := fun j hj he => by
      rcases aeE j hc.length with h1 | h1
      ·exact hx ⟨j, h1, he⟩
      ·have := qp.new j h1
       have := (An.1 hid).1
       omega
     obtain ⟨es, c, q⟩ := oC
     exact ⟨⟨es, c, (hF.blocks b (adZ.1 q).1 (apart id _ _ _ _ _ _ _ hn hid hm)).trans q⟩, .inr ⟨⟨_, _, _, _, _, (LX.CQ id hn).trans hid⟩, (FU hn).trans hm⟩⟩
  have bw : ∀ pv v, bZ μ0 h0 S0 w' pv v → bZ (Pv μ σ h0.length μ0) h' S0 w' (pZ σ pv) v := fun pv v hcr => by
   refine Pt (fun j => ?_) (fun _ hb => hb) hcr
   cases ho : h0[j]? with
   | none => exact .inr (.inr rfl)
   | some o =>
    have bO := (An.1 ho).1
    cases o with
    | dead => exact .inr (.inl ⟨rfl, LX.Qo j _ ho⟩)
    | row g sz n e f => exact .inl ⟨g, sz, n, e, f, rfl, ⟨_, LX.Qo j _ ho⟩, hmA j bO⟩
  refine ⟨v, _, h', _, S0, he, ⟨r0, h0, hR, rfl, ?_⟩, Pu bw hv, fun id g sz n e f hid => ?_, ⟨fun b hb hs => ?_, fun b hb => ?_, Ed.slt, ?_, Ed.known, fun b hb id x y hx => ?_, fun b id x y id' x' y' hx wA => ?_⟩, lW⟩
  rotate_right 2
  ·rcases Tm b hb with q | ⟨k, g, sz, n, e, f, base, q1, q2, q3⟩
   ·rcases Eg id x y b hx with ⟨j, _, r⟩ | ⟨r1, r2⟩
    ·exact Ed.hv b q _ _ _ r
    ·exact mixed b (.inl q) (.inr ⟨_, _, _, r2⟩) (Cv _ _ _ _ r1 r2)
   ·rcases Eg id x y b hx with ⟨j, _, r⟩ | ⟨r1, r2⟩
    ·exact mixed b (.inr ⟨_, _, _, r⟩) (.inl ⟨k, g, sz, n, e, f, base, q2, q3⟩) (apart k _ _ _ _ _ _ _ q1 q2 q3)
    ·exact hM.hv b ⟨k, g, sz, n, e, f, base, q2, q3⟩ _ _ _ r2
  ·rcases Eg id x y b hx with ⟨j, rfl, r⟩ | ⟨r1, r2⟩
   ·rcases Eg id' x' y' b wA with ⟨j', rfl, t⟩ | ⟨t1, t2⟩
    ·obtain ⟨e1, e2, e3⟩ := Ed.hh b _ _ _ _ _ _ r t
     exact ⟨by rw [e1], e2, e3⟩
    ·exact (mixed b (.inr ⟨_, _, _, r⟩) (.inr ⟨_, _, _, t2⟩) (Cv _ _ _ _ t1 t2)).elim
   ·rcases Eg id' x' y' b wA with ⟨j', rfl, t⟩ | ⟨t1, t2⟩
    ·exact (mixed b (.inr ⟨_, _, _, t⟩) (.inr ⟨_, _, _, r2⟩) (Cv _ _ _ _ r1 r2)).elim
    ·exact hM.hh b _ _ _ _ _ _ r2 t2
  ·exact hh'
  ·rcases inv id _ hid with ⟨j, o0, rfl, r1, r2, r3⟩ | ⟨r1, r2, r3⟩
   ·cases o0 with
    | dead => cases r2
    | row g0 RC n0 e0 f0 =>
     injection r2 with e1 e2 e3 e4 e5
     subst e1 e2 e3 e4 e5
     obtain ⟨q1, q2⟩ := Qn j _ _ _ _ _ r1
     refine ⟨fun i hi => by simpa using q1 i hi, ?_⟩
     rw [r3]
     cases iL : μ0 j with
     | none => rw [iL] at q2; exact q2
     | some p =>
      obtain ⟨b, base⟩ := p
      rw [iL] at q2
      obtain ⟨o, s1, s2⟩ := q2
      refine ⟨o, s1, ?_⟩
      cases o with
      | cells cur e' z =>
       obtain ⟨x1, x2, x3, s3⟩ := s2
       refine ⟨x1, x2, x3, fun i k pv hi hk => ?_⟩
       rw [aem] at hk
       cases hx : (f0 i)[k]? with
       | none => rw [hx] at hk; cases hk
       | some c =>
        rw [hx] at hk
        injection hk with hk
        subst hk
        obtain ⟨u, t1, t2⟩ := s3 i k c hi hx
        refine ⟨u, t1, ?_⟩
        cases hxo : ef c with
        | false => exact (bw _ _ t2.c).k (RO hxo)
        | true =>
         cases c with
         | bf qI n2 e2 f2 F2 => exact t2
         | _ => cases hxo
      | map es c =>
       obtain ⟨x1, s3⟩ := s2
       refine ⟨x1, fun i hi => ?_⟩
       obtain ⟨kp, vp, en, y1, y2, y3, y4⟩ := s3 i hi
       exact ⟨kp, vp, en, by show (f0 i).map (pZ σ) = _; rw [y1]; show [pZ σ kp, pZ σ vp] = _; rw [Ef y2, Ef y3], y2, y3, y4⟩
      | _ => exact s2.elim
   ·obtain ⟨q1, q2⟩ := hH id _ _ _ _ _ r2
    refine ⟨q1, ?_⟩
    rw [r3]
    cases iL : μ id with
    | none => rw [iL] at q2; exact q2
    | some p =>
     obtain ⟨b, base⟩ := p
     rw [iL] at q2
     obtain ⟨o, s1, s2⟩ := q2
     have bO : b < w.heap.size := (adZ.1 s1).1
     exact ⟨o, (hF.blocks b bO (apart id _ _ _ _ _ _ _ r1 r2 iL)).trans s1, s2.mono (fun i y pv v hi hy hr => hr.fr lW hM (fun cf n' e' f' F' he b2 jo => by
      have hx : eg h id i y b2 := ⟨_, _, _, _, _, _, _, _, _, _, r2, hi, he ▸ hy, jo⟩
      exact hF.blocks b2 (hM.lt b2 (.inr ⟨_, _, _, hx⟩)) (Cv _ _ _ _ r1 hx)))⟩
  ·rcases nh b hb with q | ⟨q1, q2⟩
   ·exact Ed.apart b q hs
   ·rcases hF.new b hs with r | r | r
    ·exact hM.apart b q1 r
    ·exact q2 r
    ·have := hM.lt b q1; omega
  ·rcases nh b hb with q | ⟨q1, _⟩
   ·exact Ed.lt b q
   ·exact aet (hM.lt b q1) hF.size
  ·intro i j gi Qm ni ei fi gj pU nj ej fj b o o' hi hj qm pg
   have Tn : ∀ (i' : Nat) (o1 : ak) (g sz n : Nat) (e : TypeId) (f : Nat → List PV) (oo : Nat) (id g2 qI n2 : Nat) (e2 : TypeId) (f2 : Nat → List PV) (oo2 : Nat), h0[i']? = some (ak.row g sz n e f) → μ0 i' = some (b, oo) → (∀ j, j < h0.length → σ j ≠ id) → h[id]? = some (ak.row g2 qI n2 e2 f2) → μ id = some (b, oo2) → False :=
    fun i' o1 g sz n e f oo id g2 qI n2 e2 f2 oo2 a1 a2 a3 a4 a5 => by
     exact mixed b (.inl ⟨i', g, sz, n, e, f, oo, a1, a2⟩) (.inl ⟨id, g2, qI, n2, e2, f2, oo2, a4, a5⟩) (apart id _ _ _ _ _ _ _ a3 a4 a5)
   rcases inv i _ hi with ⟨i0, oi, rfl, r1, r2, r3⟩ | ⟨r1, r2, r3⟩
   ·rw [r3] at qm
    cases oi with
    | dead => cases r2
    | row g0 RC n0 e0 f0 =>
     rcases inv j _ hj with ⟨j0, oj, rfl, t1, t2, t3⟩ | ⟨t1, t2, t3⟩
     ·rw [t3] at pg
      cases oj with
      | dead => cases t2
      | row g2 qI n2 e2 f2 => rw [Ed.inj i0 j0 _ _ _ _ _ _ _ _ _ _ _ _ _ r1 t1 qm pg]
     ·rw [t3] at pg
      exact (Tn i0 ak.dead _ _ _ _ _ _ _ _ _ _ _ _ _ r1 qm t1 t2 pg).elim
   ·rw [r3] at qm
    rcases inv j _ hj with ⟨j0, oj, rfl, t1, t2, t3⟩ | ⟨t1, t2, t3⟩
    ·rw [t3] at pg
     cases oj with
     | dead => cases t2
     | row g2 qI n2 e2 f2 => exact (Tn j0 ak.dead _ _ _ _ _ _ _ _ _ _ _ _ _ t1 pg r1 r2 qm).elim
    ·rw [t3] at pg
     exact hM.inj i j _ _ _ _ _ _ _ _ _ _ _ _ _ r2 t2 qm pg
def iA (is : List Nat) (N : Nat) (j : Nat) : Nat := match is[j]? with
 | some id => id
 | none => N + (j - is.length)
def eM (h : List ak) : List Nat → List ak → List ak
 | id :: r, o :: l => eM (h.set id o) r l
 | _, _ => h
def lN (h : List ak) (is : List Nat) (h0 : List ak) : List ak :=
 eM h is (h0.map (uy (iA is h.length))) ++ (h0.drop is.length).map (uy (iA is h.length))
theorem gZ : ∀ (is : List Nat) (l h : List ak), (eM h is l).length = h.length
 | [], [], _ => rfl
 | [], _ :: _, _ => rfl
 | _ :: _, [], _ => rfl
 | id :: r, o :: l, h => by simp only [eM]; rw [gZ r l]; simp
theorem wP : ∀ (is : List Nat) (l h : List ak) (id : Nat), id ∉ is → (eM h is l)[id]? = h[id]?
 | [], [], _, _, _ => rfl
 | [], _ :: _, _, _, _ => rfl
 | _ :: _, [], _, _, _ => rfl
 | i :: r, o :: l, h, id, hn => by
  simp only [aed, not_or] at hn
  simp only [eM]
  rw [wP r l _ id hn.2, aeF (aff hn.1)]
theorem Cw : ∀ (is : List Nat) (l h : List ak) (j id : Nat) (o : ak), is.Nodup → is[j]? = some id → l[j]? = some o → id < h.length → (eM h is l)[id]? = some o
 | [], _, _, _, _, _, _, h1, _, _ => by simp at h1
 | _ :: _, [], _, _, _, _, _, _, h2, _ => by simp at h2
 | i :: r, o' :: l, h, j, id, o, hd, h1, h2, bO => by
  simp only [List.nodup_cons] at hd
  simp only [eM]
  cases j with
  | zero =>
   simp at h1 h2
   subst h1 h2
   rw [wP r l _ _ hd.1]
   simp [bO]
  | succ j =>
   exact Cw r l _ j id o hd.2 ahW ahO (by simpa using bO)
theorem WI (is : List Nat) (h : List ak) (hd : is.Nodup) (bO : ∀ id ∈ is, id < h.length) : XK (iA is h.length) is.length h where
 lt j hj := by
  unfold iA
  rw [Is hj]
  exact bO _ (aee hj)
 new j hj := by
  unfold iA
  rw [aev hj]
 inj i j hi hj he := by
  unfold iA at he
  rw [Is hi, Is hj] at he
  exact (List.getElem_inj hd).1 he
theorem Pz (is : List Nat) (h h0 : List ak) (hd : is.Nodup) (bO : ∀ id ∈ is, id < h.length) (hle : is.length ≤ h0.length) : Tl (iA is h.length) h h0 (lN h is h0) where
 len := by unfold lN; rw [No, gZ]; omega
 CQ id hn := by
  unfold lN
  rcases aeE id h.length with h1 | h1
  ·rw [aew (by rw [gZ]; exact h1), wP]
   intro hm
   obtain ⟨j, hj, rfl⟩ := aeM.1 hm
   refine hn j ahw ?_
   unfold iA
   rw [Is hj]
  ·rw [aen (by rw [gZ]; exact h1), gZ, aev h1, aev]
   simp only [afs, aez]
   rcases aeE (id - h.length) (h0.length - is.length) with h2 | h2
   ·refine (hn (is.length + (id - h.length)) ahw ?_).elim
    unfold iA
    rw [aev ahw]
    simp
    omega
   ·exact h2
 Qo j o hj := by
  have rk := (An.1 hj).1
  unfold lN
  rcases aeE j is.length with h1 | h1
  ·have hs : iA is h.length j = is[j] := by unfold iA; rw [Is h1]
   have hl := bO _ (aee h1)
   rw [hs, aew (by rw [gZ]; exact hl)]
   exact Cw is _ h j _ _ hd (Is h1) (by rw [aem, hj]; rfl) hl
  ·have hs : iA is h.length j = h.length + (j - is.length) := by unfold iA; rw [aev h1]
   rw [hs, aen (by rw [gZ]; omega), gZ, aem, aeV]
   rw [show is.length + (h.length + (j - is.length) - h.length) = j from by omega, hj]
   rfl
theorem ACall.over {f : FuncId} {args ot : List PV} {R : PV → List ak → Prop} (hA : ACall P f args hc R) (is : List Nat) (h : List ak) (hl : hc.length = is.length) (hd : is.Nodup) (bO : ∀ id ∈ is, id < h.length)
  (jq : ∀ j o, hc[j]? = some o → h[iA is h.length j]? = some (uy (iA is h.length) o)) (qG : ot = args.map (B8 (iA is h.length))) :
  ACall P f ot h (fun res h' => ∃ r0 h0, R r0 h0 ∧ res = Js (iA is h.length) r0 ∧ h' = lN h is h0) :=
 hA.Qo h (by rw [hl]; exact WI is h hd bO) jq qG (lN h is) (fun h0 hle => Pz is h h0 hd bO ahw)
end
end Go.Am
