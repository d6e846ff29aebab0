/- Texts of the proof, joined and shortened. -/
import Derived.Test.YtiigfbapjeefbaaGreatDoorPk2
set_option linter.unusedVariables false
set_option linter.unusedSimpArgs false
namespace Go.Am
open Go Go.RowKit
section
variable {P : Program} {T : lO} {μ : Mu} {h η : List ar} {k : List Nat} {S : Nat → Prop} {w : World} {C : Start} {env : Env} {a : Act}
theorem kM.agree (hs : kM C μ h S env a w) {w' : World} (ha : bK w w') : kM C μ h S env a w' :=
 ⟨⟨hs.core.heap.agree ha hs.core.ok, hs.core.ok.agree ha⟩, hs.fr.trans (Fr.sh ha), fun t => (hs.tmps t).fr (Fr.sh ha) hs.core.ok, hs.size, hs.far, hs.defers⟩
theorem xx {pv : PV} {v : Value} {w w' : World} {μ μ' : Mu} {h h' : List ar} {S S' : Nat → Prop} (hs : sg pv = true) (hv : aZ μ h S w pv v) : aZ μ' h' S' w' pv v ∧ ∀ v' : Value, aZ μ' h' S' w' pv v' → v' = v := by
 cases pv with
 | int k n => obtain rfl := hv.jA; exact ⟨aF.int _ _, fun v' h' => h'.jA⟩
 | bool b => obtain rfl := hv.ku; exact ⟨aF.bool _, fun v' h' => h'.ku⟩
 | str s => obtain rfl := hv.kE; exact ⟨aF.str _, fun v' h' => h'.kE⟩
 | bm => obtain rfl := hv.nF; exact ⟨aF.bm, fun v' h' => h'.nF⟩
 | _ => cases hs
def zk : PV → Value
 | .int k n => .int k n
 | .bool b => .bool b
 | .str s => .string ⟨⟨s⟩⟩
 | .bm => .slice none 0 0
 | _ => undef
theorem nh {pv : PV} {w : World} {μ : Mu} {h : List ar} {S : Nat → Prop} (hs : sg pv = true) : aZ μ h S w pv (zk pv) := by
 cases pv with
 | int k n => exact aF.int _ _
 | bool b => exact aF.bool _
 | str s => exact aF.str _
 | bm => exact aF.bm
 | _ => cases hs
theorem EE {P : Program} {K : Env → Prop} (all : List Oper) (o : Oper) (rest : List Oper) (env : Env) (h : List ar) {j : Nat} {want : Bool} (hg : o.guard = some (j, want)) :
  rI P T all h K (o :: rest) env = (match (all[j]?).bind (·.dst) with
     | some t => match env t with
      | .bool b => eK b
        (match (generalizing := false) want with
         | true => qop P T o.op (my env t (.bool true)) h (fun v => rI P T all h K rest (cy (my env t (.bool true)) o.dst v))
         | false => rI P T all h K rest (cy (my env t (.bool true)) o.dst (.aV [])))
        (match (generalizing := false) want with
         | true => rI P T all h K rest (cy (my env t (.bool false)) o.dst (.aV []))
         | false => qop P T o.op (my env t (.bool false)) h (fun v => rI P T all h K rest (cy (my env t (.bool false)) o.dst v)))
      | .aV [] => rI P T all h K rest (cy env o.dst (.aV []))
      | _ => False
     | none => False) := by
 obtain ⟨dst, op, ty, pos, after, guard⟩ := o
 have hg : guard = some (j, want) := hg
 rw [hg]
 rfl
theorem oB (hT : cn P T) (ops : Array Oper) {K : Env → Prop} {Q : Act → Prop} (h : List ar) (w : World) (μ : Mu) (S : Nat → Prop) (hK : ∀ env a, K env → kM C μ h S env a w → Q a) :
  ∀ (l : List Oper) (env : Env) (a : Act), rI P T ops.toList h K l env → (∀ o ∈ l, kP C.nt o = true) → kM C μ h S env a w → wpQuiet P ops (bK w) Q l a
 | [], env, a, hp, _, hs => hK env a hp hs
 | o :: rest, env, a, hp, hd, hs => by
  have RL : ∀ t, o.dst = some t → t < C.nt := fun t ht => by
   have := hd o avj
   unfold kP at this
   rw [ht] at this
   simpa using this
  have hdr : ∀ o ∈ rest, kP C.nt o = true := fun o ho => hd o (by simp [ho])
  have run : ∀ env', kM C μ h S env' a w → qop P T o.op env' h (fun v => rI P T ops.toList h K rest (cy env' o.dst v)) → o.quiet P a (bK w) (wpQuiet P ops (bK w) Q rest) := fun env' iP vb => by
   obtain ⟨dst, op, ty, pos, after, guard⟩ := o
   have still : bH T op env' h (fun v => rI P T ops.toList h K rest (cy env' dst v)) → Oper.quiet P ⟨dst, op, ty, pos, after, guard⟩ a (bK w) (wpQuiet P ops (bK w) Q rest) := fun vb => by
    obtain ⟨v, val, RM, hv, hr⟩ := kX (P := P) (env := env') hT iP.core.heap iP.tmps (dst := dst) (ty := ty) (pos := pos) (after := after) (guard := guard) vb
    refine ⟨val, fun w' hw' => ?_, oB hT ops h w μ S hK rest _ _ RM hdr (iP.put Fr.refl iP.core hv RL)⟩
    unfold Oper.quietAt
    rw [hr w' hw']
    exact ⟨rfl, rfl⟩
   cases op with
   | call c =>
    obtain ⟨cal, args, ts⟩ := c
    cases cal with
    | value fo =>
     have DS := bp iP.tmps fo
     change Oj P (ev env' fo) (args.toList.map (ev env')) h _ at vb
     unfold Oj at vb
     split at vb
     ·rename_i f hef
      rw [hef] at DS
      replace vb := aU vb
      obtain ⟨WD, ke, v, hz, asf, ⟨⟨fn, c, PO, CV, tb⟩, hA⟩, RM⟩ := vb
      obtain ⟨VE, RM⟩ := aU RM
      refine ⟨zk v, fun w' hw' => ?_, oB hT ops h w μ S hK rest _ _ RM hdr (iP.put Fr.refl iP.core (nh VE) RL)⟩
      have hs2 := iP.agree hw'
      obtain ⟨hl, hzz⟩ := vn.get _ _ hz
      have nz := (tq (k := []) (η := []) (m := 0) hs2.core trivial rfl).1
      have CW := hA w' (args.map a.eval) (j4 μ h []) (zj μ h [] S) nz.heap nz.ok (by simpa using hl.symm) (fun j ew hj => by
       have Db : j < args.toList.length := by have := (At.1 hj).1; simpa [hl] using this
       have hx : (args.toList.map (ev env'))[j]? = some (ev env' args.toList[j]) := by rw [asS, amb Db]; rfl
       refine ⟨a.eval args.toList[j], by rw [atX]; have := amb Db; simp only [asV] at this; rw [this]; rfl, ?_⟩
       have hv := (pV (k := []) (η := []) (m := 0) hs2.core trivial (hzz j _ ew hx hj)).2.2 _ (bp hs2.tmps args.toList[j])
       have nS := (asH.1 asf) ew (asP hj)
       cases ew with
       | aV ps => cases nS
       | _ => exact hv)
      have jN : (execOp a.eval ⟨dst, .call ⟨.value fo, args, ts⟩, ty, pos, after, guard⟩).run P w' = .ok (.enter f (args.map a.eval)) w' := by
       simp only [execOp, resolve, DS.L7, Deferred.ofValue, invoke, callFunc, Sem.run_bind, Sem.run_pure, Result.andThen_ok, Array.append_empty, atY]
       have xm : ¬ fn.name = "runtime.NumGoroutine" := by simpa using tb
       simp [program, Sem.run, Result.andThen, PO, xm, CV]
      unfold Oper.quietAt
      rw [jN]
      refine ⟨rfl, CW.mono fun e L9 ⟨u, res, h', μ', S', he, hR, hv, hH, hM, hF⟩ => ?_⟩
      subst hR
      have hu := (xx (w' := w) (μ' := μ) (h' := h) (S' := S) VE (nh (w := L9) (μ := μ') (h := h') (S := S') VE)).1
      have tS := (xx (w' := L9) (μ' := μ') (h' := h') (S' := S') VE (nh (w := w) (μ := μ) (h := h) (S := S) VE)).2 u hv
      refine ⟨by rw [he, tS], hw'.trans ⟨fun b hb => hF.blocks b hb jz, hF.size, hF.os, hF.tape, hF.output⟩⟩
     ·exact vb.elim
    | _ => exact still vb
   | _ => exact still vb
  have skip : ∀ env', kM C μ h S env' a w → rI P T ops.toList h K rest (cy env' o.dst (.aV [])) → wpQuiet P ops (bK w) Q rest (a.put o.dst undef) := fun env' iP vb =>
   oB hT ops h w μ S hK rest _ _ vb hdr (iP.put Fr.refl iP.core rE RL)
  unfold wpQuiet
  cases hg : o.guard with
  | none =>
   have hp : qop P T o.op env h (fun v => rI P T ops.toList h K rest (cy env o.dst v)) := by
    exact auC
   rw [if_pos (by simp [Region.wanted, hg])]
   exact run env hs hp
  | some p =>
   obtain ⟨j, want⟩ := p
   rw [EE ops.toList o rest env h hg] at hp
   split at hp
   ·rename_i t hj
    split at hp
    ·rename_i b he
     have hy := rD hs hj he
     obtain ⟨ht, hf⟩ := jo hp
     have iP := hs.xr he
     cases b with
     | true =>
      have hp := ht rfl
      cases want with
      | true => rw [if_pos avp]; exact run _ iP hp
      | false => rw [if_neg avp]; exact skip _ iP hp
     | false =>
      have hp := hf rfl
      cases want with
      | true => rw [if_neg avp]; exact skip _ iP hp
      | false => rw [if_pos avp]; exact run _ iP hp
    ·rename_i he
     rw [if_neg avD]
     exact skip _ hs hp
    ·exact auJ
   ·exact auJ
theorem uq : ∀ (σ : List (Nat × PV)) (t : Nat), FT h η k env σ → (∃ v, Fz h η k (env t) v ∧ ur k6 σ t = v) ∨ ur k6 σ t = .gv
 | [], t, _ => .inr rfl
 | (t', v) :: r, t, hh => by
  obtain ⟨h1, h2⟩ := hh
  by_cases htt : t = t'
  ·subst htt
   exact .inl ⟨v, h1, by simp [ur, xq]⟩
  ·simp only [ur]
   rw [A1 _ _ htt]
   exact uq r t h2
theorem uu (hs : kM C μ h S env a w) {σ : List (Nat × PV)} (ht : pQ C.h.length env h σ η) : ∃ μ' S', kM C μ' η S' (ur k6 σ) a w := by
 obtain ⟨k, hk, hm, he, hh⟩ := ht
 obtain ⟨nz, _, _⟩ := tq hs.core hh hk
 refine ⟨j4 μ h k, zj μ h k S, nz, WE hs.core hs.fr hh hk hm, fun t => ?_, hs.size, fun t cM => ?_, hs.defers⟩
 ·rcases uq σ t he with ⟨v, h1, h2⟩ | h1
  ·rw [h2]; exact (pV hs.core hh h1).2.2 _ (hs.tmps t)
  ·rw [h1]; trivial
 ·rcases uq σ t he with ⟨v, h1, h2⟩ | h1
  ·rw [hs.far t cM] at h1
   rw [h2]
   cases h1
   rfl
  ·exact h1
theorem uo.mono {Q Q' : XQ} {e : Exit} {w : World} (hq : ∀ env h, Q e env h → Q' e env h) (hl : uo C Q e a w) : uo C Q' e a w := by
 obtain ⟨μ, h, S, env, hs, hQ⟩ := hl
 exact ⟨μ, h, S, env, hs, hq env h hQ⟩
theorem jU : ∀ (l : List Nat) (x : Nat), je l x = true → x ∈ l
 | [], _, h => by cases h
 | a :: r, x, h => by
  unfold je at h
  split at h
  ·rename_i hb
   have := Of hb
   simp [this]
  ·exact asO _ (jU r x h)
theorem C1 : ∀ (l : List Nat) (F : Nat → Prop), acE l F → ∀ i ∈ l, F i
 | [], _, _, i, hi => by simp at hi
 | [j], F, h, i, hi => by simp at hi; subst hi; exact h
 | j :: k :: r, F, h, i, hi => by
  obtain ⟨h1, h2⟩ := h
  simp only [asI] at hi
  rcases hi with rfl | hi
  ·exact h1
  ·exact C1 (k :: r) F h2 i (by simpa using hi)
theorem ju (hT : cn P T) (ops : Array Oper) {K : Env → List ar → Prop} {Q : Exit → Act → World → Prop} {next : Act → World → Prop} (hK : ∀ env h a w μ S, K env h → kM C μ h S env a w → next a w) (i : Nat) (o : Oper) (ho : ops[i]? = some o)
  (hd : kP C.nt o = true) (env : Env) (h : List ar) (a : Act) (w : World) (μ : Mu) (S : Nat → Prop) (hp : ng P T ops.toList K [o] env h) (hs : kM C μ h S env a w) : wpOp P ops Q i next a w := by
 have RL : ∀ t, o.dst = some t → t < C.nt := fun t ht => by
  unfold kP at hd
  rw [ht] at hd
  simpa using hd
 have run : ∀ env', kM C μ h S env' a w → pop P T o.op env' h (fun v h' => K (cy env' o.dst v) h') → o.wp P a w next Q := fun env' iP vb => by
  obtain ⟨dst, op, ty, pos, after, guard⟩ := o
  refine zh (env := env') hT iP.core iP.tmps vb _ _ fun v val h' μ' S' w' RM hv hc hf => ?_
  exact hK _ h' _ w' μ' S' RM (iP.put hf hc hv RL)
 have skip : ∀ env', kM C μ h S env' a w → K (cy env' o.dst (.aV [])) h → next (a.put o.dst undef) w := fun env' iP vb =>
  hK _ h _ w μ S vb (iP.put Fr.refl iP.core rE RL)
 unfold wpOp
 simp only [ho]
 cases hg : o.guard with
 | none =>
  have hp : pop P T o.op env h (fun v h' => K (cy env o.dst v) h') := by
   exact auC
  rw [if_pos (by simp [Region.wanted, hg])]
  exact .inl (run env hs hp)
 | some p =>
  obtain ⟨j, want⟩ := p
  rw [rF ops.toList o [] env h hg] at hp
  split at hp
  ·rename_i t hj
   split at hp
   ·rename_i b he
    have hy := rD hs hj he
    obtain ⟨ht, hf⟩ := jo hp
    have iP := hs.xr he
    cases b with
    | true =>
     have hp := ht rfl
     cases want with
     | true => rw [if_pos avp]; exact .inl (run _ iP hp)
     | false => rw [if_neg avp]; exact skip _ iP hp
    | false =>
     have hp := hf rfl
     cases want with
     | true => rw [if_neg avp]; exact skip _ iP hp
     | false => rw [if_pos avp]; exact .inl (run _ iP hp)
   ·rename_i he
    rw [if_neg avD]
    exact skip _ hs hp
   ·exact auJ
  ·exact auJ
theorem xy (hT : cn P T) (ops : Array Oper) {K : Env → List ar → Prop} {Q : Exit → Act → World → Prop} (hK : ∀ env h a w μ S, K env h → kM C μ h S env a w → Q .normal a w) (hd : ∀ o ∈ ops.toList, kP C.nt o = true) :
  ∀ (f : Nat) (listed : Array Bool) (done : List Nat) (env : Env) (h : List ar) (a : Act) (w : World) (μ : Mu) (S : Nat → Prop), Ol ops f listed done = true → acF P T ops.toList K f done env h → kM C μ h S env a w →
   wpAny P .any ops Q f listed a w
 | 0, listed, done, env, h, a, w, μ, S, hc, hp, hs => by
  refine ⟨?_, hK env h a w μ S hp hs⟩
  simpa [Ol] using hc
 | f + 1, listed, done, env, h, a, w, μ, S, hc, hp, hs => by
  simp only [Ol, As, asH] at hc
  obtain ⟨nS, hc⟩ := hc
  refine ⟨fun h0 => by rw [h0] at nS; simp at nS, fun i hi => ?_⟩
  obtain ⟨Qq, Vw⟩ := hc i hi
  have Om := C1 _ _ hp i (jU _ _ Qq)
  split at Om
  ·rename_i o ho
   have Ix : ops[i]? = some o := by simpa using ho
   exact ju hT ops (fun env' h' a' w' μ' S' hk iP => xy hT ops hK hd f _ (i :: done) env' h' a' w' μ' S' Vw hk iP) i o Ix (hd o (by have := (At.1 ho); obtain ⟨h1, h2⟩ := this; rw [← h2]; exact asK h1)) env h a w μ S Om hs
  ·exact Om.elim
theorem On {op : Op} {env : Env} {h : List ar} {G : PV → List ar → Prop} (hs : bH T op env h (fun v => G v h)) : pop P T op env h G := by
 cases op with
 | store t a x => exact hs.elim
 | box t x => exact hs.elim
 | alloc t => exact hs.elim
 | makeSlice t l c => exact hs.elim
 | buildSlice t len parts => exact hs.elim
 | convert s d x =>
  simp only [pop]
  split
  ·rename_i e1 e2 e3
   simp only [bH, e1, e2, e3] at hs
  ·exact hs
 | binOp bo t x y ty =>
  simp only [pop]
  split
  ·rename_i e1 e2 e3
   simp only [bH, GM, e1, e2, e3] at hs
  ·exact hs
 | makeMap t r => exact hs.elim
 | mapUpdate t m k x => exact hs.elim
 | call c =>
  obtain ⟨callee, args, ts⟩ := c
  cases callee with
  | value fo => exact hs.elim
  | builtin b => cases b with
   | append => exact hs.elim
   | copy => exact hs.elim
   | _ => (simp only [pop]; exact hs)
  | _ => (simp only [pop]; exact hs)
 | _ => (simp only [pop]; exact hs)
theorem xz {st : Bool} {op : Op} {env : Env} {h : List ar} {G : PV → List ar → Prop} (hs : yz P T st op env h G) : pop P T op env h G := by
 cases st with
 | true => exact On hs
 | false => exact hs
theorem oC {all : List Oper} {st : Bool} {o : Oper} {K : Env → List ar → Prop} {env : Env} {h : List ar} (hp : fs P T all st o (fun v h' => K (cy env o.dst v) h') env h) : ng P T all K [o] env h := by
 unfold fs at hp
 cases hg : o.guard with
 | none =>
  rw [hg] at hp
  obtain ⟨dst, op, ty, pos, after, guard⟩ := o
  have hg : guard = none := hg
  subst hg
  exact xz hp
 | some q =>
  obtain ⟨j, want⟩ := q
  rw [hg] at hp
  rw [rF all o [] env h hg]
  simp only at hp ⊢
  generalize (all[j]?).bind (·.dst) = d at hp ⊢
  cases d with
  | none => exact hp.elim
  | some t =>
   simp only at hp ⊢
   generalize hv : env t = v at hp ⊢
   cases v with
   | bool b =>
    simp only at hp ⊢
    cases b with
    | true =>
     refine .mk (fun _ => ?_) (fun hc => by cases hc)
     rw [vK hv]
     cases want with
     | true => exact xz hp
     | false => exact hp
    | false =>
     refine .mk (fun hc => by cases hc) (fun _ => ?_)
     rw [vK hv]
     cases want with
     | true => exact hp
     | false => exact xz hp
   | aV l => cases l with
    | nil => exact hp
    | cons a r => exact hp.elim
   | _ => exact hp.elim
inductive A2 (all : List Oper) : Nat → Nat → Prop
 | base {x i : Nat} (h : x ∈ bg all i) : A2 all x i
 | step {x d i : Nat} (h : d ∈ bg all i) (hx : A2 all x d) : A2 all x i
theorem A3 : ∀ (l acc : List Nat) (x : Nat), x ∈ ddL l acc → x ∈ l ∨ x ∈ acc
 | [], acc, x, h => .inr h
 | a :: r, acc, x, h => by
  unfold ddL at h
  cases hi : je acc a with
  | true => rw [hi] at h; exact (A3 r acc x h).imp (asO _) id
  | false =>
   rw [hi] at h
   rcases A3 r (a :: acc) x h with h | h
   ·exact .inl (asO _ h)
   ·simp only [asI] at h
    rcases h with rfl | h
    ·exact .inl avj
    ·exact .inr h
theorem qg : ∀ (l : List Nat) (x : Nat), x ∈ l → je l x = true
 | a :: r, x, h => by
  unfold je
  cases hb : Nat.beq a x with
  | true => rfl
  | false =>
   simp only [asI] at h
   rcases h with rfl | h
   ·rw [atF] at hb; cases hb
   ·exact qg r x h
theorem qh {all : List Oper} : ∀ (ord : List (Nat × Bool)) (t : List (Nat × List Nat)), (∀ i x, je (cd t i) x = true → A2 all x i) → ∀ i x, je (cd (qz all ord t) i) x = true → A2 all x i
 | [], t, hg => hg
 | (j, b) :: r, t, hg => qh r _ (fun i x hx => by
  unfold cd at hx
  cases hb : Nat.beq j i with
  | false => rw [hb] at hx; exact hg i x hx
  | true =>
   rw [hb] at hx
   have := Of hb
   subst this
   rcases A3 _ _ _ (jU _ _ hx) with hm | hm
   ·rw [asF, List.mem_flatMap] at hm
    rcases hm with hm | ⟨d, hd, hm⟩
    ·exact .base hm
    ·exact .step hd (hg d x (qg _ _ hm))
   ·simp at hm)
theorem gz {ops : Array Oper} {t : List (Nat × List Nat)} {p : Nat × Bool} : ∀ (l1 l2 : List (Nat × Bool)), br ops t (l1 ++ p :: l2) = true → (∀ o, o ∈ l1 → dr ops t o p = true) ∧ br ops t (l1 ++ l2) = true
 | [], l2, h => by
  simp only [are, br, As] at h
  exact ⟨fun o ho => by simp at ho, h.2⟩
 | a :: l1, l2, h => by
  simp only [asz, br, As, asH] at h ⊢
  obtain ⟨h1, h2⟩ := gz l1 l2 h.2
  refine ⟨fun o ho => ?_, fun q hq => h.1 q (by simp only [asF, asI] at hq ⊢; exact hq.imp id .inr), h2⟩
  simp only [asI] at ho
  rcases ho with rfl | ho
  ·exact h.1 p avj
  ·exact h1 o ho
theorem kZ {ops : Array Oper} {i : Nat} {o : Oper} (ho : ops[i]? = some o) {d : Nat} : d ∈ bg ops.toList i ↔ ∃ e, e ∈ o.after ∧ Region.binds .any e = true ∧ e.on = d := by
 unfold bg
 have : ops.toList[i]? = some o := by simpa using ho
 rw [this]
 unfold Oo
 rw [List.mem_filterMap]
 constructor
 ·rintro ⟨e, he, hx⟩
  cases hb : Region.binds .any e with
  | true => rw [hb] at hx; exact ⟨e, by simpa using he, hb, by simpa using hx⟩
  | false => rw [hb] at hx; cases hx
 ·rintro ⟨e, he, hb, hx⟩
  exact ⟨e, by simpa using he, by rw [hb]; simp [hx]⟩
theorem tr (hT : cn P T) (ops : Array Oper) {t : List (Nat × List Nat)} (gA : ∀ i x, je (cd t i) x = true → A2 ops.toList x i) (ki : ∀ i, i < ops.size → ∀ d, d ∈ bg ops.toList i → d < ops.size ∧ d ≠ i)
  {K : Env → List ar → Prop} {Q : Exit → Act → World → Prop} (hK : ∀ env h a w μ S, K env h → kM C μ h S env a w → Q .normal a w) (hd : ∀ o ∈ ops.toList, kP C.nt o = true) :
  ∀ (n : Nat) (l : List (Nat × Bool)) (a6 : List (Nat × List Nat)) (listed : Array Bool) (env : Env) (h : List ar) (a : Act) (w : World) (μ : Mu) (S : Nat → Prop), l.length = n → br ops t l = true → (∀ p, p ∈ l → p.1 < ops.size) → listed.size = ops.size →
   (∀ j, j < ops.size → (listed.getD j true = false ↔ j ∈ l.map (·.1))) → (∀ j, j < ops.size → j ∉ l.map (·.1) → ∀ d, d ∈ bg ops.toList j → d ∉ l.map (·.1)) → yA P T ops.toList t K l a6 env h → kM C μ h S env a w → wpAny P .any ops Q n listed a w
 | 0, l, a6, listed, env, h, a, w, μ, S, hn, _, _, fQ, tB, _, hf, hs => by
  obtain rfl : l = [] := atL.1 hn
  refine ⟨?_, hK env h a w μ S hf hs⟩
  cases hr : Region.ready .any ops listed with
  | nil => rfl
  | cons j r =>
   have hj : j ∈ Region.ready .any ops listed := by rw [hr]; simp
   rw [mem_ready] at hj
   obtain ⟨h1, o, ho, _⟩ := hj
   have := (tB j (asC.1 ho).1).1 h1
   simp at this
 | n + 1, l, a6, listed, env, h, a, w, μ, S, hn, hpo, cM, fQ, tB, zl, hf, hs => by
  have WI : ∀ d, d < ops.size → (listed.getD d false = true ↔ d ∉ l.map (·.1)) := fun d Oh => by
   have := tB d Oh
   have e : listed.getD d false = listed.getD d true := by simp [Array.getD, fQ, Oh]
   rw [e, ← this]
   cases listed.getD d true <;> simp
  refine ⟨fun h0 => ?_, fun i hi => ?_⟩
  ·exfalso
   cases l with
   | nil => simp at hn
   | cons p r =>
    have hp := cM p avj
    have ho := asT hp
    have : p.1 ∈ Region.ready .any ops listed := by
     rw [mem_ready]
     refine ⟨(tB p.1 hp).2 avj, _, ho, fun e he hb => ?_⟩
     have hm : e.on ∈ bg ops.toList p.1 := (kZ ho).2 ⟨e, he, hb, rfl⟩
     obtain ⟨d1, d2⟩ := ki p.1 hp _ hm
     rw [WI _ d1]
     intro hc
     simp only [adr, asI, asR] at hc
     rcases hc with hc | ⟨q, hq, hc⟩
     ·exact d2 hc
     ·simp only [br, As, asH] at hpo
      have := hpo.1 q hq
      unfold dr at this
      simp only [As, atm] at this
      rw [hc, qg _ _ hm] at this
      exact absurd this.1.2 avj
    rw [h0] at this
    simp at this
  ·rw [mem_ready] at hi
   obtain ⟨h1, oi, rQ, C2⟩ := hi
   have qd := (asC.1 rQ).1
   have vx : ∀ d, d ∈ bg ops.toList i → d ∉ l.map (·.1) := fun d qI => by
    exact auG
   have rJ : ∀ x, A2 ops.toList x i → x ∉ l.map (·.1) := by
    have gen : ∀ x j, A2 ops.toList x j → j < ops.size → (∀ d, d ∈ bg ops.toList j → d ∉ l.map (·.1)) → x ∉ l.map (·.1) := fun x j ha => by
     induction ha with
     | base hx => exact fun _ hj => hj _ hx
     | step qI _ ih => exact fun hj hjd => ih (ki _ hj _ qI).1 (zl _ (ki _ hj _ qI).1 (hjd _ qI))
    exact fun x ha => gen x i ha qd vx
   obtain ⟨p, hp, WJ⟩ := asR.1 ((tB i qd).1 h1)
   obtain ⟨l1, l2, rfl⟩ := auh hp
   obtain ⟨i', st⟩ := p
   simp only at WJ
   subst WJ
   obtain ⟨WK, ash⟩ := gz l1 l2 hpo
   have vy : ops.toList[i']? = some oi := by simpa using rQ
   have Ii := tt (P := P) (T := T) (ops := ops) (t := t) (K := K) vy l1 l2 a6 env h (fun q hq => by
    have hk := WK q hq
    unfold dr at hk
    simp only [As, atg, atm] at hk
    have hqm : q.1 ∈ (l1 ++ (i', st) :: l2).map (·.1) := asR.2 ⟨q, by simp [hq], rfl⟩
    have hna : je (cd t i') q.1 = false := by
     cases hb : je (cd t i') q.1 with
     | false => rfl
     | true => exact absurd hqm (rJ _ (gA _ _ hb))
    rcases hk.2 with qw | ⟨E1, nU⟩
    ·exact absurd hqm (vx _ (jU _ _ qw))
    ·refine ⟨?_, hna, E1⟩
     rcases nU with nU | nU
     ·exact nU
     ·rw [hna] at nU; cases nU) hf
   have nS : ∀ q, q ∈ l1 ++ l2 → q.1 ≠ i' := fun q hq => by
    rw [asF] at hq
    rcases hq with hq | hq
    ·have hk := WK q hq
     unfold dr at hk
     simp only [As, atm] at hk
     intro he
     have this : Nat.beq q.1 i' = false := hk.1.1
     rw [he, atF] at this
     cases this
    ·have : ∀ (l1 : List (Nat × Bool)), br ops t (l1 ++ (i', st) :: l2) = true → dr ops t (i', st) q = true := fun l1 => by
      induction l1 with
      | nil => intro hh; simp only [are, br, As, asH] at hh; exact hh.1 q hq
      | cons b r ih => intro hh; simp only [asz, br, As] at hh; exact ih hh.2
     have hk := this l1 hpo
     unfold dr at hk
     simp only [As, atm] at hk
     intro he
     have := hk.1.1
     rw [he] at this
     rw [atF] at this
     cases this
   have A4 : ∀ j, j ∈ (l1 ++ (i', st) :: l2).map (·.1) ↔ j = i' ∨ j ∈ (l1 ++ l2).map (·.1) := fun j => by
    simp only [ath, adr, asF, asI]
    constructor
    ·rintro (h | h | h)
     ·exact auZ
     ·exact .inl h
     ·exact .inr (.inr h)
    ·rintro (h | h | h)
     ·exact auZ
     ·exact .inl h
     ·exact .inr (.inr h)
   have EF : i' ∉ (l1 ++ l2).map (·.1) := fun hm => by
    obtain ⟨q, hq, he⟩ := asR.1 hm
    exact nS q hq he
   have nL : ng P T ops.toList (fun env' h' => yA P T ops.toList t K (l1 ++ l2) a6 env' h') [oi] env h := oC (cx (fun v h' hk => hk.2.2) Ii)
   refine ju hT ops (fun env' h' a' w' μ' S' hk iP => tr hT ops gA ki hK hd n (l1 ++ l2) a6 _ env' h' a' w' μ' S' (by simp at hn ⊢; omega) ash (fun q hq => cM q (by rw [asF] at hq ⊢; exact hq.imp id (asO _))) avI (fun j hj => ?_) (fun j hj hjn dd zf => ?_) hk iP) i' oi rQ (hd oi (by have := (At.1 vy); obtain ⟨h1, h2⟩ := this; rw [← h2]; exact asK h1)) env h a w μ S nL hs
   ·by_cases hJ : j = i'
    ·subst hJ
     constructor
     ·intro hc
      have : (listed.setIfInBounds j true).getD j true = true := by simp [Array.getD, fQ, hj]
      rw [this] at hc; cases hc
     ·intro hc; exact absurd hc EF
    ·have e : (listed.setIfInBounds i' true).getD j true = listed.getD j true := getD_set_ne true (atH hJ)
     rw [e, tB j hj, A4 j]
     constructor
     ·rintro (h | h)
      ·exact absurd h hJ
      ·exact h
     ·exact .inr
   ·by_cases hJ : j = i'
    ·subst hJ
     exact fun hm => vx dd zf ((A4 dd).2 (.inr hm))
    ·exact fun hm => zl j hj (fun hc => by rcases (A4 j).1 hc with hc | hc; exact hJ hc; exact hjn hc) dd zf ((A4 dd).2 (.inr hm))
theorem nM {ops : Array Oper} {listed : Array Bool} {i : Nat} {L L' : List Nat} (A4 : ∀ j, j ∈ L ↔ j = i ∨ j ∈ L') (EF : i ∉ L') (fQ : listed.size = ops.size) (tB : ∀ j, j < ops.size → (listed.getD j true = false ↔ j ∈ L))
  (zl : ∀ j, j < ops.size → j ∉ L → ∀ d, d ∈ bg ops.toList j → d ∉ L) (vx : ∀ d, d ∈ bg ops.toList i → d ∉ L) :
  (∀ j, j < ops.size → ((listed.setIfInBounds i true).getD j true = false ↔ j ∈ L')) ∧ ∀ j, j < ops.size → j ∉ L' → ∀ d, d ∈ bg ops.toList j → d ∉ L' := by
 refine ⟨fun j hj => ?_, fun j hj hjn d zf hm => ?_⟩
 ·by_cases hJ : j = i
  ·subst hJ
   constructor
   ·intro hc
    have : (listed.setIfInBounds j true).getD j true = true := by simp [Array.getD, fQ, hj]
    rw [this] at hc; cases hc
   ·intro hc; exact absurd hc EF
  ·have e : (listed.setIfInBounds i true).getD j true = listed.getD j true := getD_set_ne true (atH hJ)
   rw [e, tB j hj, A4 j]
   exact ⟨fun h => h.resolve_left hJ, .inr⟩
 ·by_cases hJ : j = i
  ·subst hJ
   exact vx d zf ((A4 d).2 (.inr hm))
  ·exact zl j hj (fun hc => by rcases (A4 j).1 hc with hc | hc; exact hJ hc; exact hjn hc) d zf ((A4 d).2 (.inr hm))
theorem iH {ops : Array Oper} {t : List (Nat × List Nat)} {p q : Nat × Bool} (h : dr ops t p q = true) : p.1 ≠ q.1 := by
 unfold dr at h
 simp only [As, atm] at h
 intro he
 have := h.1.1
 rw [he, atF] at this
 cases this
theorem xA {ops : Array Oper} {t : List (Nat × List Nat)} {p q : Nat × Bool} (h : dr ops t p q = true) : q.1 ∉ bg ops.toList p.1 := by
 unfold dr at h
 simp only [As, atm] at h
 intro hm
 have := h.1.2
 rw [qg _ _ hm] at this
 cases this
theorem gY {ops : Array Oper} {t : List (Nat × List Nat)} {p q : Nat × Bool} : ∀ (l1 l2 : List (Nat × Bool)), br ops t (l1 ++ p :: l2) = true → q ∈ l2 → dr ops t p q = true
 | [], l2, h, hq => by simp only [are, br, As, asH] at h; exact h.1 q hq
 | _ :: l1, l2, h, hq => by simp only [asz, br, As] at h; exact gY l1 l2 h.2 hq
theorem nN {ops : Array Oper} {t : List (Nat × List Nat)} (gA : ∀ i x, je (cd t i) x = true → A2 ops.toList x i) {L : List Nat} {q : Nat × Bool} {i : Nat} {st : Bool} (hk : dr ops t q (i, st) = true) (hqL : q.1 ∈ L) (vx : ∀ d, d ∈ bg ops.toList i → d ∉ L) (rJ : ∀ x, A2 ops.toList x i → x ∉ L) :
  q.2 = true ∧ je (cd t i) q.1 = false ∧ mN ops q.1 i = true := by
 unfold dr at hk
 simp only [As, atg, atm] at hk
 have hna : je (cd t i) q.1 = false := by
  cases hb : je (cd t i) q.1 with
  | false => rfl
  | true => exact absurd hqL (rJ _ (gA _ _ hb))
 rcases hk.2 with qw | ⟨E1, nU⟩
 ·exact absurd hqL (vx _ (jU _ _ qw))
 ·refine ⟨?_, hna, E1⟩
  rcases nU with nU | nU
  ·exact nU
  ·rw [hna] at nU; cases nU
theorem qJ (hT : cn P T) (ops : Array Oper) {t : List (Nat × List Nat)} (gA : ∀ i x, je (cd t i) x = true → A2 ops.toList x i) (ki : ∀ i, i < ops.size → ∀ d, d ∈ bg ops.toList i → d < ops.size ∧ d ≠ i) {x y : Nat} {ra rb : List (Nat × Bool)}
  (hlen : rb.length = ra.length) (RO : ∀ j, j ∈ ((x, false) :: ra).map (·.1) ↔ j ∈ ((y, false) :: rb).map (·.1)) (hxA : ∀ d, d ∈ bg ops.toList x → d ∉ ((x, false) :: ra).map (·.1)) (WL : x ∉ ra.map (·.1)) (WM : y ∉ rb.map (·.1))
  (A5 : ∀ p, p ∈ ra → p.1 = y ∨ je (cd t p.1) x = true ∨ je (cd t p.1) y = true)
  {K : Env → List ar → Prop} {Q : Exit → Act → World → Prop} (hK : ∀ env h a w μ S, K env h → kM C μ h S env a w → Q .normal a w) (hd : ∀ o ∈ ops.toList, kP C.nt o = true)
  (n : Nat) (l : List (Nat × Bool)) (a6 : List (Nat × List Nat)) (listed : Array Bool) (env : Env) (h : List ar) (a : Act) (w : World) (μ : Mu) (S : Nat → Prop) (hn : l.length = n) (Oq : br ops t (l ++ ra) = true) (WN : br ops t (l ++ rb) = true)
  (Bi : ∀ p, p ∈ l → dr ops t p (x, false) = true ∧ dr ops t p (y, false) = true ∧ ∀ d, d ∈ bg ops.toList p.1 → d ∉ ((x, false) :: ra).map (·.1))
  (cM : ∀ p, p ∈ l ++ (x, false) :: ra → p.1 < ops.size) (fQ : listed.size = ops.size)
  (tB : ∀ j, j < ops.size → (listed.getD j true = false ↔ j ∈ (l ++ (x, false) :: ra).map (·.1))) (zl : ∀ j, j < ops.size → j ∉ (l ++ (x, false) :: ra).map (·.1) → ∀ d, d ∈ bg ops.toList j → d ∉ (l ++ (x, false) :: ra).map (·.1))
  (hf : uv P T ops.toList t ((x, false) :: ra) ((y, false) :: rb) K l a6 env h) (hs : kM C μ h S env a w)
  (ih : ∀ m, m + 1 = n → ∀ (l : List (Nat × Bool)) (a6 : List (Nat × List Nat)) (listed : Array Bool) (env : Env) (h : List ar) (a : Act) (w : World) (μ : Mu) (S : Nat → Prop), l.length = m → br ops t (l ++ ra) = true → br ops t (l ++ rb) = true →
   (∀ p, p ∈ l → dr ops t p (x, false) = true ∧ dr ops t p (y, false) = true ∧ ∀ d, d ∈ bg ops.toList p.1 → d ∉ ((x, false) :: ra).map (·.1)) →
   (∀ p, p ∈ l ++ (x, false) :: ra → p.1 < ops.size) → listed.size = ops.size →
   (∀ j, j < ops.size → (listed.getD j true = false ↔ j ∈ (l ++ (x, false) :: ra).map (·.1))) → (∀ j, j < ops.size → j ∉ (l ++ (x, false) :: ra).map (·.1) → ∀ d, d ∈ bg ops.toList j → d ∉ (l ++ (x, false) :: ra).map (·.1)) →
   uv P T ops.toList t ((x, false) :: ra) ((y, false) :: rb) K l a6 env h → kM C μ h S env a w → wpAny P .any ops Q (m + (ra.length + 1)) listed a w) : wpAny P .any ops Q (n + (ra.length + 1)) listed a w := by
 have WI : ∀ d, d < ops.size → (listed.getD d false = true ↔ d ∉ (l ++ (x, false) :: ra).map (·.1)) := fun d Oh => by
  have := tB d Oh
  have e : listed.getD d false = listed.getD d true := by simp [Array.getD, fQ, Oh]
  rw [e, ← this]
  cases listed.getD d true <;> simp
 have hx := cM (x, false) avj
 refine ⟨fun h0 => ?_, fun i hi => ?_⟩
 ·exfalso
  have first : ∃ p, p < ops.size ∧ p ∈ (l ++ (x, false) :: ra).map (·.1) ∧ ∀ d, d ∈ bg ops.toList p → d ∉ (l ++ (x, false) :: ra).map (·.1) := by
   cases l with
   | nil => exact ⟨x, hx, by simp, fun d zf hm => hxA d zf (by simpa using hm)⟩
   | cons p r =>
    have hp := cM p avj
    refine ⟨p.1, hp, by simp, fun d zf hm => ?_⟩
    rw [ath, asF] at hm
    rcases hm with hm | hm
    ·simp only [adr, asI, asR] at hm
     rcases hm with rfl | ⟨q, hq, rfl⟩
     ·exact (ki _ hp _ zf).2 rfl
     ·exact xA (gY [] _ Oq (atG _ hq)) zf
    ·exact (Bi p avj).2.2 d zf hm
  obtain ⟨p, hp, hpm, hpd⟩ := first
  have ho := asT hp
  have : p ∈ Region.ready .any ops listed := by
   rw [mem_ready]
   refine ⟨(tB p hp).2 hpm, _, ho, fun e he hb => ?_⟩
   have hm : e.on ∈ bg ops.toList p := (kZ ho).2 ⟨e, he, hb, rfl⟩
   rw [WI _ (ki p hp _ hm).1]
   exact hpd _ hm
  rw [h0] at this
  simp at this
 ·rw [mem_ready] at hi
  obtain ⟨h1, oi, rQ, C2⟩ := hi
  have qd := (asC.1 rQ).1
  have vy : ops.toList[i]? = some oi := by simpa using rQ
  have EG : kP C.nt oi = true := hd oi avP
  have vx : ∀ d, d ∈ bg ops.toList i → d ∉ (l ++ (x, false) :: ra).map (·.1) := fun d qI => by
   exact auG
  have rJ : ∀ z, A2 ops.toList z i → z ∉ (l ++ (x, false) :: ra).map (·.1) := by
   have gen : ∀ z j, A2 ops.toList z j → j < ops.size → (∀ d, d ∈ bg ops.toList j → d ∉ (l ++ (x, false) :: ra).map (·.1)) → z ∉ (l ++ (x, false) :: ra).map (·.1) := fun z j ha => by
    induction ha with
    | base hx => exact fun _ hj => hj _ hx
    | step qI _ ih => exact fun hj hjd => ih (ki _ hj _ qI).1 (zl _ (ki _ hj _ qI).1 (hjd _ qI))
   exact fun z ha => gen z i ha qd vx
  have hyA : y ∈ ((x, false) :: ra).map (·.1) := (RO y).2 avj
  have A6 := (tB i qd).1 h1
  rw [ath, asF] at A6
  have split : i ∈ l.map (·.1) ∨ i = x ∨ i = y := by
   rcases A6 with A6 | A6
   ·exact .inl A6
   ·simp only [adr, asI, asR] at A6
    rcases A6 with rfl | ⟨q, hq, rfl⟩
    ·exact .inr (.inl rfl)
    ·rcases A5 q hq with h2 | h2 | h2
     ·exact .inr (.inr h2)
     ·exact absurd (by simp : x ∈ (l ++ (x, false) :: ra).map (·.1)) (rJ _ (gA _ _ h2))
     ·exact absurd (by rw [ath, asF]; exact .inr hyA) (rJ _ (gA _ _ h2))
  rcases split with A6 | rfl | rfl
  ·-- one of those ahead
   obtain ⟨p, hp, WJ⟩ := asR.1 A6
   obtain ⟨l1, l2, rfl⟩ := auh hp
   obtain ⟨i', st⟩ := p
   simp only at WJ
   subst WJ
   have e1 : l1 ++ (i', st) :: l2 ++ ra = l1 ++ (i', st) :: (l2 ++ ra) := by simp
   have e2 : l1 ++ (i', st) :: l2 ++ rb = l1 ++ (i', st) :: (l2 ++ rb) := by simp
   rw [e1] at Oq
   rw [e2] at WN
   obtain ⟨WK, asi⟩ := gz l1 _ Oq
   obtain ⟨_, asj⟩ := gz l1 _ WN
   have Ii := zm (P := P) (T := T) (ops := ops) (t := t) (A0 := (x, false) :: ra) (B0 := (y, false) :: rb) (K := K) vy l1 l2 a6 env h (fun q hq => nN gA (WK q hq) (by rw [ath, asF]; exact .inl (asR.2 ⟨q, atG _ hq, rfl⟩)) vx rJ) hf
   have EF : i' ∉ ((l1 ++ l2) ++ (x, false) :: ra).map (·.1) := fun hm => by
    simp only [ath, adr, asF, asI, asR] at hm
    rcases hm with (⟨q, hq, he⟩ | ⟨q, hq, he⟩) | he | ⟨q, hq, he⟩
    ·exact iH (WK q hq) he
    ·exact iH (gY l1 _ Oq (atG _ hq)) he.symm
    ·exact iH (Bi (i', st) avj).1 he
    ·exact iH (gY l1 _ Oq (List.mem_append_right _ hq)) he.symm
   obtain ⟨r1, r2⟩ := nM (L' := ((l1 ++ l2) ++ (x, false) :: ra).map (·.1)) (fun j => by
    simp only [ath, adr, asF, asI]
    constructor
    ·rintro ((h | h | h) | h)
     ·exact .inr (.inl (.inl h))
     ·exact .inl h
     ·exact .inr (.inl (.inr h))
     ·exact .inr (.inr h)
    ·rintro (h | (h | h) | h)
     ·exact .inl (.inr (.inl h))
     ·exact .inl (.inl h)
     ·exact .inl (.inr (.inr h))
     ·exact .inr h) EF fQ tB zl vx
   have nL : ng P T ops.toList (fun env' h' => uv P T ops.toList t ((x, false) :: ra) ((y, false) :: rb) K (l1 ++ l2) a6 env' h') [oi] env h := oC (cx (fun v h' hk => hk.2.2) Ii)
   obtain ⟨m, rfl⟩ : ∃ m, n = m + 1 := ⟨n - 1, by simp at hn; omega⟩
   rw [show (m + 1).add ra.length = m + (ra.length + 1) from (by show m + 1 + ra.length = _; omega)]
   refine ju hT ops (fun env' h' a' w' μ' S' hk iP => ih m rfl (l1 ++ l2) a6 _ env' h' a' w' μ' S' (by simp at hn ⊢; omega) (by rw [No]; exact asi) (by rw [No]; exact asj) (fun q hq => Bi q (by
    simp only [asF, asI] at hq ⊢
    exact hq.imp id .inr)) (fun q hq => cM q (by
    simp only [asF, asI] at hq ⊢
    rcases hq with (h | h) | h
    ·exact .inl (.inl h)
    ·exact .inl (.inr (.inr h))
    ·exact .inr h)) avI r1 r2 hk iP) i' oi rQ EG env h a w μ S nL hs
  ·-- the first of the two
   have oY : yA P T ops.toList t K (l ++ (i, false) :: ra) a6 env h := EH l a6 env h hf
   have Ii := tt (P := P) (T := T) (ops := ops) (t := t) (K := K) vy l ra a6 env h (fun q hq => nN gA (Bi q hq).1 avM vx rJ) oY
   have EF : i ∉ (l ++ ra).map (·.1) := fun hm => by
    simp only [ath, asF] at hm
    rcases hm with hm | hm
    ·obtain ⟨q, hq, he⟩ := asR.1 hm
     exact iH (Bi q hq).1 he
    ·exact WL hm
   obtain ⟨r1, r2⟩ := nM (L' := (l ++ ra).map (·.1)) (fun j => by
    simp only [ath, adr, asF, asI]
    constructor
    ·rintro (h | h | h)
     ·exact auZ
     ·exact .inl h
     ·exact .inr (.inr h)
    ·rintro (h | h | h)
     ·exact auZ
     ·exact .inl h
     ·exact .inr (.inr h)) EF fQ tB zl vx
   have nL : ng P T ops.toList (fun env' h' => yA P T ops.toList t K (l ++ ra) a6 env' h') [oi] env h := oC (cx (fun v h' hk => hk.2.2) Ii)
   refine ju hT ops (fun env' h' a' w' μ' S' hk iP => tr hT ops gA ki hK hd (n + ra.length) (l ++ ra) a6 _ env' h' a' w' μ' S' (by simp [hn]) Oq (fun q hq => cM q (by
    simp only [asF, asI] at hq ⊢
    exact hq.imp id .inr)) avI r1 r2 hk iP) i oi rQ EG env h a w μ S nL hs
  ·-- the second
   have oY : yA P T ops.toList t K (l ++ (i, false) :: rb) a6 env h := EI l a6 env h hf
   have Ii := tt (P := P) (T := T) (ops := ops) (t := t) (K := K) vy l rb a6 env h (fun q hq => nN gA (Bi q hq).2.1 avM vx rJ) oY
   have EF : i ∉ (l ++ rb).map (·.1) := fun hm => by
    simp only [ath, asF] at hm
    rcases hm with hm | hm
    ·obtain ⟨q, hq, he⟩ := asR.1 hm
     exact iH (Bi q hq).2.1 he
    ·exact WM hm
   obtain ⟨r1, r2⟩ := nM (L' := (l ++ rb).map (·.1)) (fun j => by
    rw [ath, asF, RO j, ath]
    simp only [adr, asF, asI]
    constructor
    ·rintro (h | h | h)
     ·exact auZ
     ·exact .inl h
     ·exact .inr (.inr h)
    ·rintro (h | h | h)
     ·exact auZ
     ·exact .inl h
     ·exact .inr (.inr h)) EF fQ tB zl vx
   have nL : ng P T ops.toList (fun env' h' => yA P T ops.toList t K (l ++ rb) a6 env' h') [oi] env h := oC (cx (fun v h' hk => hk.2.2) Ii)
   refine ju hT ops (fun env' h' a' w' μ' S' hk iP => tr hT ops gA ki hK hd (n + ra.length) (l ++ rb) a6 _ env' h' a' w' μ' S' (by simp [hn, hlen]) WN (fun q hq => by
    rw [asF] at hq
    rcases hq with h | h
    ·exact cM q (atG _ h)
    ·have : q.1 ∈ ((x, false) :: ra).map (·.1) := (RO q.1).2 (asO _ (asR.2 ⟨q, h, rfl⟩))
     obtain ⟨p, hp, he⟩ := asR.1 this
     rw [← he]
     exact cM p (List.mem_append_right _ hp)) avI r1 r2 hk iP) i oi rQ EG env h a w μ S nL hs
theorem Ot (hT : cn P T) (ops : Array Oper) {t : List (Nat × List Nat)} (gA : ∀ i x, je (cd t i) x = true → A2 ops.toList x i) (ki : ∀ i, i < ops.size → ∀ d, d ∈ bg ops.toList i → d < ops.size ∧ d ≠ i) {x y : Nat} {ra rb : List (Nat × Bool)}
  (hlen : rb.length = ra.length) (RO : ∀ j, j ∈ ((x, false) :: ra).map (·.1) ↔ j ∈ ((y, false) :: rb).map (·.1)) (hxA : ∀ d, d ∈ bg ops.toList x → d ∉ ((x, false) :: ra).map (·.1)) (WL : x ∉ ra.map (·.1)) (WM : y ∉ rb.map (·.1))
  (A5 : ∀ p, p ∈ ra → p.1 = y ∨ je (cd t p.1) x = true ∨ je (cd t p.1) y = true)
  {K : Env → List ar → Prop} {Q : Exit → Act → World → Prop} (hK : ∀ env h a w μ S, K env h → kM C μ h S env a w → Q .normal a w) (hd : ∀ o ∈ ops.toList, kP C.nt o = true)
  (n : Nat) (l : List (Nat × Bool)) (a6 : List (Nat × List Nat)) (listed : Array Bool) (env : Env) (h : List ar) (a : Act) (w : World) (μ : Mu) (S : Nat → Prop) (hn : l.length = n) (Oq : br ops t (l ++ ra) = true) (WN : br ops t (l ++ rb) = true)
  (Bi : ∀ p, p ∈ l → dr ops t p (x, false) = true ∧ dr ops t p (y, false) = true ∧ ∀ d, d ∈ bg ops.toList p.1 → d ∉ ((x, false) :: ra).map (·.1))
  (cM : ∀ p, p ∈ l ++ (x, false) :: ra → p.1 < ops.size) (fQ : listed.size = ops.size)
  (tB : ∀ j, j < ops.size → (listed.getD j true = false ↔ j ∈ (l ++ (x, false) :: ra).map (·.1))) (zl : ∀ j, j < ops.size → j ∉ (l ++ (x, false) :: ra).map (·.1) → ∀ d, d ∈ bg ops.toList j → d ∉ (l ++ (x, false) :: ra).map (·.1))
  (hf : uv P T ops.toList t ((x, false) :: ra) ((y, false) :: rb) K l a6 env h) (hs : kM C μ h S env a w) : wpAny P .any ops Q (n + (ra.length + 1)) listed a w := by
 induction n generalizing l a6 listed env h a w μ S with
 | zero => exact qJ hT ops gA ki hlen RO hxA WL WM A5 hK hd 0 l a6 listed env h a w μ S hn Oq WN Bi cM fQ tB zl hf hs (fun m hm => absurd hm (Nat.succ_ne_zero m))
 | succ n ih => exact qJ hT ops gA ki hlen RO hxA WL WM A5 hK hd (n + 1) l a6 listed env h a w μ S hn Oq WN Bi cM fQ tB zl hf hs (fun m hm => by (obtain rfl : m = n := Nat.succ.inj hm); exact ih)
def Left (ops : Array Oper) (l : List (Nat × Bool)) (R : List Nat) (listed : Array Bool) : Prop :=
 listed.size = ops.size ∧ (∀ j, j < ops.size → (listed.getD j true = false ↔ j ∈ l.map (·.1) ++ R)) ∧ ∀ j, j < ops.size → j ∉ l.map (·.1) ++ R → ∀ d, d ∈ bg ops.toList j → d ∉ l.map (·.1) ++ R
def Snd (P : Program) (T : lO) (C : Start) (ops : Array Oper) (t : List (Nat × List Nat)) (Q : Exit → Act → World → Prop) (E : List (Nat × List Nat) → Env → List ar → Prop) (R : List Nat) (c : List (Nat × Bool) → Prop) : Prop :=
 ∀ (l : List (Nat × Bool)) (a6 : List (Nat × List Nat)) (listed : Array Bool) (env : Env) (h : List ar) (a : Act) (w : World) (μ : Mu) (S : Nat → Prop), c l → (∀ p, p ∈ l → p.1 < ops.size) → Left ops l R listed →
  k4 P T ops.toList t E l a6 env h → kM C μ h S env a w → wpAny P .any ops Q (l.length + R.length) listed a w
theorem A7 (hT : cn P T) (ops : Array Oper) {t : List (Nat × List Nat)} (gA : ∀ i x, je (cd t i) x = true → A2 ops.toList x i) (ki : ∀ i, i < ops.size → ∀ d, d ∈ bg ops.toList i → d < ops.size ∧ d ≠ i)
  {K : Env → List ar → Prop} {Q : Exit → Act → World → Prop} (hK : ∀ env h a w μ S, K env h → kM C μ h S env a w → Q .normal a w) (hd : ∀ o ∈ ops.toList, kP C.nt o = true) (A : List (Nat × Bool)) (hA : ∀ p, p ∈ A → p.1 < ops.size) :
  Snd P T C ops t Q (fun a6 env h => yA P T ops.toList t K A a6 env h) (A.map (·.1)) (fun l => br ops t (l ++ A) = true) := by
 intro l a6 listed env h a w μ S hc cM hL hf hs
 obtain ⟨fQ, tB, zl⟩ := hL
 rw [show l.length + (A.map (·.1)).length = (l ++ A).length from by simp]
 rw [← ath] at tB zl
 exact tr hT ops gA ki hK hd _ (l ++ A) a6 listed env h a w μ S rfl hc (fun p hp => by rcases asF.1 hp with q | q; exact cM p q; exact hA p q) fQ tB zl (pW l a6 env h hf) hs
theorem RP {ops : Array Oper} {t : List (Nat × List Nat)} {Q : Exit → Act → World → Prop} {E : List (Nat × List Nat) → Env → List ar → Prop} {R : List Nat} {c : List (Nat × Bool) → Prop} (hE : Snd P T C ops t Q E R c) (o1 : List (Nat × Bool)) (h1 : ∀ p, p ∈ o1 → p.1 < ops.size) :
  Snd P T C ops t Q (fun a6 env h => k4 P T ops.toList t E o1 a6 env h) (o1.map (·.1) ++ R) (fun l => c (l ++ o1)) := by
 intro l a6 listed env h a w μ S hc cM hL hf hs
 have e : (l ++ o1).map (·.1) ++ R = l.map (·.1) ++ (o1.map (·.1) ++ R) := by simp
 have := hE (l ++ o1) a6 listed env h a w μ S hc (fun p hp => by rcases asF.1 hp with q | q; exact cM p q; exact h1 p q) (by unfold Left; rw [e]; exact hL) (pZ l a6 env h hf) hs
 rw [show l.length + (o1.map (·.1) ++ R).length = (l ++ o1).length + R.length from by simp; omega]
 exact this
structure BrC (ops : Array Oper) (t : List (Nat × List Nat)) (x y : Nat) (R : List Nat) (cX cY : List (Nat × Bool) → Prop) (l : List (Nat × Bool)) : Prop where
 pw : br ops t l = true
 hd : ∀ p, p ∈ l → dr ops t p (x, false) = true ∧ dr ops t p (y, false) = true ∧ (∀ d, d ∈ bg ops.toList p.1 → d ∉ R) ∧ p.1 ∉ R
 x : cX l
 y : cY l
theorem Ou (hT : cn P T) (ops : Array Oper) {t : List (Nat × List Nat)} (gA : ∀ i x, je (cd t i) x = true → A2 ops.toList x i) (ki : ∀ i, i < ops.size → ∀ d, d ∈ bg ops.toList i → d < ops.size ∧ d ≠ i)
  {Q : Exit → Act → World → Prop} (hd : ∀ o ∈ ops.toList, kP C.nt o = true) {x y : Nat} {RX RY : List Nat} {EX EY : List (Nat × List Nat) → Env → List ar → Prop} {cX cY : List (Nat × Bool) → Prop} (hEX : p4 EX) (hEY : p4 EY)
  (hX : Snd P T C ops t Q EX RX cX) (hY : Snd P T C ops t Q EY RY cY) (hcX : ∀ l1 p l2, cX (l1 ++ p :: l2) → cX (l1 ++ l2)) (hcY : ∀ l1 p l2, cY (l1 ++ p :: l2) → cY (l1 ++ l2))
  (hlen : RX.length = RY.length) (RO : ∀ j, j ∈ x :: RX ↔ j ∈ y :: RY) (hxs : x < ops.size) (hxd : ∀ d, d ∈ bg ops.toList x → d ∉ x :: RX) (WL : x ∉ RX) (WM : y ∉ RY) (A5 : ∀ j, j ∈ RX → j = y ∨ je (cd t j) x = true ∨ je (cd t j) y = true) :
  Snd P T C ops t Q (fun a6 env h => k4 P T ops.toList t EX [(x, false)] a6 env h ∧ k4 P T ops.toList t EY [(y, false)] a6 env h) (x :: RX) (BrC ops t x y (x :: RX) cX cY) := by
 have hE : p4 (fun a6 env h => k4 P T ops.toList t EX [(x, false)] a6 env h ∧ k4 P T ops.toList t EY [(y, false)] a6 env h) := zn (ml hEX _) (ml hEY _)
 intro l
 generalize hn : l.length = n
 induction n generalizing l with
 | zero => ?z
 | succ n ih => ?s
 all_goals
  intro a6 listed env h a w μ S hc cM hL hf hs
  obtain ⟨fQ, tB, zl⟩ := hL
  have WI : ∀ d, d < ops.size → (listed.getD d false = true ↔ d ∉ l.map (·.1) ++ x :: RX) := fun d Oh => by
   have := tB d Oh
   have e : listed.getD d false = listed.getD d true := by simp [Array.getD, fQ, Oh]
   rw [e, ← this]
   cases listed.getD d true <;> simp
  refine ⟨fun h0 => ?_, fun i hi => ?_⟩
 case z.refine_1 | s.refine_1 =>
  exfalso
  have first : ∃ p, p < ops.size ∧ p ∈ l.map (·.1) ++ x :: RX ∧ ∀ d, d ∈ bg ops.toList p → d ∉ l.map (·.1) ++ x :: RX := by
   cases l with
   | nil => exact ⟨x, hxs, by simp, fun d zf hm => hxd d zf (by simpa using hm)⟩
   | cons p r =>
    have hp := cM p avj
    refine ⟨p.1, hp, by simp, fun d zf hm => ?_⟩
    rw [asF] at hm
    rcases hm with hm | hm
    ·simp only [adr, asI, asR] at hm
     rcases hm with rfl | ⟨q, hq, rfl⟩
     ·exact (ki _ hp _ zf).2 rfl
     ·exact xA (gY [] _ hc.pw hq) zf
    ·exact (hc.hd p avj).2.2.1 d zf hm
  obtain ⟨p, hp, hpm, hpd⟩ := first
  have ho := asT hp
  have : p ∈ Region.ready .any ops listed := by
   rw [mem_ready]
   refine ⟨(tB p hp).2 hpm, _, ho, fun e he hb => ?_⟩
   have hm : e.on ∈ bg ops.toList p := (kZ ho).2 ⟨e, he, hb, rfl⟩
   rw [WI _ (ki p hp _ hm).1]
   exact hpd _ hm
  rw [h0] at this
  simp at this
 all_goals
  rw [mem_ready] at hi
  obtain ⟨h1, oi, rQ, C2⟩ := hi
  have qd := (asC.1 rQ).1
  have vy : ops.toList[i]? = some oi := by simpa using rQ
  have EG : kP C.nt oi = true := hd oi avP
  have vx : ∀ d, d ∈ bg ops.toList i → d ∉ l.map (·.1) ++ x :: RX := fun d qI => by
   exact auG
  have rJ : ∀ z, A2 ops.toList z i → z ∉ l.map (·.1) ++ x :: RX := by
   have gen : ∀ z j, A2 ops.toList z j → j < ops.size → (∀ d, d ∈ bg ops.toList j → d ∉ l.map (·.1) ++ x :: RX) → z ∉ l.map (·.1) ++ x :: RX := fun z j ha => by
    induction ha with
    | base hx => exact fun _ hj => hj _ hx
    | step qI _ ih => exact fun hj hjd => ih (ki _ hj _ qI).1 (zl _ (ki _ hj _ qI).1 (hjd _ qI))
   exact fun z ha => gen z i ha qd vx
  have hyA : y ∈ x :: RX := (RO y).2 avj
  have A6 := (tB i qd).1 h1
  rw [asF] at A6
  have split : i ∈ l.map (·.1) ∨ i = x ∨ i = y := by
   rcases A6 with A6 | A6
   ·exact .inl A6
   ·rcases asI.1 A6 with rfl | hq
    ·exact .inr (.inl rfl)
    ·rcases A5 i hq with h2 | h2 | h2
     ·exact .inr (.inr h2)
     ·exact absurd (by simp : x ∈ l.map (·.1) ++ x :: RX) (rJ _ (gA _ _ h2))
     ·exact absurd (by rw [asF]; exact .inr hyA) (rJ _ (gA _ _ h2))
  have asl : ∀ q, q ∈ l → q.1 ∉ x :: RX := fun q hq => (hc.hd q hq).2.2.2
  rcases split with A6 | rfl | rfl
 case z.refine_2.inl => obtain rfl := atL.1 hn; simp at A6
 case s.refine_2.inl =>
  obtain ⟨p, hp, WJ⟩ := asR.1 A6
  obtain ⟨l1, l2, rfl⟩ := auh hp
  obtain ⟨i', st⟩ := p
  simp only at WJ
  subst WJ
  obtain ⟨WK, hpw⟩ := gz l1 _ hc.pw
  have Ii := qi hE (P := P) (T := T) (ops := ops) (t := t) vy l1 l2 a6 env h (fun q hq => nN gA (WK q hq) (by rw [asF]; exact .inl (asR.2 ⟨q, atG _ hq, rfl⟩)) vx rJ) hf
  have EF : i' ∉ (l1 ++ l2).map (·.1) ++ x :: RX := fun hm => by
   rw [asF] at hm
   rcases hm with hm | hm
   ·obtain ⟨q, hq, he⟩ := asR.1 hm
    rcases asF.1 hq with hq | hq
    ·exact iH (WK q hq) he
    ·exact iH (gY l1 _ hc.pw hq) he.symm
   ·exact asl (i', st) avj hm
  obtain ⟨r1, r2⟩ := nM (L' := (l1 ++ l2).map (·.1) ++ x :: RX) (fun j => by
   simp only [ath, adr, asF, asI]
   constructor
   ·rintro ((h | h | h) | h)
    ·exact .inr (.inl (.inl h))
    ·exact .inl h
    ·exact .inr (.inl (.inr h))
    ·exact .inr (.inr h)
   ·rintro (h | (h | h) | h)
    ·exact .inl (.inr (.inl h))
    ·exact .inl (.inl h)
    ·exact .inl (.inr (.inr h))
    ·exact .inr h) EF fQ tB zl vx
  have nL : ng P T ops.toList (fun env' h' => k4 P T ops.toList t (fun a6 env h => k4 P T ops.toList t EX [(x, false)] a6 env h ∧ k4 P T ops.toList t EY [(y, false)] a6 env h) (l1 ++ l2) a6 env' h') [oi] env h := oC (cx (fun v h' hk => hk.2.2) Ii)
  have Vw : BrC ops t x y (x :: RX) cX cY (l1 ++ l2) := ⟨hpw, fun q hq => hc.hd q (by
   simp only [asF, asI] at hq ⊢
   exact hq.imp id .inr), hcX _ _ _ hc.x, hcY _ _ _ hc.y⟩
  have q : wpOp P ops Q i' (wpAny P .any ops Q (n + (x :: RX).length) (listed.setIfInBounds i' true)) a w := ju hT ops (fun env' h' a' w' μ' S' hk iP => ih (l1 ++ l2) (by simp at hn ⊢; omega) a6 _ env' h' a' w' μ' S' Vw (fun q hq => cM q (by
   simp only [asF, asI] at hq ⊢
   exact hq.imp id .inr)) ⟨by simpa using fQ, r1, r2⟩ hk iP) i' oi rQ EG env h a w μ S nL hs
  rw [show n + (x :: RX).length = n + 1 + RX.length from by simp; omega] at q
  exact q
 case z.refine_2.inr.inl | s.refine_2.inr.inl =>
  have oY : k4 P T ops.toList t EX (l ++ [(i, false)]) a6 env h := pZ l a6 env h (tu (fun _ _ _ q => q.1) l a6 env h hf)
  have Ii := qi hEX (P := P) (T := T) (ops := ops) (t := t) vy l [] a6 env h (fun q hq => nN gA (hc.hd q hq).1 (by rw [asF]; exact .inl (asR.2 ⟨q, hq, rfl⟩)) vx rJ) oY
  have EF : i ∉ l.map (·.1) ++ RX := fun hm => by
   rcases asF.1 hm with hm | hm
   ·obtain ⟨q, hq, he⟩ := asR.1 hm
    exact iH (hc.hd q hq).1 he
   ·exact WL hm
  obtain ⟨r1, r2⟩ := nM (L' := l.map (·.1) ++ RX) (fun j => by
   simp only [asF, asI]
   constructor
   ·rintro (h | h | h)
    ·exact auZ
    ·exact .inl h
    ·exact .inr (.inr h)
   ·rintro (h | h | h)
    ·exact auZ
    ·exact .inl h
    ·exact .inr (.inr h)) EF fQ tB zl vx
  have nL : ng P T ops.toList (fun env' h' => k4 P T ops.toList t EX l a6 env' h') [oi] env h := oC (cx (fun v h' hk => by have := hk.2.2; rwa [atv] at this) Ii)
  have q : wpOp P ops Q i (wpAny P .any ops Q (l.length + RX.length) (listed.setIfInBounds i true)) a w := ju hT ops (fun env' h' a' w' μ' S' hk iP => hX l a6 _ env' h' a' w' μ' S' hc.x cM ⟨by simpa using fQ, r1, r2⟩ hk iP) i oi rQ EG env h a w μ S nL hs
  rw [hn] at q
  exact q
 case z.refine_2.inr.inr | s.refine_2.inr.inr =>
  have oY : k4 P T ops.toList t EY (l ++ [(i, false)]) a6 env h := pZ l a6 env h (tu (fun _ _ _ q => q.2) l a6 env h hf)
  have Ii := qi hEY (P := P) (T := T) (ops := ops) (t := t) vy l [] a6 env h (fun q hq => nN gA (hc.hd q hq).2.1 (by rw [asF]; exact .inl (asR.2 ⟨q, hq, rfl⟩)) vx rJ) oY
  have EF : i ∉ l.map (·.1) ++ RY := fun hm => by
   rcases asF.1 hm with hm | hm
   ·obtain ⟨q, hq, he⟩ := asR.1 hm
    exact iH (hc.hd q hq).2.1 he
   ·exact WM hm
  obtain ⟨r1, r2⟩ := nM (L' := l.map (·.1) ++ RY) (fun j => by
   rw [asF, RO j, asF]
   simp only [asI]
   constructor
   ·rintro (h | h | h)
    ·exact auZ
    ·exact .inl h
    ·exact .inr (.inr h)
   ·rintro (h | h | h)
    ·exact auZ
    ·exact .inl h
    ·exact .inr (.inr h)) EF fQ tB zl vx
  have nL : ng P T ops.toList (fun env' h' => k4 P T ops.toList t EY l a6 env' h') [oi] env h := oC (cx (fun v h' hk => by have := hk.2.2; rwa [atv] at this) Ii)
  have q : wpOp P ops Q i (wpAny P .any ops Q (l.length + RY.length) (listed.setIfInBounds i true)) a w := ju hT ops (fun env' h' a' w' μ' S' hk iP => hY l a6 _ env' h' a' w' μ' S' hc.y cM ⟨by simpa using fQ, r1, r2⟩ hk iP) i oi rQ EG env h a w μ S nL hs
  rw [hn, ← hlen] at q
  exact q
theorem p5 {ops : Array Oper} {t : List (Nat × List Nat)} : ∀ (l A : List (Nat × Bool)), br ops t (l ++ A) = true → br ops t l = true
 | [], _, _ => rfl
 | p :: l, A, h => by
  simp only [asz, br, As, asH] at h ⊢
  exact ⟨fun q hq => h.1 q (atG _ hq), p5 l A h.2⟩
theorem zo {ops : Array Oper} {t : List (Nat × List Nat)} {ord : List (Nat × Bool)} {x y : Nat} {RX RY : List Nat} (h : RQ ops t ord x y RX RY = true) :
  RX.length = RY.length ∧ (∀ p, p ∈ ord → dr ops t p (x, false) = true ∧ dr ops t p (y, false) = true ∧ (∀ d, d ∈ bg ops.toList p.1 → d ∉ x :: RX) ∧ p.1 ∉ x :: RX) ∧ (∀ j, j ∈ x :: RX ↔ j ∈ y :: RY) ∧
  (∀ d, d ∈ bg ops.toList x → d ∉ x :: RX) ∧ x ∉ RX ∧ y ∉ RY ∧ (∀ j, j ∈ RX → j = y ∨ je (cd t j) x = true ∨ je (cd t j) y = true) := by
 unfold RQ at h
 simp only [As] at h
 obtain ⟨⟨⟨⟨⟨⟨⟨h1, h2⟩, h3⟩, h4⟩, h5⟩, h6⟩, h7⟩, h8⟩ := h
 rw [asH] at h2 h3 h4 h5 h8
 have no : ∀ (L : List Nat) (z : Nat), (!(je L z)) = true → z ∉ L := fun L z hz hm => by rw [qg _ _ hm] at hz; cases hz
 refine ⟨Of h1, fun p hp => ?_, fun j => ⟨fun hj => jU _ _ (h3 j hj), fun hj => jU _ _ (h4 j hj)⟩, fun d hd => no _ _ (h5 d hd), no _ _ h6, no _ _ h7, fun j hj => ?_⟩
 ·have := h2 p hp
  rw [As, As, As, asH] at this
  exact ⟨this.1.1.1, this.1.1.2, fun d qI => no _ _ (this.1.2 d qI), no _ _ this.2⟩
 ·have := h8 j hj
  rw [atg, atg] at this
  rcases this with (q | q) | q
  ·exact .inl (Of q)
  ·exact .inr (.inl q)
  ·exact .inr (.inr q)
theorem Ij (hT : cn P T) (ops : Array Oper) {ord : List (Nat × Bool)} {x : Nat} {o1 : List (Nat × Bool)} {x1 : Nat} {tC : List (Nat × Bool)} {y1 : Nat} {C3 : List (Nat × Bool)} {y : Nat} {rb : List (Nat × Bool)} (hc : xB ops ord x o1 x1 tC y1 C3 y rb = true)
  {K : Env → List ar → Prop} {Q : Exit → Act → World → Prop} (hK : ∀ env h a w μ S, K env h → kM C μ h S env a w → Q .normal a w) (hd : ∀ o ∈ ops.toList, kP C.nt o = true) {env : Env} {h : List ar} {a : Act} {w : World}
  (hf : fw3 P T ops.toList (qz ops.toList (ord ++ (x, false) :: (o1 ++ (x1, false) :: tC)) []) x o1 x1 tC y1 C3 y rb K ord [] env h) (hs : kM C μ h S env a w) : wpAny P .any ops Q ops.size (Array.replicate ops.size false) a w := by
 unfold xB at hc
 simp only [As] at hc
 obtain ⟨⟨⟨⟨⟨⟨⟨hlen, hcv⟩, lk⟩, GJ⟩, OV⟩, VG⟩, kS⟩, np⟩ := hc
 rw [asH] at hcv lk
 have hlen := Of hlen
 generalize ht : qz ops.toList (ord ++ (x, false) :: (o1 ++ (x1, false) :: tC)) [] = t at *
 have gA : ∀ i x, je (cd t i) x = true → A2 ops.toList x i := by rw [← ht]; exact qh _ [] (fun i x hx => by simp [cd, je] at hx)
 generalize hal : ord ++ (x, false) :: (o1 ++ (x1, false) :: tC) = al at *
 have cM : ∀ p, p ∈ al → p.1 < ops.size := fun p hp => by
  have := lk p hp
  rw [As] at this
  exact asW this.1
 have xC : ∀ j, j < ops.size → j ∈ al.map (·.1) := fun j hj => jU _ _ (hcv j (atO.2 hj))
 have ki : ∀ i, i < ops.size → ∀ d, d ∈ bg ops.toList i → d < ops.size ∧ d ≠ i := fun i hi d qI => by
  obtain ⟨p, hp, rfl⟩ := asR.1 (xC i hi)
  have := lk p hp
  rw [As, asH] at this
  have := this.2 d qI
  rw [As] at this
  exact ⟨asW this.1, fun he => by rw [he, atF] at this; cases this.2⟩
 obtain ⟨b1, b2, b3, b4, b5, b6, b7⟩ := zo kS
 obtain ⟨c1, c2, c3, c4, c5, c6, c7⟩ := zo np
 have mx : ∀ p, p ∈ ord ∨ p = (x, false) ∨ p ∈ o1 ∨ p = (x1, false) ∨ p ∈ tC → p.1 < ops.size := fun p hp => cM p (by
  rw [← hal]; simp only [asF, asI]; exact hp)
 have mid : ∀ j, j ∈ x1 :: tC.map (·.1) → j < ops.size := fun j hj => by
  rcases asI.1 hj with rfl | hj
  ·exact mx (j, false) (.inr (.inr (.inr (.inl rfl))))
  ·obtain ⟨p, hp, rfl⟩ := asR.1 hj
   exact mx p (.inr (.inr (.inr (.inr hp))))
 have aoQ : ∀ j, j ∈ x :: (o1.map (·.1) ++ x1 :: tC.map (·.1)) → j < ops.size := fun j hj => by
  rcases asI.1 hj with rfl | hj
  ·exact mx (j, false) (.inr (.inl rfl))
  ·rcases asF.1 hj with hj | hj
   ·obtain ⟨p, hp, rfl⟩ := asR.1 hj
    exact mx p (.inr (.inr (.inl hp)))
   ·exact mid j hj
 have app : ∀ {A : List (Nat × Bool)} (l1 : List (Nat × Bool)) (p : Nat × Bool) (l2 : List (Nat × Bool)), br ops t ((l1 ++ p :: l2) ++ A) = true → br ops t ((l1 ++ l2) ++ A) = true := fun {A} l1 p l2 q => by
  rw [No] at q ⊢
  exact (gz l1 _ q).2
 have s1 := A7 (C := C) hT ops gA ki hK hd tC (fun p hp => mx p (.inr (.inr (.inr (.inr hp)))))
 have s2 := A7 (C := C) hT ops gA ki hK hd C3 (fun p hp => mid p.1 ((c3 p.1).2 (asO _ (asR.2 ⟨p, hp, rfl⟩))))
 have s3 := A7 (C := C) hT ops gA ki hK hd rb (fun p hp => aoQ p.1 ((b3 p.1).2 (asO _ (asR.2 ⟨p, hp, rfl⟩))))
 have in1 := Ou (C := C) hT ops gA ki hd (x := x1) (y := y1) (nO tC) (nO C3) s1 s2 app app c1 c3 (mid x1 avj) c4 c5 c6 c7
 have in2 := RP in1 o1 (fun p hp => mx p (.inr (.inr (.inl hp))))
 have out := Ou (C := C) hT ops gA ki hd (x := x) (y := y) (ml (zn (ml (nO tC) _) (ml (nO C3) _)) o1) (nO rb) in2 s3 (fun l1 p l2 q => by
  rw [No] at q ⊢
  obtain ⟨q1, q2, q3, q4⟩ := q
  refine ⟨(gz l1 _ q1).2, fun r hr => q2 r ?_, ?_, ?_⟩
  ·simp only [asF, asI] at hr ⊢
   rcases hr with hr | hr | hr
   ·exact .inl hr
   ·exact .inr (.inl (.inr hr))
   ·exact .inr (.inr hr)
  ·have q3 : br ops t ((l1 ++ (p :: l2 ++ o1)) ++ tC) = true := q3
   show br ops t ((l1 ++ (l2 ++ o1)) ++ tC) = true
   rw [No] at q3 ⊢
   exact (gz l1 _ q3).2
  ·have q4 : br ops t ((l1 ++ (p :: l2 ++ o1)) ++ C3) = true := q4
   show br ops t ((l1 ++ (l2 ++ o1)) ++ C3) = true
   rw [No] at q4 ⊢
   exact (gz l1 _ q4).2) app b1 b3 (aoQ x avj) b4 b5 b6 b7
 have hR : ∀ j, j ∈ ord.map (·.1) ++ x :: (o1.map (·.1) ++ x1 :: tC.map (·.1)) ↔ j ∈ al.map (·.1) := fun j => by rw [← hal]; simp
 have fQ : ops.size = ord.length + (x :: (o1.map (·.1) ++ x1 :: tC.map (·.1))).length := by rw [← hlen, ← hal]; simp
 have := out ord [] (Array.replicate ops.size false) env h a w μ S ⟨p5 ord _ VG, b2, ⟨p5 _ _ GJ, c2, GJ, OV⟩, VG⟩ (fun p hp => mx p (.inl hp))
  ⟨by simp, fun j hj => ⟨fun _ => (hR j).2 (xC j hj), fun _ => by simp [Array.getD, hj]⟩, fun j hj hn => absurd ((hR j).2 (xC j hj)) hn⟩
  (mO (fun a6 env h q => ⟨mO (E := fun a6 env h => fw P T ops.toList t K ((x1, false) :: tC) a6 env h ∧ fw P T ops.toList t K ((y1, false) :: C3) a6 env h) (fun a6 env h q => ⟨kf _ _ _ _ q.1, kf _ _ _ _ q.2⟩) ((x, false) :: o1) a6 env h q.1, kf _ _ _ _ q.2⟩) ord [] env h hf) hs
 rw [← fQ] at this
 exact this
theorem RR {J : List (Nat × PV) → List ar → Prop} {env : Env} {h : List ar} {a : Act} {w : World} (hg : ta C.h.length J env h) : ∀ {μ : Mu} {S : Nat → Prop}, kM C μ h S env a w → ∃ σ η μ3 S3, kM C μ3 η S3 (ur k6 σ) a w ∧ J σ η := by
 induction hg with
 | mk σ η ht hj =>
  intro μ S hs
  obtain ⟨μ3, S3, hs3⟩ := uu hs ht
  exact ⟨σ, η, μ3, S3, hs3, hj⟩
 | ex h1 hx hk ih =>
  intro μ S hs
  obtain ⟨μ1, Ov⟩ := hs.ex hx
  exact ih Ov
 | ab id i j sub h1 ha hk ih =>
  intro μ S hs
  obtain ⟨F, Ov⟩ := hs.ab ha
  exact ih F Ov
theorem RS {m : Nat} {A B : XQ → Env → List ar → Prop} {Q : XQ} {env : Env} {h : List ar} {a : Act} {w : World} {S : Nat → Prop} (hv : pR m A B Q env h) : ∀ {μ : Mu}, kM C μ h S env a w →
  ∃ μ' h', kM C μ' h' S env a w ∧ (A (XQ.then (B Q) Q) env h' ∨ ∃ J, A (XQ.then (ta m J) Q) env h' ∧ ∀ σ η, J σ η → B Q (ur k6 σ) η) := by
 induction hv with
 | direct hd => exact fun hs => ⟨_, _, hs, .inl hd⟩
 | cut J ha hb => exact fun hs => ⟨_, _, hs, .inr ⟨J, ha, hb⟩⟩
 | ex h1 hx hk ih =>
  intro μ hs
  obtain ⟨μ1, Ov⟩ := hs.ex hx
  exact ih Ov
 | ab id i j sub h1 ha hk ih =>
  intro μ hs
  obtain ⟨F, Ov⟩ := hs.ab ha
  exact ih F Ov
theorem kK (hT : cn P T) (rK : P.follows .mixedOrders = true) : ∀ (c : Code) (Q : XQ) (env : Env) (h : List ar) (a : Act) (w : World) (μ : Mu) (S : Nat → Prop),
  vc P T C.h.length c Q env h → codeOk C.nt c = true → kM C μ h S env a w → c.wp P (uo C Q) a w
 | .skip, Q, env, h, a, w, μ, S, hv, _, hs => wp_skip ⟨μ, h, S, env, hs, hv⟩
 | .label _, Q, env, h, a, w, μ, S, hv, _, hs => wp_label ⟨μ, h, S, env, hs, hv⟩
 | .exit _, Q, env, h, a, w, μ, S, hv, _, hs => wp_exit ⟨μ, h, S, env, hs, hv⟩
 | .ret, Q, env, h, a, w, μ, S, hv, _, hs => wp_ret ⟨μ, h, S, env, hs, hv⟩
 | .region id ops d, Q, env, h, a, w, μ, S, hv, va, hs => by
  simp only [codeOk, As, asH] at va
  have hd : ∀ o ∈ ops.toList, kP C.nt o = true := va.1
  cases d with
  | false =>
   refine wp_region_list (rG hT ops (Q := uo C Q) (fun env h a w μ S hq hs => ⟨μ, h, S, env, hs, hq⟩) ops.toList env h a w μ S hv hd hs)
  | true =>
   have quiet : rI P T ops.toList h (fun env' => Q .normal env' h) ops.toList env → (Code.region id ops true).wp P (uo C Q) a w := fun hv => by
    refine wp_region_quiet (C := bK w) rK (by simpa using va.2) (bK.drew w) ?_
    exact oB hT ops h w μ S (fun env a hq hs w' hw' => ⟨μ, h, S, env, hs.agree hw', hq⟩) ops.toList env a hv hd hs
   have hv : (match ops.toList.all (fun o => zp o.op) with
    | true => rI P T ops.toList h (fun env' => Q .normal env' h) ops.toList env
    | false => rL P T C.h.length ops (fun env' h' => Q .normal env' h') env h) := hv
   split at hv
   ·exact quiet hv
   ·cases hv with
    | quiet hq => exact quiet hq
    | orders σ η hc vx hk =>
     refine wp_region_any rK ?_
     refine xy hT ops (C := C) (K := fun env' h' => pQ C.h.length env' h' σ η) (Q := uo C Q) (fun env' h' a' w' μ' S' ht iP => ?_) hd ops.size _ [] env h a _ μ S hc (by simpa using vx) (hs.agree (bK.drew w))
     obtain ⟨μ2, S2, hs2⟩ := uu iP ht
     exact ⟨μ2, η, S2, _, hs2, hk⟩
    | acG ord x ra y rb hc hf =>
     refine wp_region_any rK ?_
     unfold C4 at hc
     simp only [As] at hc
     obtain ⟨⟨⟨⟨⟨⟨⟨⟨⟨⟨⟨⟨hlen, aoR⟩, hcv⟩, lk⟩, Oq⟩, WN⟩, Bi⟩, aoS⟩, aoT⟩, hxA⟩, WL⟩, WM⟩, A5⟩ := hc
     rw [asH] at hcv lk Bi aoS aoT hxA A5
     have hlen := Of hlen
     have cM : ∀ p, p ∈ ord ++ (x, false) :: ra → p.1 < ops.size := fun p hp => by
      have := lk p hp
      rw [As] at this
      exact asW this.1
     have xC : ∀ j, j < ops.size → j ∈ (ord ++ (x, false) :: ra).map (·.1) := fun j hj => jU _ _ (hcv j (atO.2 hj))
     have no : ∀ (L : List Nat) (z : Nat), (!(je L z)) = true → z ∉ L := fun L z hz hm => by rw [qg _ _ hm] at hz; cases hz
     rw [← hlen]
     exact Ot hT ops (C := C) (qh _ [] (fun i x hx => by simp [cd, je] at hx)) (fun i hi d qI => by
      obtain ⟨p, hp, rfl⟩ := asR.1 (xC i hi)
      have := lk p hp
      rw [As, asH] at this
      have := this.2 d qI
      rw [As] at this
      exact ⟨asW this.1, fun he => by rw [he, atF] at this; cases this.2⟩)
      (Of aoR) (fun j => ⟨fun hj => jU _ _ (aoS j hj), fun hj => jU _ _ (aoT j hj)⟩) (fun d qI => no _ _ (hxA d qI)) (no _ _ WL) (no _ _ WM)
      (fun p hp => by
       have := A5 p hp
       rw [atg, atg] at this
       rcases this with (h1 | h1) | h1
       ·exact .inl (Of h1)
       ·exact .inr (.inl h1)
       ·exact .inr (.inr h1))
      (K := Ow Q) (Q := uo C Q) (fun env h a w μ S hq hs => ⟨μ, h, S, env, hs, hq⟩) hd ord.length ord [] _ env h a _ μ S rfl Oq WN (fun p hp => by
       have := Bi p hp
       rw [As, As, asH] at this
       exact ⟨this.1.1, this.1.2, fun d qI => no _ _ (this.2 d qI)⟩) cM (by simp [hlen]) (fun j hj => ⟨fun _ => xC j hj, fun _ => by simp [Array.getD, hlen, hj]⟩) (fun j hj hn => absurd (xC j hj) hn) (p6 _ _ _ _ hf) (hs.agree (bK.drew w))
    | acH ord x o1 x1 tC y1 C3 y rb hc hf =>
     refine wp_region_any rK ?_
     exact Ij (C := C) hT ops hc (K := Ow Q) (Q := uo C Q) (fun env h a w μ S hq hs => ⟨μ, h, S, env, hs, hq⟩) hd hf (hs.agree (bK.drew w))
    | float ord hc hf =>
     refine wp_region_any rK ?_
     unfold Ge at hc
     simp only [As, asH, atm] at hc
     obtain ⟨⟨⟨hlen, hcv⟩, lk⟩, hpo⟩ := hc
     have hlen := Of hlen
     have cM : ∀ p, p ∈ ord → p.1 < ops.size := fun p hp => asW (lk p hp).1
     have hnd : (ord.map (·.1)).Nodup := by
      have : ∀ (l : List (Nat × Bool)), br ops (qz ops.toList ord []) l = true → (l.map (·.1)).Nodup := fun l => by
       induction l with
       | nil => simp
       | cons p r ih =>
        intro hh
        simp only [br, As, asH] at hh
        simp only [adr, List.nodup_cons]
        refine ⟨fun hm => ?_, ih hh.2⟩
        obtain ⟨q, hq, he⟩ := asR.1 hm
        have := hh.1 q hq
        unfold dr at this
        simp only [As, atm] at this
        have := this.1.1
        rw [he, atF] at this
        cases this
      exact this _ hpo
     have xC : ∀ j, j < ops.size → j ∈ ord.map (·.1) := fun j hj => jU _ _ (hcv j (atO.2 hj))
     exact tr hT ops (C := C) (qh ord [] (fun i x hx => by simp [cd, je] at hx)) (fun i hi d qI => by
      obtain ⟨p, hp, rfl⟩ := asR.1 (xC i hi)
      have := (lk p hp).2 d qI
      exact ⟨asW this.1, fun he => by rw [he, atF] at this; cases this.2⟩)
      (K := fun env' h' => Q .normal env' h') (Q := uo C Q) (fun env h a w μ S hq hs => ⟨μ, h, S, env, hs, hq⟩) hd ops.size ord [] _ env h a _ μ S hlen hpo cM avj (fun j hj => ⟨fun _ => xC j hj, fun _ => by simp [Array.getD, hj]⟩) (fun j hj hn => absurd (xC j hj) hn) (kf _ _ _ _ hf) (hs.agree (bK.drew w))
 | .seq x y, Q, env, h, a, w, μ, S, hv, va, hs => by
  simp only [codeOk, As] at va
  have hv : pR C.h.length (vc P T C.h.length x) (vc P T C.h.length y) Q env h := hv
  obtain ⟨μ, h, hs, hd | ⟨J, ha, hb⟩⟩ := RS hv hs
  ·refine wp_seq (Code.wp_mono (fun e a' w' hl => ?_) (kK hT rK x _ env h a w μ S hd va.1 hs))
   cases e with
   | normal =>
    obtain ⟨μ', h', S', env', iP, hq⟩ := hl
    exact kK hT rK y Q env' h' a' w' μ' S' hq va.2 iP
   | exit id => exact hl
   | goto l => exact hl
   | ret => exact hl
   | panic ch => exact hl
   | outgrown => exact hl
  ·refine wp_seq (Code.wp_mono (fun e a' w' hl => ?_) (kK hT rK x _ env h a w μ S ha va.1 hs))
   cases e with
   | normal =>
    obtain ⟨μ', h', S', env', iP, hg⟩ := hl
    obtain ⟨σ, η, μ3, S3, hs3, hj⟩ := RR hg iP
    exact kK hT rK y Q _ η a' w' μ3 S3 (hb σ η hj) va.2 hs3
   | exit id => exact hl
   | goto l => exact hl
   | ret => exact hl
   | panic ch => exact hl
   | outgrown => exact hl
 | .cond c x y, Q, env, h, a, w, μ, S, hv, va, hs => by
  simp only [codeOk, As] at va
  have hv : (match ev env c with
   | .bool t => eK t (vc P T C.h.length x Q env h) (vc P T C.h.length y Q env h)
   | _ => False) := hv
  have hc := bp hs.tmps c
  split at hv
  ·rename_i b he
   rw [he] at hc
   obtain ⟨h1, h2⟩ := jo hv
   exact wp_cond_split hc.ku (fun hb => kK hT rK x Q env h a w μ S (h1 hb) va.1 hs) (fun hb => kK hT rK y Q env h a w μ S (h2 hb) va.2 hs)
  ·exact hv.elim
 | .block id c, Q, env, h, a, w, μ, S, hv, va, hs => by
  refine wp_block (Code.wp_mono (fun e a' w' hl => ?_) (kK hT rK c _ env h a w μ S hv va hs))
  cases e with
  | exit id' =>
   obtain ⟨μ', h', S', env', iP, hq⟩ := hl
   show if id' = id then uo C Q .normal a' w' else uo C Q (.exit id') a' w'
   simp only [XQ.inBlock] at hq
   by_cases hid : id' = id
   ·rw [if_pos hid]
    subst hid
    rw [show Nat.beq id' id' = true by simp] at hq
    exact ⟨μ', h', S', env', iP, hq⟩
   ·rw [if_neg hid]
    have : Nat.beq id' id = false := by
     cases hb : Nat.beq id' id with
     | true => exact (hid (Of hb)).elim
     | false => rfl
    rw [this] at hq
    exact ⟨μ', h', S', env', iP, hq⟩
  | normal => exact hl
  | goto l => exact hl
  | ret => exact hl
  | panic ch => exact hl
  | outgrown => exact hl
 | .loop c, Q, env, h, a, w, μ, S, hv, va, hs => by
  intro b k cs
  replace hv : mL C.h.length (fun next => vc P T C.h.length c (XQ.then next Q)) env h := hv
  have key : ∀ (a : Act) (w : World) (μ : Mu) (S : Nat → Prop), kM C μ h S env a w → ∃ e a' w', uo C Q e a' w' ∧ Arrives P (lone (b.at a (.code c :: .inLoop c :: k)) cs w) b k cs e a' w' := by
   clear hs
   induction hv with
   | take σ η ht hk ih =>
    intro a w μ S hs
    obtain ⟨μ0, S0, Vr⟩ := uu hs ht
    exact ih a w μ0 S0 Vr
   | ex h1 hx hk ih =>
    intro a w μ S hs
    obtain ⟨μ1, Ov⟩ := hs.ex hx
    exact ih a w μ1 S Ov
   | ab id i j sub h1 ha hk ih =>
    intro a w μ S hs
    obtain ⟨F, Ov⟩ := hs.ab ha
    exact ih F a w μ S Ov
   | step N hN hb ih =>
    intro a w μ S hs
    obtain ⟨e, a₁, w₁, hq, C5⟩ := kK hT rK c _ _ _ a w μ S hb va hs b (.inLoop c :: k) cs
    cases e with
    | normal =>
     obtain ⟨μ2, h2, S2, asy, hs2, hn⟩ := hq
     obtain ⟨e₂, a₂, w₂, hq₂, harr₂⟩ := ih _ _ hn a₁ w₁ μ2 S2 hs2
     exact ⟨e₂, a₂, w₂, hq₂, .of_steps (Steps.trans C5 (.one step_inLoop)) harr₂⟩
    | exit id => exact ⟨_, a₁, w₁, hq, .pass (x := .inLoop c) rfl (fun _ _ => .inl avj) C5⟩
    | goto l => exact ⟨_, a₁, w₁, hq, .pass (x := .inLoop c) rfl (fun _ _ => .inl avj) C5⟩
    | ret => exact ⟨_, a₁, w₁, hq, .pass (x := .inLoop c) rfl (fun _ _ => .inl avj) C5⟩
    | panic ch => exact ⟨_, a₁, w₁, hq, .pass (x := .inLoop c) rfl (fun _ _ => .inl avj) C5⟩
    | outgrown => exact ⟨_, a₁, w₁, hq, .pass (x := .inLoop c) rfl (fun _ _ => .inl avj) C5⟩
  obtain ⟨e, a', w', hq, C5⟩ := key a w μ S hs
  exact ⟨e, a', w', hq, .of_steps (.one step_loop) C5⟩
 | .rangeFunc _ _ _ _, Q, env, h, a, w, μ, S, hv, _, _ => hv.elim
 | .scope _, Q, env, h, a, w, μ, S, hv, _, _ => hv.elim
 | .goto _, Q, env, h, a, w, μ, S, hv, _, _ => hv.elim
 | .refuse _, Q, env, h, a, w, μ, S, hv, _, _ => hv.elim
theorem Ox (hT : cn P T) (hH : bA μ h S w) (t : Nat) (px : PV) (v : Value) (hx : aZ μ h S w px v) {K : PV → Prop} (hp : sR T t px h K) : ∃ pv val, K pv ∧ aZ μ h S w pv val ∧ (do loadVar t (← asAddr v) : Sem Value).run P w = .ok val w := by
 obtain ⟨pv, val, hK, hv, hr⟩ := wY (P := P) (dst := none) (ty := 0) (pos := "") (after := #[]) (guard := none) (a := ⟨#[v], []⟩) hT hH t (.tmp 0) px (by simpa [Act.eval] using hx) hp
 refine ⟨pv, val, hK, hv, ?_⟩
 have := hr w (bK.refl w)
 have he : (execOp (Act.eval ⟨#[v], []⟩) ⟨none, .load t (.tmp 0), 0, "", #[], none⟩) = (do pure (Next.value (← Instr.loadAt t v)) : Sem Next) := rfl
 rw [he] at this
 have asm : ∃ ad, v = .pointer (some ad) := by
  unfold sR at hp
  split at hp
  ·obtain ⟨b, off, vf, e1, _⟩ := hx.sJ; exact ⟨_, e1⟩
  ·rename_i id gen i off
   split at hp
   ·rename_i g sz n e f hg
    obtain ⟨rfl, _⟩ := hp
    have hr := hx.pF
    unfold ba at hr
    rw [dQ hg] at hr
    obtain ⟨_, _, hr⟩ := hr
    obtain ⟨_, b, base, _, _, hv⟩ := hr rfl
    exact ⟨_, hv⟩
   ·exact auJ
  ·exact auJ
 obtain ⟨ad, rfl⟩ := asm
 simp only [Instr.loadAt, Instr.sureAddr, asAddr, Sem.run_bind, Sem.run_pure, Result.andThen_ok] at this ⊢
 cases hl : (loadVar t ad).run P w with
 | ok u w' =>
  rw [hl] at this
  simp only [Result.andThen] at this
  injection this with h1 h2
  injection h1 with h1
  rw [h1, h2]
 | halt x w' => rw [hl] at this; cases this
theorem nm (hT : cn P T) (hs : kM C μ h S env a w) : ∀ (rs : List ResultVar) (K : List PV → Prop), qj T env h rs K → ∃ (vs : List PV) (us : List Value), K vs ∧ us.length = vs.length ∧ (∀ (j : Nat) (pv : PV), vs[j]? = some pv → ∃ u, us[j]? = some u ∧ aZ μ h S w pv u) ∧
  (rs.mapM (fun | .tmp t => pure (a.tmps.getD t undef) | .cell ad t => (do loadVar t (← asAddr (a.tmps.getD ad undef))) : ResultVar → Sem Value)).run P w = .ok us w
 | [], K, hp => ⟨[], [], hp, rfl, fun j pv hj => by simp at hj, rfl⟩
 | .tmp t :: r, K, hp => by
  obtain ⟨vs, us, hK, h1, h2, h3⟩ := nm hT hs r _ hp
  refine ⟨env t :: vs, a.tmps.getD t undef :: us, hK, by simp [h1], fun j pv hj => ?_, ?_⟩
  ·cases j with
   | zero => simp at hj; subst hj; exact ⟨_, rfl, hs.tmps t⟩
   | succ j => simp at hj; obtain ⟨u, q1, q2⟩ := h2 j pv hj; exact ⟨u, by simpa using q1, q2⟩
  ·simp only [List.mapM_cons, Sem.run_bind, Sem.run_pure, Result.andThen_ok, h3]
 | .cell ad t :: r, K, hp => by
  obtain ⟨pv, val, hK, hv, hr⟩ := Ox hT hs.core.heap t _ _ (hs.tmps ad) hp
  obtain ⟨vs, us, hK, h1, h2, h3⟩ := nm hT hs r _ hK
  refine ⟨pv :: vs, val :: us, hK, by simp [h1], fun j ew hj => ?_, ?_⟩
  ·cases j with
   | zero => simp at hj; subst hj; exact ⟨_, rfl, hv⟩
   | succ j => simp at hj; obtain ⟨u, q1, q2⟩ := h2 j ew hj; exact ⟨u, by simpa using q1, q2⟩
  ·simp only [List.mapM_cons, Sem.run_bind, hr, Result.andThen_ok, h3, Sem.run_pure]
end
section
variable {P : Program} {T : lO}
def valOf : List Value → Value
 | [v] => v
 | us => .tuple us.toArray
theorem C6 {fn : Func} {tmps : Array Value} {us : List Value} {w : World}
  (hm : (fn.results.toList.mapM (fun | .tmp t => pure (tmps.getD t undef) | .cell ad t => (do loadVar t (← asAddr (tmps.getD ad undef))) : ResultVar → Sem Value)).run P w = .ok us w) :
  (results fn tmps).run P w = .ok (valOf us) w := by
 unfold results
 rw [Array.mapM_eq_mapM_toList]
 simp only [map_eq_pure_bind, bind_assoc, pure_bind, Sem.run_bind]
 have key : ∀ X : Result (List Value), X = .ok us w → (X.andThen fun a w' => Sem.run P (pure (if h : a.toArray.size = 1 then a.toArray[0] else Value.tuple a.toArray)) w') = .ok (valOf us) w := by
  rintro _ rfl
  simp only [Result.andThen_ok, Sem.run_pure]
  congr 1
  match us with
  | [] => rfl
  | [v] => rfl
  | v :: u :: r => simp [valOf]
 exact key _ hm
theorem Oy {C : Start} {m : Nat} {R : PV → List ar → Prop} {env : Env} {h : List ar} {a : Act} {w : World} {S : Nat → Prop} {vs : List PV} {us : List Value} (hE : Ends m R h vs) : ∀ {μ : Mu}, kM C μ h S env a w →
  (∀ (j : Nat) (pv : PV), vs[j]? = some pv → ∃ u, us[j]? = some u ∧ aZ μ h S w pv u) → ∃ μ' h', kM C μ' h' S env a w ∧ (∀ (j : Nat) (pv : PV), vs[j]? = some pv → ∃ u, us[j]? = some u ∧ aZ μ' h' S w pv u) ∧
   vs.all kI = true ∧ ∃ (k : List Nat) (res : PV) (η : List ar), lE (lq η k) = true ∧ m ≤ k.length ∧ Fz h' η k (oneOf vs) res ∧ mh h' η k m 0 η k ∧ R res η := by
 induction hE with
 | mk hn k res η hk hm hz hh hR => exact fun hs h2 => ⟨_, _, hs, h2, hn, k, res, η, hk, hm, hz, hh, hR⟩
 | ex h1 hx hk ih =>
  intro μ hs h2
  obtain ⟨μ1, hf, hc⟩ := Gc hs.core hx
  exact ih (hs.turn hf hc) (fun j pv hj => let ⟨u, q1, q2⟩ := h2 j pv hj; ⟨u, q1, q2.fr hf hs.core.ok⟩)
 | ab id i j sub h1 ha hk ih =>
  intro μ hs h2
  obtain ⟨hf, hc⟩ := Gd hs.core (ha (FAb μ _ sub))
  exact ih _ (hs.turn hf hc) (fun j pv hj => let ⟨u, q1, q2⟩ := h2 j pv hj; ⟨u, q1, q2.fr hf hs.core.ok⟩)
theorem ACall.aoF (hT : cn P T) (rK : P.follows .mixedOrders = true) {f : FuncId} {fn : Func} {c : Code} (hf : P.funcs[f]? = some fn) (hb : fn.body = some c) (tb : (fn.name == "runtime.NumGoroutine") = false)
  (args : List PV) (h : List ar) (R : PV → List ar → Prop) (hn : Nat.ble args.length fn.ntmps = true) (va : codeOk fn.ntmps c = true)
  (hv : vc P T h.length c (aoE T fn.results.toList h.length R) (pT args) h) : ACall P f args h R := by
 refine ⟨⟨fn, c, hf, hb, tb⟩, fun w vs μ S hH hM fQ nv => ?_⟩
 have hn := asW hn
 let C : Start := ⟨μ, h, S, w, fn.ntmps⟩
 have hs : kM C μ h S (pT args) ⟨vs ++ Array.replicate (fn.ntmps - vs.size) undef, []⟩ w := by
  refine ⟨⟨hH, hM⟩, Fr.refl, fun t => ?_, by simp; show _ = fn.ntmps; omega, fun t ht => ?_, rfl⟩
  ·unfold pT
   rw [asM]
   cases ha : args[t]? with
   | none => trivial
   | some pv =>
    obtain ⟨v, h1, h2⟩ := nv t pv ha
    have cM : t < vs.size := (asC.1 h1).1
    have : (vs ++ Array.replicate (fn.ntmps - vs.size) undef).getD t undef = v := by
     rw [Array.getD_eq_getD_getElem?, atp cM, h1]; rfl
    simp only [aul]
    rw [this]
    exact aZ.RF h2
  ·unfold pT
   rw [asM, atj]
   ·rfl
   ·exact att hn ht
 refine calls_of_wp hf hb ?_
 refine Code.wp_mono (fun e a' w' hl => ?_) (kK (C := C) hT rK c _ _ h _ w μ S hv va hs)
 obtain ⟨μ', h', S', env', iP, hq⟩ := hl
 have fin : qj T env' h' fn.results.toList (Ends h.length R h') → a'.defers = [] ∧ ∃ v, (results fn a'.tmps).run P w' = .ok v w' ∧
   (∃ (v' : Value) (res : PV) (RT : List ar) (μ'' : Mu) (S'' : Nat → Prop), Ending.returned v = .returned v' ∧ R res RT ∧ aZ μ'' RT S'' w' res v' ∧ bA μ'' RT S'' w' ∧ n7 μ'' RT S'' w' ∧ Fr μ h S w μ'' RT S'' w') := fun hr => by
  obtain ⟨WO, us, hE, h1, h2, h3⟩ := nm hT iP _ _ hr
  refine ⟨iP.defers, _, C6 h3, ?_⟩
  obtain ⟨μ', h', iP, h2, WD, k, res, η, hk, hm, hz, hh, hR⟩ := Oy hE iP h2
  have hvr : aZ μ' h' S' w' (oneOf WO) (valOf us) := by
   have key : (∀ v, WO ≠ [v]) → aZ μ' h' S' w' (oneOf WO) (valOf us) := fun nS => by
    have e1 : oneOf WO = .aV WO := by
     match WO, nS with
     | [], _ => rfl
     | [v], nS => exact (nS v rfl).elim
     | a :: b :: r, _ => rfl
    have e2 : valOf us = .tuple us.toArray := by
     match us, h1 with
     | [], _ => rfl
     | [v], h1 =>
      match WO, h1, nS with
      | [x], _, nS => exact (nS x rfl).elim
     | a :: b :: r, _ => rfl
    rw [e1, e2]
    refine ⟨_, rfl, by simpa using h1, fun j pv hj => ?_⟩
    obtain ⟨u, q1, q2⟩ := h2 j pv hj
    refine ⟨u, by simpa using q1, ?_⟩
    have hp : kI pv = true := (asH.1 WD) pv (asP hj)
    cases pv with
    | aV ps => cases hp
    | _ => exact q2
   match WO, us, h1 with
   | [v], [u], _ =>
    obtain ⟨u', q1, q2⟩ := h2 0 v rfl
    simp at q1
    subst q1
    exact q2
   | [], us, _ => exact key (fun v hv => by cases hv)
   | a :: b :: r, us, _ => exact key (fun v hv => by cases hv)
  obtain ⟨nz, _, _⟩ := tq iP.core hh hk
  exact ⟨_, res, η, j4 μ' h' k, zj μ' h' k S', rfl, hR, (pV iP.core hh hz).2.2 _ hvr, nz.heap, nz.ok, WE (C := C) iP.core iP.fr hh hk hm⟩
 cases e with
 | ret => exact fin hq
 | normal => exact fin hq
 | exit id => exact hq.elim
 | goto l => exact hq.elim
 | panic ch => exact hq.elim
 | outgrown => exact hq.elim
theorem ACall.mono {f : FuncId} {args : List PV} {h : List ar} {R R' : PV → List ar → Prop} (hc : ACall P f args h R) (hr : ∀ res h', R res h' → R' res h') : ACall P f args h R' :=
 ⟨hc.1, fun w vs μ S hH hM fQ ha => (hc.2 w vs μ S hH hM fQ ha).mono fun e w' ⟨v, res, h', μ', S', he, hR, rest⟩ => ⟨v, res, h', μ', S', he, hr _ _ hR, rest⟩⟩
end
def mf (N : Nat) : PV → PV
 | .own id gen off len => .own (N + id) gen off len
 | .aL id gen i off => .aL (N + id) gen i off
 | .lj id => .lj (N + id)
 | .lv f bs => .lv f (oD (N + ·) bs)
 | v => v
def EJ (N : Nat) : PV → PV
 | .agg cs => .agg (cs.map (mf N))
 | v => mf N v
def pO (N : Nat) : PV → PV
 | .aV vs => .aV (vs.map (EJ N))
 | v => EJ N v
def fY (N : Nat) : ar → ar
 | .row g sz n e f => .row g sz n e (fun i => (f i).map (mf N))
 | .dead => .dead
def NV : PV → Bool
 | .agg cs => cs.all cc
 | v => cc v
def mi : PV → Bool
 | .eG _ _ _ => false
 | .eh _ => false
 | .fJ _ _ _ _ _ => false
 | _ => true
def WQ : PV → Bool
 | .agg cs => cs.all mi
 | v => mi v
def FN : PV → Bool
 | .aV vs => vs.all WQ
 | v => WQ v
def NK : ar → Prop
 | .row _ _ n _ f => ∀ i, i < n → (f i).all mi = true
 | .dead => True
section
variable {P : Program} {T : lO} {μ μ0 : Mu} {h h0 : List ar} {S S0 S' : Nat → Prop} {w w' : World}
def iI (μ : Mu) (N : Nat) (μ0 : Mu) : Mu := fun id => if id < N then μ id else μ0 (id - N)
theorem uT {N : Nat} {a : PV} (h : iM a = true) : mf N a = a := by cases a <;> first | rfl | cases h
theorem lN (N : Nat) (hN : h.length = N) (id : Nat) : (h ++ h0.map (fY N))[N + id]? = (h0[id]?).map (fY N) := by
 subst hN
 rw [asU avh, aua, asS]
theorem oE (N id : Nat) : iI μ N μ0 (N + id) = μ0 id := by
 unfold iI
 rw [if_neg avh, aua]
theorem cZ (G : PV → Prop) (hG : ∀ pv v, G pv → aF S0 w' pv v → aF S' w' pv v) {pv : PV} {v : Value} (hg : G pv) (hc : bq μ0 h0 S0 w' pv v) :
  bq (iI μ h.length μ0) (h ++ h0.map (fY h.length)) S' w' (mf h.length pv) v := by
 have p7 : ∀ (id gen i off : Nat) (v : Value), ba μ0 h0 w' id gen i off v → ba (iI μ h.length μ0) (h ++ h0.map (fY h.length)) w' (h.length + id) gen i off v := fun id gen i off v hc => by
  unfold ba at hc ⊢
  rw [lN _ rfl, oE]
  obtain ⟨h1, h2⟩ := hc
  refine ⟨h1, ?_⟩
  cases ho : h0[id]? with
  | none => rw [ho] at h2; exact h2
  | some o =>
   rw [ho] at h2
   cases o with
   | dead => trivial
   | row g sz n e f => exact h2
 cases pv with
 | own id gen off len =>
  have hc : aW μ0 h0 w' id gen off len v := hc
  show aW _ _ _ (h.length + id) gen off len v
  unfold aW at hc ⊢
  rw [lN _ rfl, oE]
  obtain ⟨h1, h2⟩ := hc
  refine ⟨h1, ?_⟩
  cases ho : h0[id]? with
  | none => rw [ho] at h2; exact h2
  | some o =>
   rw [ho] at h2
   cases o with
   | dead => trivial
   | row g sz n e f => exact h2
 | aL id gen i off => exact p7 _ _ _ _ _ hc
 | lv f bs => exact oQ.map (O := fun id g u => ba (iI μ h.length μ0) (h ++ h0.map (fY h.length)) w' id g 0 0 u) (oQ.mono (show lC μ0 h0 w' f bs v from hc) (fun id g u hu => p7 id g 0 0 u hu))
 | lj id =>
  have hc : eH μ0 h0 w' id v := hc
  show eH _ _ _ (h.length + id) v
  unfold eH at hc ⊢
  rw [lN _ rfl, oE]
  obtain ⟨h1, h2⟩ := hc
  refine ⟨h1, ?_⟩
  cases ho : h0[id]? with
  | none => rw [ho] at h2; exact h2
  | some o =>
   rw [ho] at h2
   cases o with
   | dead => trivial
   | row g sz n e f => exact h2
 | gv => exact hc
 | fJ sz n e f F => exact hc
 | agg cs => exact (show False from hc).elim
 | aV cs => exact (show False from hc).elim
 | int k n => exact hG _ _ hg hc
 | bool b => exact hG _ _ hg hc
 | str s => exact hG _ _ hg hc
 | bm => exact hG _ _ hg hc
 | dA => exact hG _ _ hg hc
 | eG sz n f => exact hG _ _ hg hc
 | eh cs => exact hG _ _ hg hc
 | fn f => exact hG _ _ hg hc
theorem c8 (G : PV → Prop) (hG : ∀ pv v, G pv → aF S0 w' pv v → aF S' w' pv v) {pv : PV} {v : Value} (hg : match pv with | .agg cs => ∀ c ∈ cs, G c | v => G v) (hc : gJ μ0 h0 S0 w' pv v) :
  gJ (iI μ h.length μ0) (h ++ h0.map (fY h.length)) S' w' (EJ h.length pv) v := by
 cases pv with
 | agg cs =>
  obtain ⟨vs, h1, h2, h3⟩ := hc
  refine ⟨vs, h1, by simpa using h2, fun j pv hj => ?_⟩
  rw [asS] at hj
  cases hx : cs[j]? with
  | none => rw [hx] at hj; cases hj
  | some c =>
   rw [hx] at hj
   injection hj with hj
   subst hj
   obtain ⟨u, q1, q2⟩ := h3 j c hx
   exact ⟨u, q1, cZ G hG (hg c (asP hx)) q2⟩
 | gv => trivial
 | fJ sz n e f F => exact cZ (μ := μ) (μ0 := μ0) (h := h) (h0 := h0) (pv := .fJ sz n e f F) G hG hg hc
 | aV cs => exact (show False from hc).elim
 | own id gen off len => exact cZ (μ := μ) (μ0 := μ0) (h := h) (h0 := h0) (pv := .own id gen off len) G hG hg hc
 | aL id gen i off => exact cZ (μ := μ) (μ0 := μ0) (h := h) (h0 := h0) (pv := .aL id gen i off) G hG hg hc
 | lj id => exact cZ (μ := μ) (μ0 := μ0) (h := h) (h0 := h0) (pv := .lj id) G hG hg hc
 | lv f bs => exact cZ (μ := μ) (μ0 := μ0) (h := h) (h0 := h0) (pv := .lv f bs) G hG hg hc
 | int k n => exact cZ (μ := μ) (μ0 := μ0) (h := h) (h0 := h0) (pv := .int k n) G hG hg hc
 | bool b => exact cZ (μ := μ) (μ0 := μ0) (h := h) (h0 := h0) (pv := .bool b) G hG hg hc
 | str s => exact cZ (μ := μ) (μ0 := μ0) (h := h) (h0 := h0) (pv := .str s) G hG hg hc
 | bm => exact cZ (μ := μ) (μ0 := μ0) (h := h) (h0 := h0) (pv := .bm) G hG hg hc
 | dA => exact cZ (μ := μ) (μ0 := μ0) (h := h) (h0 := h0) (pv := .dA) G hG hg hc
 | eG sz n f => exact cZ (μ := μ) (μ0 := μ0) (h := h) (h0 := h0) (pv := .eG sz n f) G hG hg hc
 | eh cs => exact cZ (μ := μ) (μ0 := μ0) (h := h) (h0 := h0) (pv := .eh cs) G hG hg hc
 | fn f => exact cZ (μ := μ) (μ0 := μ0) (h := h) (h0 := h0) (pv := .fn f) G hG hg hc
def RU (G : PV → Prop) : PV → Prop
 | .aV vs => ∀ v ∈ vs, (match v with | .agg cs => ∀ c ∈ cs, G c | v => G v)
 | .agg cs => ∀ c ∈ cs, G c
 | v => G v
theorem xD (G : PV → Prop) (hG : ∀ pv v, G pv → aF S0 w' pv v → aF S' w' pv v) {pv : PV} {v : Value} (hg : RU G pv) (hc : aZ μ0 h0 S0 w' pv v) :
  aZ (iI μ h.length μ0) (h ++ h0.map (fY h.length)) S' w' (pO h.length pv) v := by
 cases pv with
 | aV cs =>
  obtain ⟨vs, h1, h2, h3⟩ := hc
  refine ⟨vs, h1, by simpa using h2, fun j pv hj => ?_⟩
  rw [asS] at hj
  cases hx : cs[j]? with
  | none => rw [hx] at hj; cases hj
  | some c =>
   rw [hx] at hj
   injection hj with hj
   subst hj
   obtain ⟨u, q1, q2⟩ := h3 j c hx
   exact ⟨u, q1, c8 G hG (hg c (asP hx)) q2⟩
 | agg cs => exact c8 (μ := μ) (μ0 := μ0) (h := h) (h0 := h0) (pv := .agg cs) G hG hg hc
 | gv => trivial
 | fJ sz n e f F => exact c8 (μ := μ) (μ0 := μ0) (h := h) (h0 := h0) (pv := .fJ sz n e f F) G hG hg hc
 | own id gen off len => exact c8 (μ := μ) (μ0 := μ0) (h := h) (h0 := h0) (pv := .own id gen off len) G hG hg hc
 | aL id gen i off => exact c8 (μ := μ) (μ0 := μ0) (h := h) (h0 := h0) (pv := .aL id gen i off) G hG hg hc
 | lj id => exact c8 (μ := μ) (μ0 := μ0) (h := h) (h0 := h0) (pv := .lj id) G hG hg hc
 | lv f bs => exact c8 (μ := μ) (μ0 := μ0) (h := h) (h0 := h0) (pv := .lv f bs) G hG hg hc
 | int k n => exact c8 (μ := μ) (μ0 := μ0) (h := h) (h0 := h0) (pv := .int k n) G hG hg hc
 | bool b => exact c8 (μ := μ) (μ0 := μ0) (h := h) (h0 := h0) (pv := .bool b) G hG hg hc
 | str s => exact c8 (μ := μ) (μ0 := μ0) (h := h) (h0 := h0) (pv := .str s) G hG hg hc
 | bm => exact c8 (μ := μ) (μ0 := μ0) (h := h) (h0 := h0) (pv := .bm) G hG hg hc
 | dA => exact c8 (μ := μ) (μ0 := μ0) (h := h) (h0 := h0) (pv := .dA) G hG hg hc
 | eG sz n f => exact c8 (μ := μ) (μ0 := μ0) (h := h) (h0 := h0) (pv := .eG sz n f) G hG hg hc
 | eh cs => exact c8 (μ := μ) (μ0 := μ0) (h := h) (h0 := h0) (pv := .eh cs) G hG hg hc
 | fn f => exact c8 (μ := μ) (μ0 := μ0) (h := h) (h0 := h0) (pv := .fn f) G hG hg hc
theorem zq (hH : bA μ h S w) (hM : n7 μ h S w) {μc : Mu} {Sc : Nat → Prop} (hF : Fr μc [] Sc w μ0 h0 S0 w') (WR : bA μ0 h0 S0 w') (Bj : n7 μ0 h0 S0 w')
  (G : PV → Prop) (hG : ∀ pv v, G pv → aF S0 w' pv v → aF S' w' pv v) (aoU : ∀ (id g sz n : Nat) (e : TypeId) (f : Nat → List PV), h0[id]? = some (ar.row g sz n e f) → ∀ i, i < n → ∀ c ∈ f i, (eL c = false → G c) ∧ (eL c = true → OG G c))
  (hS1 : ∀ b, S b → S' b) (hS2 : ∀ b, S' b → S b ∨ w.heap.size ≤ b) (hS3 : ∀ b, S' b → b < w'.heap.size) (hS4 : ∀ b, S' b → ¬ bP μ0 h0 b) :
  bA (iI μ h.length μ0) (h ++ h0.map (fY h.length)) S' w' ∧ n7 (iI μ h.length μ0) (h ++ h0.map (fY h.length)) S' w' ∧ Fr μ h S w (iI μ h.length μ0) (h ++ h0.map (fY h.length)) S' w' := by
 have yh : ∀ b, ¬ bP μc [] b := fun b => jz
 have iN : ∀ b, b < w.heap.size → w'.heap[b]? = w.heap[b]? := fun b hb => hF.blocks b hb (yh b)
 have EK : ∀ b, bP μ0 h0 b → w.heap.size ≤ b := fun b hb => (hF.own b hb).resolve_left (yh b)
 have mH : ∀ id o, h[id]? = some o → (h ++ h0.map (fY h.length))[id]? = some o ∧ iI μ h.length μ0 id = μ id := fun id o hid => by
  have cM := (At.1 hid).1
  exact ⟨by rw [ata cM]; exact hid, by unfold iI; rw [if_pos cM]⟩
 have inv : ∀ (id g sz n : Nat) (e : TypeId) (f : Nat → List PV), (h ++ h0.map (fY h.length))[id]? = some (ar.row g sz n e f) →
   (h[id]? = some (ar.row g sz n e f) ∧ iI μ h.length μ0 id = μ id) ∨ ∃ xP f0, id = h.length + xP ∧ h0[xP]? = some (ar.row g sz n e f0) ∧ iI μ h.length μ0 id = μ0 xP ∧ f = fun i => (f0 i).map (mf h.length) := fun id g sz n e f hid => by
  rcases atu id h.length with cM | O7
  ·rw [ata cM] at hid
   exact .inl ⟨hid, by unfold iI; rw [if_pos cM]⟩
  ·obtain ⟨xP, rfl⟩ : ∃ xP, id = h.length + xP := ⟨id - h.length, by omega⟩
   rw [lN _ rfl] at hid
   cases ho : h0[xP]? with
   | none => rw [ho] at hid; cases hid
   | some o =>
    rw [ho] at hid
    cases o with
    | dead => cases hid
    | row g0 RJ n0 e0 f0 =>
     injection hid with hid
     injection hid with e1 e2 e3 e4 e5
     subst e1 e2 e3 e4 e5
     exact .inr ⟨xP, f0, rfl, ho, oE _ _, rfl⟩
 have vu : ∀ b, yk (iI μ h.length μ0) (h ++ h0.map (fY h.length)) b → yk μ h b ∨ yk μ0 h0 b := fun b ⟨id, g, sz, n, e, f, base, hid, hm⟩ => by
  rcases inv id g sz n e f hid with ⟨h1, h2⟩ | ⟨xP, f0, rfl, h1, h2, _⟩
  ·rw [h2] at hm; exact .inl ⟨id, g, sz, n, e, f, base, h1, hm⟩
  ·rw [h2] at hm; exact .inr ⟨xP, g, sz, n, e, f0, base, h1, hm⟩
 have asn : ∀ {c : PV} {sz n : Nat} {e : TypeId} {f : Nat → List PV} {F : Nat → Prop}, mf h.length c = .fJ sz n e f F → c = .fJ sz n e f F := fun {c} _ _ _ _ _ hc => by
  cases c <;> first | exact hc | cases hc
 have mw : ∀ id i j b, cH (h ++ h0.map (fY h.length)) id i j b → cH h id i j b ∨ ∃ xP, id = h.length + xP ∧ cH h0 xP i j b := fun id i j b ⟨g, sz, n, e, f, bx, n', e', f', F', q1, q2, q3, q4⟩ => by
  rcases inv id g sz n e f q1 with ⟨h1, h2⟩ | ⟨xP, f0, rfl, h1, h2, rfl⟩
  ·exact .inl ⟨_, _, _, _, _, _, _, _, _, _, h1, q2, q3, q4⟩
  ·rw [asS] at q3
   cases hx : (f0 i)[j]? with
   | none => rw [hx] at q3; cases q3
   | some c =>
    rw [hx] at q3
    injection q3 with q3
    rw [asn q3] at hx
    exact .inr ⟨xP, rfl, _, _, _, _, _, _, _, _, _, _, h1, q2, hx, q4⟩
 have kJ : ∀ b, bP (iI μ h.length μ0) (h ++ h0.map (fY h.length)) b → bP μ h b ∨ bP μ0 h0 b := fun b hb => by
  rcases hb with hb | ⟨x, y, z, hb⟩
  ·exact (vu b hb).imp .inl .inl
  ·rcases mw x y z b hb with q | ⟨_, _, q⟩
   ·exact .inl (.inr ⟨_, _, _, q⟩)
   ·exact .inr (.inr ⟨_, _, _, q⟩)
 have jC : Fr μ h S w (iI μ h.length μ0) (h ++ h0.map (fY h.length)) S' w' := by
  refine ⟨by simp, fun b hb _ => iN b hb, hS1, fun b hb => (hS2 b hb).imp id .inr, fun b hb => (kJ b hb).imp id (EK b), hF.size, hF.os, hF.tape, hF.output, fun id g sz n e f hid => ?_, fun id hid => (mH id _ hid).1, fun b k hb hc => iJ.of_same (iN b hc.lt) hc, fun id g sz n e f b base hid hm lx => ⟨let ⟨es, c, q⟩ := lx; ⟨es, c, (iN b (asC.1 q).1).trans q⟩, .inr ⟨⟨_, _, _, _, _, (mH id _ hid).1⟩, (mH id _ hid).2.trans hm⟩⟩, fun b _ _ _ hx lx => let ⟨es, c, q⟩ := lx; ⟨es, c, (iN b (asC.1 q).1).trans q⟩⟩
  obtain ⟨h1, h2⟩ := mH id _ hid
  rw [h1]
  exact ⟨asA _, fun _ => ⟨h2, rfl, rfl, rfl⟩⟩
 refine ⟨fun id g sz n e f hid => ?_, ⟨fun b hb hs => ?_, fun b hb => ?_, hS3, ?_, hM.xd jC, fun b hb x y z hx => ?_, fun b x y z x' y' z' hx rq => ?_⟩, jC⟩
 rotate_right 2
 ·rcases vu b hb with h1 | h1
  ·rcases mw x y z b hx with h2 | ⟨_, _, h2⟩
   ·exact hM.hv b h1 _ _ _ h2
   ·have a1 := hM.lt b (.inl h1)
    have a2 := EK b (.inr ⟨_, _, _, h2⟩)
    omega
  ·rcases mw x y z b hx with h2 | ⟨_, _, h2⟩
   ·have a1 := hM.lt b (.inr ⟨_, _, _, h2⟩)
    have a2 := EK b (.inl h1)
    omega
   ·exact Bj.hv b h1 _ _ _ h2
 ·rcases mw x y z b hx with h1 | ⟨u1, rfl, h1⟩
  ·rcases mw x' y' z' b rq with h2 | ⟨u2, rfl, h2⟩
   ·exact hM.hh b _ _ _ _ _ _ h1 h2
   ·have a1 := hM.lt b (.inr ⟨_, _, _, h1⟩)
    have a2 := EK b (.inr ⟨_, _, _, h2⟩)
    omega
  ·rcases mw x' y' z' b rq with h2 | ⟨u2, rfl, h2⟩
   ·have a1 := hM.lt b (.inr ⟨_, _, _, h2⟩)
    have a2 := EK b (.inr ⟨_, _, _, h1⟩)
    omega
   ·obtain ⟨e1, e2, e3⟩ := Bj.hh b _ _ _ _ _ _ h1 h2
    exact ⟨by rw [e1], e2, e3⟩
 ·rcases inv id g sz n e f hid with ⟨h1, h2⟩ | ⟨xP, f0, rfl, h1, h2, rfl⟩
  ·obtain ⟨q1, q2⟩ := hH id g sz n e f h1
   refine ⟨q1, ?_⟩
   rw [h2]
   cases hm : μ id with
   | none => rw [hm] at q2; exact q2
   | some p =>
    obtain ⟨b, base⟩ := p
    rw [hm] at q2
    obtain ⟨o, r1, r2⟩ := q2
    have cM : b < w.heap.size := (asC.1 r1).1
    exact ⟨o, (iN b cM).trans r1, r2.mono (fun i y pv v hi hy hr => hr.fr jC hM (fun bx n' e' f' F' he b2 np => iN b2 (hM.lt b2 (.inr ⟨id, i, y, _, _, _, _, _, _, _, _, _, _, h1, hi, he ▸ hy, np⟩))))⟩
  ·obtain ⟨q1, q2⟩ := WR xP g sz n e f0 h1
   refine ⟨fun i hi => by simpa using q1 i hi, ?_⟩
   rw [h2]
   cases hm : μ0 xP with
   | none => rw [hm] at q2; exact q2
   | some p =>
    obtain ⟨b, base⟩ := p
    rw [hm] at q2
    obtain ⟨o, r1, r2⟩ := q2
    refine ⟨o, r1, ?_⟩
    cases o with
    | cells cur e' z =>
     obtain ⟨x1, x2, x3, r3⟩ := r2
     refine ⟨x1, x2, x3, fun i j pv hi hj => ?_⟩
     rw [asS] at hj
     cases hx : (f0 i)[j]? with
     | none => rw [hx] at hj; cases hj
     | some c =>
      rw [hx] at hj
      injection hj with hj
      subst hj
      obtain ⟨v, s1, s2⟩ := r3 i j c hi hx
      obtain ⟨g1, g2⟩ := aoU xP g sz n e f0 h1 i hi c (asP hx)
      refine ⟨v, s1, ?_⟩
      cases ho : eL c with
      | false => exact bq.k (cZ G hG (g1 ho) s2.c) (by cases c <;> first | rfl | cases ho)
      | true =>
       cases c with
       | fJ lK n2 e2 f2 F2 => exact jZ.og hG (show jZ S0 w' (.fJ lK n2 e2 f2 F2) v from s2) (g2 rfl)
       | _ => cases ho
    | map es c =>
     obtain ⟨x1, r3⟩ := r2
     refine ⟨x1, fun i hi => ?_⟩
     obtain ⟨kp, vp, en, y1, y2, y3, y4⟩ := r3 i hi
     exact ⟨kp, vp, en, by show (f0 i).map (mf h.length) = _; rw [y1]; show [mf h.length kp, mf h.length vp] = _; rw [uT y2, uT y3], y2, y3, y4⟩
    | _ => exact r2.elim
 ·rcases kJ b hb with h1 | h1
  ·rcases hS2 b hs with h2 | h2
   ·exact hM.apart b h1 h2
   ·have := hM.lt b h1; omega
  ·exact hS4 b hs h1
 ·rcases kJ b hb with h1 | h1
  ·exact asY (hM.lt b h1) hF.size
  ·exact Bj.lt b h1
 ·intro i j gi O8 ni ei fi gj ma nj ej fj b o o' hi hj mv lL
  rcases inv i _ _ _ _ _ hi with ⟨h1, h2⟩ | ⟨xP, f0, rfl, h1, h2, _⟩
  ·rw [h2] at mv
   rcases inv j _ _ _ _ _ hj with ⟨h3, h4⟩ | ⟨id1, f1, rfl, h3, h4, _⟩
   ·rw [h4] at lL; exact hM.inj i j _ _ _ _ _ _ _ _ _ _ _ _ _ h1 h3 mv lL
   ·rw [h4] at lL
    have a1 := hM.lt b (.inl ⟨i, _, _, _, _, _, _, h1, mv⟩)
    have a2 := EK b (.inl ⟨id1, _, _, _, _, _, _, h3, lL⟩)
    omega
  ·rw [h2] at mv
   rcases inv j _ _ _ _ _ hj with ⟨h3, h4⟩ | ⟨id1, f1, rfl, h3, h4, _⟩
   ·rw [h4] at lL
    have a1 := hM.lt b (.inl ⟨j, _, _, _, _, _, _, h3, lL⟩)
    have a2 := EK b (.inl ⟨xP, _, _, _, _, _, _, h1, mv⟩)
    omega
   ·rw [h4] at lL
    have := Bj.inj xP id1 _ _ _ _ _ _ _ _ _ _ _ _ _ h1 h3 mv lL
    rw [this]
theorem ACall.frame {f : FuncId} {args : List PV} {R : PV → List ar → Prop} (hA : ACall P f args [] R) (h : List ar) (hp : args.all NV = true) :
  ACall P f args h (fun res h' => ∃ r0 h0, R r0 h0 ∧ res = pO h.length r0 ∧ h' = h ++ h0.map (fY h.length)) := by
 refine ⟨hA.1, fun w vs μ S hH hM fQ ha => ?_⟩
 refine (hA.2 w vs (fun _ => none) S (fun id g sz n e f hid => by simp at hid) ⟨fun b hb => absurd hb jz, fun b hb => absurd hb jz, hM.slt, fun i j g sz n e f g' bx n' e' f' b o o' hi => by simp at hi, hM.known, fun b _ x y z hx => sw hx, fun b _ _ _ _ _ _ hx => absurd hx sw⟩ fQ (fun j pv hj => ?_)).mono ?_
 ·obtain ⟨v, h1, h2⟩ := ha j pv hj
  refine ⟨v, h1, ?_⟩
  have WS := (asH.1 hp) pv (asP hj)
  cases pv with
  | agg cs =>
   obtain ⟨us, q1, q2, q3⟩ := h2
   refine ⟨us, q1, q2, fun i c hi => ?_⟩
   obtain ⟨u, r1, r2⟩ := q3 i c hi
   have hc := (asH.1 WS) c (asP hi)
   exact ⟨u, r1, bq.jy (um hc r2)⟩
  | aV cs => cases WS
  | own id gen off len => cases WS
  | aL id gen i off => cases WS
  | lj id => cases WS
  | lv f bs => cases WS
  | gv => cases WS
  | fJ sz n e f F => cases WS
  | int k n => exact h2
  | bool b => exact h2
  | str s => exact h2
  | bm => exact h2
  | dA => exact h2
  | eG sz n f => exact h2
  | eh cs => exact h2
  | fn f => exact h2
 ·rintro e w' ⟨v, r0, h0, μ0, S0, he, hR, hv, WR, Bj, hF⟩
  have yh : ∀ b, ¬ bP (fun _ => none) [] b := fun b => jz
  obtain ⟨c1, c2, c3⟩ := zq (S' := S0) hH hM hF WR Bj (fun _ => True) (fun _ _ _ h => h) (fun id g sz n e f hid i hi c hcm => ⟨fun _ => trivial, fun hx => by
    obtain ⟨j, hj, hcj⟩ := atD.1 hcm
    obtain ⟨_, q2⟩ := WR id g sz n e f hid
    cases eg : μ0 id with
    | none => rw [eg] at q2; omega
    | some p =>
     obtain ⟨b, base⟩ := p
     rw [eg] at q2
     obtain ⟨o, _, r2⟩ := q2
     cases o with
     | cells cur e' z =>
      obtain ⟨_, _, _, r3⟩ := r2
      obtain ⟨v, _, s2⟩ := r3 i j c hi (by rw [← hcj]; exact amb hj)
      cases c with
      | fJ lK n2 e2 f2 F2 => exact jZ.all (show jZ S0 w' (.fJ lK n2 e2 f2 F2) v from s2)
      | _ => cases hx
     | map es cl =>
      obtain ⟨kp, vp, en, y1, y2, y3, _⟩ := r2.2 i hi
      rw [y1] at hcm
      rcases asI.1 hcm with q | q
      ·rw [q] at hx; cases kp <;> first | (cases hx; done) | (cases y2; done)
      ·rw [List.mem_singleton.1 q] at hx; cases vp <;> first | (cases hx; done) | (cases y3; done)
     | _ => exact r2.elim⟩) hF.sub
   (fun b hb => (hF.new b hb).imp id (fun h => h.resolve_left (yh b))) Bj.slt (fun b hb ho => Bj.apart b ho hb)
  have lk : RU (fun _ => True) r0 := by
   unfold RU
   split
   ·intro v _; split <;> intros <;> trivial
   ·intros; trivial
   ·trivial
  exact ⟨v, _, _, _, S0, he, ⟨r0, h0, hR, rfl, rfl⟩, xD _ (fun _ _ _ h => h) lk hv, c1, c2, c3⟩
def WT : ar → Prop
 | .row _ _ n _ f => ∀ i, i < n → ∀ c ∈ f i, (eL c = false → mi c = true) ∧ (eL c = true → OG (fun pv => mi pv = true) c)
 | .dead => True
theorem NK.p {o : ar} (h : NK o) : WT o := by
 cases o with
 | dead => trivial
 | row g sz n e f =>
  intro i hi c hc
  have := (asH.1 (h i hi)) c hc
  exact ⟨fun _ => this, fun hx => by cases c <;> first | (cases hx; done) | (cases this; done)⟩
theorem ACall.snap {f : FuncId} {args ke : List PV} {R : PV → List ar → Prop} (hA : ACall P f ke [] R) (h : List ar) (hl : ke.length = args.length)
  (hz : ∀ (j : Nat) (pv ew : PV), args[j]? = some pv → ke[j]? = some ew → Fz h [] [] pv ew ∧ kI ew = true) (FM : ∀ r0 h0, R r0 h0 → FN r0 = true ∧ ∀ o ∈ h0, WT o) :
  ACall P f args h (fun res h' => ∃ r0 h0, R r0 h0 ∧ res = pO h.length r0 ∧ h' = h ++ h0.map (fY h.length)) := by
 refine ⟨hA.1, fun w vs μ S hH hM fQ ha => ?_⟩
 have hfz : mh h [] [] 0 0 [] [] := trivial
 obtain ⟨nz, _, _⟩ := tq (m := 0) ⟨hH, hM⟩ hfz rfl
 refine (hA.2 w vs (j4 μ h []) (zj μ h [] S) nz.heap nz.ok avh (fun j ew hj => ?_)).mono ?_
 ·have Db : j < args.length := by rw [← hl]; exact (At.1 hj).1
  have mV := amb Db
  obtain ⟨v, h1, h2⟩ := ha j _ mV
  obtain ⟨z1, z2⟩ := hz j _ ew mV hj
  exact ⟨v, h1, (pV (m := 0) ⟨hH, hM⟩ hfz z1).2.1 v h2⟩
 ·rintro e w' ⟨v, r0, h0, μ0, S0, he, hR, hv, WR, Bj, hF⟩
  obtain ⟨Ga, Oa⟩ := FM r0 h0 hR
  have yh : ∀ b, ¬ bP (j4 μ h []) [] b := fun b => jz
  have hG : ∀ pv v, mi pv = true → aF S0 w' pv v → aF S w' pv v := fun pv v hf hp => by
   cases hp with
   | int k n => exact .int k n
   | bool b => exact .bool b
   | str s => exact .str s
   | bm => exact .bm
   | dA => exact .dA
   | fn f => exact .fn f
   | mr => cases hf
   | eG => cases hf
   | eh => cases hf
  obtain ⟨c1, c2, c3⟩ := zq (S' := S) hH hM hF WR Bj (fun pv => mi pv = true) hG (fun id g sz n e f hid i hi c hc => Oa _ (asP hid) i hi c hc) (fun _ hb => hb) (fun b hb => .inl hb) (fun b hb => asY (hM.slt b hb) hF.size)
   (fun b hb ho => by
    have h1 := (hF.own b ho).resolve_left (yh b)
    have h2 := hM.slt b hb
    omega)
  have lk : RU (fun pv => mi pv = true) r0 := by
   cases r0 with
   | aV vs =>
    intro v hv
    have := (asH.1 Ga) v hv
    cases v with
    | agg cs => exact fun c hc => (asH.1 this) c hc
    | _ => exact this
   | agg cs => exact fun c hc => (asH.1 Ga) c hc
   | _ => exact Ga
  exact ⟨v, _, _, _, S, he, ⟨r0, h0, hR, rfl, rfl⟩, xD _ hG lk hv, c1, c2, c3⟩
end
def lV (σ : Nat → Nat) : PV → PV
 | .own id gen off len => .own (σ id) gen off len
 | .aL id gen i off => .aL (σ id) gen i off
 | .lj id => .lj (σ id)
 | .lv f bs => .lv f (oD σ bs)
 | v => v
def wy (σ : Nat → Nat) : PV → PV
 | .agg cs => .agg (cs.map (lV σ))
 | v => lV σ v
def DH (σ : Nat → Nat) : PV → PV
 | .aV vs => .aV (vs.map (wy σ))
 | v => wy σ v
def ph (σ : Nat → Nat) : ar → ar
 | .row g sz n e f => .row g sz n e (fun i => (f i).map (lV σ))
 | .dead => .dead
theorem zr {σ : Nat → Nat} {a : PV} (h : iM (lV σ a) = true) : lV σ a = a := by cases a <;> first | rfl | cases h
theorem zs {σ : Nat → Nat} {a : PV} (h : iM a = true) : lV σ a = a := by cases a <;> first | rfl | cases h
section
variable {P : Program} {T : lO} {μ μ0 μ1 : Mu} {h h0 h1 hc : List ar} {S S0 S1 : Nat → Prop} {w w' : World} {σ : Nat → Nat}
theorem Oz {pv : PV} {v : Value} (gF : ∀ j, (∃ g sz n e f, h0[j]? = some (ar.row g sz n e f) ∧ (∃ f', h1[σ j]? = some (ar.row g sz n e f')) ∧ μ1 (σ j) = μ0 j) ∨ (h0[j]? = some ar.dead ∧ h1[σ j]? = some ar.dead) ∨ h0[j]? = none)
  (hS : ∀ b, S0 b → S1 b) (hc : bq μ0 h0 S0 w pv v) : bq μ1 h1 S1 w (lV σ pv) v := by
 have p7 : ∀ (id gen i off : Nat) (v : Value), ba μ0 h0 w id gen i off v → ba μ1 h1 w (σ id) gen i off v := fun id gen i off v hc => by
  unfold ba at hc ⊢
  obtain ⟨q1, q2⟩ := hc
  refine ⟨q1, ?_⟩
  rcases gF id with ⟨g, sz, n, e, f, r1, ⟨f', r2⟩, r3⟩ | ⟨r1, r2⟩ | r1
  ·rw [r1] at q2
   rw [r2]
   show gen ≤ g ∧ _
   rw [r3]
   exact q2
  ·rw [r2]; trivial
  ·rw [r1] at q2; exact q2.elim
 cases pv with
 | own id gen off len =>
  have hc : aW μ0 h0 w id gen off len v := hc
  show aW μ1 h1 w (σ id) gen off len v
  unfold aW at hc ⊢
  obtain ⟨q1, q2⟩ := hc
  refine ⟨q1, ?_⟩
  rcases gF id with ⟨g, sz, n, e, f, r1, ⟨f', r2⟩, r3⟩ | ⟨r1, r2⟩ | r1
  ·rw [r1] at q2
   rw [r2]
   show gen ≤ g ∧ _
   rw [r3]
   exact q2
  ·rw [r2]; trivial
  ·rw [r1] at q2; exact q2.elim
 | aL id gen i off => exact p7 _ _ _ _ _ hc
 | lv f bs => exact oQ.map (O := fun id g u => ba μ1 h1 w id g 0 0 u) (oQ.mono (show lC μ0 h0 w f bs v from hc) (fun id g u hu => p7 id g 0 0 u hu))
 | lj id =>
  have hc : eH μ0 h0 w id v := hc
  show eH μ1 h1 w (σ id) v
  unfold eH at hc ⊢
  obtain ⟨q1, q2⟩ := hc
  refine ⟨q1, ?_⟩
  rcases gF id with ⟨g, sz, n, e, f, r1, ⟨f', r2⟩, r3⟩ | ⟨r1, r2⟩ | r1
  ·rw [r1] at q2
   rw [r2]
   obtain ⟨b, base, x1, x2⟩ := q2
   exact ⟨b, base, r3.trans x1, x2⟩
  ·rw [r2]; trivial
  ·rw [r1] at q2; exact q2.elim
 | gv => exact hc
 | fJ sz n e f F => exact hc
 | agg cs => exact (show False from hc).elim
 | aV cs => exact (show False from hc).elim
 | int k n => exact aF.mono (fun _ _ => rfl) hS hc
 | bool b => exact aF.mono (fun _ _ => rfl) hS hc
 | str s => exact aF.mono (fun _ _ => rfl) hS hc
 | bm => exact aF.mono (fun _ _ => rfl) hS hc
 | dA => exact aF.mono (fun _ _ => rfl) hS hc
 | eG sz n f => exact aF.mono (fun _ _ => rfl) hS hc
 | eh cs => exact aF.mono (fun _ _ => rfl) hS hc
 | fn f => exact aF.mono (fun _ _ => rfl) hS hc
theorem fL {pv : PV} {v : Value} (aJ : ∀ pv v, bq μ0 h0 S0 w pv v → bq μ1 h1 S1 w (lV σ pv) v) (hc : gJ μ0 h0 S0 w pv v) : gJ μ1 h1 S1 w (wy σ pv) v := by
 cases pv with
 | agg cs =>
  obtain ⟨vs, q1, q2, q3⟩ := hc
  refine ⟨vs, q1, by simpa using q2, fun j pv hj => ?_⟩
  rw [asS] at hj
  cases hx : cs[j]? with
  | none => rw [hx] at hj; cases hj
  | some c =>
   rw [hx] at hj
   injection hj with hj
   subst hj
   obtain ⟨u, r1, r2⟩ := q3 j c hx
   exact ⟨u, r1, aJ _ _ r2⟩
 | gv => trivial
 | fJ sz n e f F => exact aJ (.fJ sz n e f F) v hc
 | aV cs => exact (show False from hc).elim
 | own id gen off len => exact aJ (.own id gen off len) v hc
 | aL id gen i off => exact aJ (.aL id gen i off) v hc
 | lj id => exact aJ (.lj id) v hc
 | lv f bs => exact aJ (.lv f bs) v hc
 | int k n => exact aJ (.int k n) v hc
 | bool b => exact aJ (.bool b) v hc
 | str s => exact aJ (.str s) v hc
 | bm => exact aJ .bm v hc
 | dA => exact aJ .dA v hc
 | eG sz n f => exact aJ (.eG sz n f) v hc
 | eh cs => exact aJ (.eh cs) v hc
 | fn f => exact aJ (.fn f) v hc
theorem OA {pv : PV} {v : Value} (aJ : ∀ pv v, bq μ0 h0 S0 w pv v → bq μ1 h1 S1 w (lV σ pv) v) (hc : aZ μ0 h0 S0 w pv v) : aZ μ1 h1 S1 w (DH σ pv) v := by
 cases pv with
 | aV cs =>
  obtain ⟨vs, q1, q2, q3⟩ := hc
  refine ⟨vs, q1, by simpa using q2, fun j pv hj => ?_⟩
  rw [asS] at hj
  cases hx : cs[j]? with
  | none => rw [hx] at hj; cases hj
  | some c =>
   rw [hx] at hj
   injection hj with hj
   subst hj
   obtain ⟨u, r1, r2⟩ := q3 j c hx
   exact ⟨u, r1, fL aJ r2⟩
 | agg cs => exact fL (pv := .agg cs) aJ hc
 | gv => trivial
 | fJ sz n e f F => exact fL (pv := .fJ sz n e f F) aJ hc
 | own id gen off len => exact fL (pv := .own id gen off len) aJ hc
 | aL id gen i off => exact fL (pv := .aL id gen i off) aJ hc
 | lj id => exact fL (pv := .lj id) aJ hc
 | lv f bs => exact fL (pv := .lv f bs) aJ hc
 | int k n => exact fL (pv := .int k n) aJ hc
 | bool b => exact fL (pv := .bool b) aJ hc
 | str s => exact fL (pv := .str s) aJ hc
 | bm => exact fL (pv := .bm) aJ hc
 | dA => exact fL (pv := .dA) aJ hc
 | eG sz n f => exact fL (pv := .eG sz n f) aJ hc
 | eh cs => exact fL (pv := .eh cs) aJ hc
 | fn f => exact fL (pv := .fn f) aJ hc
structure Sel (σ : Nat → Nat) (m : Nat) (h : List ar) : Prop where
 lt : ∀ j, j < m → σ j < h.length
 new : ∀ j, m ≤ j → σ j = h.length + (j - m)
 inj : ∀ i j, i < m → j < m → σ i = σ j → i = j
theorem Sel.aso {m : Nat} (hs : Sel σ m h) {i j : Nat} (he : σ i = σ j) : i = j := by
 rcases atu i m with hi | hi
 ·rcases atu j m with hj | hj
  ·exact hs.inj i j hi hj he
  ·have := hs.lt i hi; have := hs.new j hj; omega
 ·rcases atu j m with hj | hj
  ·have := hs.lt j hj; have := hs.new i hi; omega
  ·have := hs.new i hi; have := hs.new j hj; omega
structure WU (σ : Nat → Nat) (h h0 h' : List ar) : Prop where
 Ez : ∀ id, (∀ j, j < h0.length → σ j ≠ id) → h'[id]? = h[id]?
 O9 : ∀ j o, h0[j]? = some o → h'[σ j]? = some (ph σ o)
 len : h.length ≤ h'.length
def xE (μ : Mu) (σ : Nat → Nat) (m : Nat) : Mu := fun j => if j < m then μ (σ j) else none
open Classical in
noncomputable def OB (μ : Mu) (σ : Nat → Nat) (m : Nat) (μ0 : Mu) : Mu := fun id => if hx : ∃ j, j < m ∧ σ j = id then μ0 (Classical.choose hx) else μ id
theorem RV {m : Nat} (OC : ∀ i j, σ i = σ j → i = j) {j : Nat} (hj : j < m) : OB μ σ m μ0 (σ j) = μ0 j := by
 have hx : ∃ i, i < m ∧ σ i = σ j := ⟨j, hj, rfl⟩
 unfold OB
 rw [dif_pos hx, OC _ _ (Classical.choose_spec hx).2]
theorem A8 {m id : Nat} (hn : ∀ j, j < m → σ j ≠ id) : OB μ σ m μ0 id = μ id := by
 unfold OB
 rw [dif_neg]
 rintro ⟨j, h1, h2⟩
 exact hn j h1 h2
theorem dU (mm : Sel σ hc.length h) (gF : ∀ j o, hc[j]? = some o → h[σ j]? = some (ph σ o)) {pv : PV} {v : Value} (hr : bq μ h S w (lV σ pv) v) : bq (xE μ σ hc.length) hc S w pv v := by
 have get : ∀ id, (∃ g sz n e f, hc[id]? = some (ar.row g sz n e f) ∧ h[σ id]? = some (ph σ (ar.row g sz n e f)) ∧ xE μ σ hc.length id = μ (σ id)) ∨ (hc[id]? = some ar.dead ∧ h[σ id]? = some ar.dead) ∨ h[σ id]? = none := fun id => by
  cases ho : hc[id]? with
  | none =>
   refine .inr (.inr (atj ?_))
   have O7 : hc.length ≤ id := List.getElem?_eq_none_iff.1 ho
   have := mm.new id O7
   omega
  | some o =>
   have cM := (At.1 ho).1
   cases o with
   | dead => exact .inr (.inl ⟨rfl, gF id _ ho⟩)
   | row g sz n e f => exact .inl ⟨g, sz, n, e, f, rfl, gF id _ ho, by unfold xE; rw [if_pos cM]⟩
 have p7 : ∀ (id gen i off : Nat) (v : Value), ba μ h w (σ id) gen i off v → ba (xE μ σ hc.length) hc w id gen i off v := fun id gen i off v hr => by
  unfold ba at hr ⊢
  obtain ⟨q1, q2⟩ := hr
  refine ⟨q1, ?_⟩
  rcases get id with ⟨g, sz, n, e, f, r1, r2, r3⟩ | ⟨r1, r2⟩ | r1
  ·rw [r2] at q2
   rw [r1]
   show gen ≤ g ∧ _
   rw [r3]
   exact q2
  ·rw [r1]; trivial
  ·rw [r1] at q2; exact q2.elim
 cases pv with
 | own id gen off len =>
  have hr : aW μ h w (σ id) gen off len v := hr
  show aW _ hc w id gen off len v
  unfold aW at hr ⊢
  obtain ⟨q1, q2⟩ := hr
  refine ⟨q1, ?_⟩
  rcases get id with ⟨g, sz, n, e, f, r1, r2, r3⟩ | ⟨r1, r2⟩ | r1
  ·rw [r2] at q2
   rw [r1]
   show gen ≤ g ∧ _
   rw [r3]
   exact q2
  ·rw [r1]; trivial
  ·rw [r1] at q2; exact q2.elim
 | aL id gen i off => exact p7 _ _ _ _ _ hr
 | lv f bs => exact oQ.mono (oQ.aoV (show lC μ h w f (oD σ bs) v from hr)) (fun id g u hu => p7 _ _ _ _ _ hu)
 | lj id =>
  have hr : eH μ h w (σ id) v := hr
  show eH _ hc w id v
  unfold eH at hr ⊢
  obtain ⟨q1, q2⟩ := hr
  refine ⟨q1, ?_⟩
  rcases get id with ⟨g, sz, n, e, f, r1, r2, r3⟩ | ⟨r1, r2⟩ | r1
  ·rw [r2] at q2
   rw [r1]
   obtain ⟨b, base, x1, x2⟩ := q2
   exact ⟨b, base, r3.trans x1, x2⟩
  ·rw [r1]; trivial
  ·rw [r1] at q2; exact q2.elim
 | gv => exact hr
 | fJ sz n e f F => exact hr
 | agg cs => exact (show False from hr).elim
 | aV cs => exact (show False from hr).elim
 | int k n => exact hr
 | bool b => exact hr
 | str s => exact hr
 | bm => exact hr
 | dA => exact hr
 | eG sz n f => exact hr
 | eh cs => exact hr
 | fn f => exact hr
theorem Ik (mm : Sel σ hc.length h) (gF : ∀ j o, hc[j]? = some o → h[σ j]? = some (ph σ o)) {pv : PV} {v : Value} (hr : gJ μ h S w (wy σ pv) v) : gJ (xE μ σ hc.length) hc S w pv v := by
 cases pv with
 | agg cs =>
  obtain ⟨vs, q1, q2, q3⟩ := hr
  refine ⟨vs, q1, by simpa using q2, fun j pv hj => ?_⟩
  obtain ⟨u, r1, r2⟩ := q3 j (lV σ pv) (by rw [asS, hj]; rfl)
  exact ⟨u, r1, dU mm gF r2⟩
 | gv => trivial
 | fJ sz n e f F => exact dU (μ := μ) (S := S) (w := w) (pv := .fJ sz n e f F) mm gF hr
 | aV cs => exact (show False from hr).elim
 | own id gen off len => exact dU (μ := μ) (S := S) (w := w) (pv := .own id gen off len) mm gF hr
 | aL id gen i off => exact dU (μ := μ) (S := S) (w := w) (pv := .aL id gen i off) mm gF hr
 | lj id => exact dU (μ := μ) (S := S) (w := w) (pv := .lj id) mm gF hr
 | lv f bs => exact dU (μ := μ) (S := S) (w := w) (pv := .lv f bs) mm gF hr
 | int k n => exact dU (μ := μ) (S := S) (w := w) (pv := .int k n) mm gF hr
 | bool b => exact dU (μ := μ) (S := S) (w := w) (pv := .bool b) mm gF hr
 | str s => exact dU (μ := μ) (S := S) (w := w) (pv := .str s) mm gF hr
 | bm => exact dU (μ := μ) (S := S) (w := w) (pv := .bm) mm gF hr
 | dA => exact dU (μ := μ) (S := S) (w := w) (pv := .dA) mm gF hr
 | eG sz n f => exact dU (μ := μ) (S := S) (w := w) (pv := .eG sz n f) mm gF hr
 | eh cs => exact dU (μ := μ) (S := S) (w := w) (pv := .eh cs) mm gF hr
 | fn f => exact dU (μ := μ) (S := S) (w := w) (pv := .fn f) mm gF hr
theorem OD {c : PV} {sz n : Nat} {e : TypeId} {f : Nat → List PV} {F : Nat → Prop} (hc : lV σ c = .fJ sz n e f F) : c = .fJ sz n e f F := by cases c <;> first | exact hc | cases hc
theorem RW {c : PV} (h : eL c = false) : eL (lV σ c) = false := by cases c <;> first | rfl | cases h
theorem ACall.O9 {f : FuncId} {args k9 : List PV} {R : PV → List ar → Prop} (hA : ACall P f args hc R) (h : List ar) (mm : Sel σ hc.length h) (gF : ∀ j o, hc[j]? = some o → h[σ j]? = some (ph σ o))
  (nv : k9 = args.map (wy σ)) (nxt : List ar → List ar) (asp : ∀ h0, hc.length ≤ h0.length → WU σ h h0 (nxt h0)) :
  ACall P f k9 h (fun res h' => ∃ r0 h0, R r0 h0 ∧ res = DH σ r0 ∧ h' = nxt h0) := by
 refine ⟨hA.1, fun w vs μ S hH hM fQ ha => ?_⟩
 subst nv
 have OC : ∀ i j, σ i = σ j → i = j := fun i j => mm.aso
 have RZ : ∀ b, yk (xE μ σ hc.length) hc b → yk μ h b := fun b ⟨j, g, sz, n, e, f, base, q1, q2⟩ => by
  have cM := (At.1 q1).1
  unfold xE at q2
  rw [if_pos cM] at q2
  exact ⟨σ j, g, sz, n, e, _, base, gF j _ q1, q2⟩
 have Il : ∀ j x y b, cH hc j x y b → cH h (σ j) x y b := fun j x y b ⟨g, sz, n, e, f, bx, n', e', f', F', q1, q2, q3, q4⟩ => ⟨g, sz, n, e, _, bx, n', e', f', F', gF j _ q1, q2, by
  show ((f x).map (lV σ))[y]? = _
  rw [asS, q3]; rfl, q4⟩
 have OE : ∀ b, bP (xE μ σ hc.length) hc b → bP μ h b ∧ True := fun b hb => by
  rcases hb with hb | ⟨x, y, z, hb⟩
  ·exact ⟨.inl (RZ b hb), trivial⟩
  ·exact ⟨.inr ⟨_, _, _, Il _ _ _ _ hb⟩, trivial⟩
 have hHc : bA (xE μ σ hc.length) hc S w := fun j g sz n e f hj => by
  have cM := (At.1 hj).1
  obtain ⟨q1, q2⟩ := hH (σ j) _ _ _ _ _ (gF j _ hj)
  refine ⟨fun i hi => by simpa using q1 i hi, ?_⟩
  have hm : xE μ σ hc.length j = μ (σ j) := by unfold xE; rw [if_pos cM]
  rw [hm]
  cases eg : μ (σ j) with
  | none => rw [eg] at q2; exact q2
  | some p =>
   obtain ⟨b, base⟩ := p
   rw [eg] at q2
   obtain ⟨o, r1, r2⟩ := q2
   refine ⟨o, r1, ?_⟩
   cases o with
   | cells cur e' z =>
    obtain ⟨x1, x2, x3, r3⟩ := r2
    refine ⟨x1, x2, x3, fun i k pv hi hk => ?_⟩
    obtain ⟨u, s1, s2⟩ := r3 i k (lV σ pv) hi (by rw [asS, hk]; rfl)
    refine ⟨u, s1, ?_⟩
    cases hx : eL pv with
    | false => exact (dU mm gF s2.c).k hx
    | true =>
     cases pv with
     | fJ lK n2 e2 f2 F2 => exact s2
     | _ => cases hx
   | map es c =>
    obtain ⟨x1, r3⟩ := r2
    refine ⟨x1, fun i hi => ?_⟩
    obtain ⟨kp, vp, en, y1, y2, y3, y4⟩ := r3 i hi
    refine ⟨kp, vp, en, ?_, y2, y3, y4⟩
    have y1 : (f i).map (lV σ) = [kp, vp] := y1
    generalize f i = l at y1
    rcases l with _ | ⟨a, _ | ⟨b, _ | ⟨c3, l3⟩⟩⟩ <;> simp at y1
    obtain ⟨rfl, rfl⟩ := y1
    rw [zr y2, zr y3]
   | _ => exact r2.elim
 have hMc : n7 (xE μ σ hc.length) hc S w := ⟨fun b hb => hM.apart b (OE b hb).1, fun b hb => hM.lt b (OE b hb).1, hM.slt, fun i j gi O8 ni ei fi gj ma nj ej fj b o o' hi hj mv lL => by
  have hli := (At.1 hi).1
  have WC := (At.1 hj).1
  unfold xE at mv lL
  rw [if_pos hli] at mv
  rw [if_pos WC] at lL
  exact OC _ _ (hM.inj _ _ _ _ _ _ _ _ _ _ _ _ _ _ _ (gF i _ hi) (gF j _ hj) mv lL), hM.known, fun b hb x y z hx => hM.hv b (RZ b hb) _ _ _ (Il _ _ _ _ hx), fun b x y z x' y' z' hx rq => by
  obtain ⟨e1, e2, e3⟩ := hM.hh b _ _ _ _ _ _ (Il _ _ _ _ hx) (Il _ _ _ _ rq)
  exact ⟨OC _ _ e1, e2, e3⟩⟩
 refine (hA.2 w vs _ S hHc hMc avI (fun j pv hj => ?_)).mono ?_
 ·obtain ⟨v, q1, q2⟩ := ha j (wy σ pv) (by rw [asS, hj]; rfl)
  exact ⟨v, q1, Ik mm gF q2⟩
 ·rintro e w' ⟨v, r0, h0, μ0, S0, he, hR, hv, WR, Bj, hF⟩
  have hlen : hc.length ≤ h0.length := hF.len
  have Im := asp h0 hlen
  obtain ⟨h', hh'⟩ : ∃ h', h' = nxt h0 := ⟨_, rfl⟩
  rw [← hh'] at Im
  have hmA : ∀ j, j < h0.length → OB μ σ h0.length μ0 (σ j) = μ0 j := fun j hj => RV OC hj
  have inv : ∀ id o, h'[id]? = some o → (∃ j o0, σ j = id ∧ h0[j]? = some o0 ∧ o = ph σ o0 ∧ OB μ σ h0.length μ0 id = μ0 j) ∨ ((∀ j, j < h0.length → σ j ≠ id) ∧ h[id]? = some o ∧ OB μ σ h0.length μ0 id = μ id) := fun id o hid => by
   by_cases hx : ∃ j, j < h0.length ∧ σ j = id
   ·obtain ⟨j, hj, rfl⟩ := hx
    have := Im.O9 j _ (amb hj)
    rw [this] at hid
    injection hid with hid
    exact .inl ⟨j, _, rfl, amb hj, hid.symm, hmA j hj⟩
   ·have hn : ∀ j, j < h0.length → σ j ≠ id := fun j hj he => hx ⟨j, hj, he⟩
    rw [Im.Ez id hn] at hid
    exact .inr ⟨hn, hid, A8 hn⟩
  have apart : ∀ id g sz n e f b base, (∀ j, j < h0.length → σ j ≠ id) → h[id]? = some (ar.row g sz n e f) → μ id = some (b, base) → ¬ bP (xE μ σ hc.length) hc b := fun id g sz n e f b base hn hid hm xc => by
   rcases xc with ⟨j, gj, ma, nj, ej, fj, bj, q1, q2⟩ | ⟨x, y, z, hx⟩
   rotate_left
   ·exact hM.hv b ⟨id, g, sz, n, e, f, base, hid, hm⟩ _ _ _ (Il _ _ _ _ hx)
   have cM := (At.1 q1).1
   unfold xE at q2
   rw [if_pos cM] at q2
   exact hn j avh (hM.inj _ _ _ _ _ _ _ _ _ _ _ _ _ _ _ (gF j _ q1) hid q2 hm)
  have xF : ∀ id x y b, (∀ j, j < h0.length → σ j ≠ id) → cH h id x y b → ¬ bP (xE μ σ hc.length) hc b := fun id x y b hn hx xc => by
   rcases xc with xc | ⟨j, x', y', rq⟩
   ·exact hM.hv b (RZ b xc) _ _ _ hx
   ·obtain ⟨e1, _, _⟩ := hM.hh b _ _ _ _ _ _ (Il _ _ _ _ rq) hx
    obtain ⟨_, _, _, _, _, _, _, _, _, _, q1, _⟩ := rq
    have := (At.1 q1).1
    exact hn j avh e1
  have WV : ∀ b, yk (OB μ σ h0.length μ0) h' b → yk μ0 h0 b ∨ ∃ id g sz n e f base, (∀ j, j < h0.length → σ j ≠ id) ∧ h[id]? = some (ar.row g sz n e f) ∧ μ id = some (b, base) := fun b ⟨id, g, sz, n, e, f, base, q1, q2⟩ => by
   rcases inv id _ q1 with ⟨j, o0, rfl, r1, r2, r3⟩ | ⟨r1, r2, r3⟩
   ·rw [r3] at q2
    cases o0 with
    | dead => cases r2
    | row g0 RJ n0 e0 f0 => exact .inl ⟨j, g0, RJ, n0, e0, f0, base, r1, q2⟩
   ·rw [r3] at q2
    exact .inr ⟨id, g, sz, n, e, f, base, r1, r2, q2⟩
  have zt : ∀ id x y b, cH h' id x y b → (∃ j, σ j = id ∧ cH h0 j x y b) ∨ ((∀ j, j < h0.length → σ j ≠ id) ∧ cH h id x y b) := fun id x y b ⟨g, sz, n, e, f, bx, n', e', f', F', q1, q2, q3, q4⟩ => by
   rcases inv id _ q1 with ⟨j, o0, rfl, r1, r2, r3⟩ | ⟨r1, r2, r3⟩
   ·cases o0 with
    | dead => cases r2
    | row g0 RJ n0 e0 f0 =>
     injection r2 with e1 e2 e3 e4 e5
     subst e1 e2 e3 e4 e5
     rw [asS] at q3
     cases hx : (f0 x)[y]? with
     | none => rw [hx] at q3; cases q3
     | some c =>
      rw [hx] at q3
      injection q3 with q3
      rw [OD q3] at hx
      exact .inl ⟨j, rfl, _, _, _, _, _, _, _, _, _, _, r1, q2, hx, q4⟩
   ·exact .inr ⟨r1, _, _, _, _, _, _, _, _, _, _, r2, q2, q3, q4⟩
  have kJ : ∀ b, bP (OB μ σ h0.length μ0) h' b → bP μ0 h0 b ∨ (bP μ h b ∧ ¬ bP (xE μ σ hc.length) hc b) := fun b hb => by
   rcases hb with hb | ⟨x, y, z, hb⟩
   ·rcases WV b hb with q | ⟨id, g, sz, n, e, f, base, q1, q2, q3⟩
    ·exact .inl (.inl q)
    ·exact .inr ⟨.inl ⟨id, g, sz, n, e, f, base, q2, q3⟩, apart id _ _ _ _ _ _ _ q1 q2 q3⟩
   ·rcases zt x y z b hb with ⟨j, _, q⟩ | ⟨q1, q2⟩
    ·exact .inl (.inr ⟨_, _, _, q⟩)
    ·exact .inr ⟨.inr ⟨_, _, _, q2⟩, xF _ _ _ _ q1 q2⟩
  have mixed : ∀ b, bP μ0 h0 b → bP μ h b → ¬ bP (xE μ σ hc.length) hc b → False := fun b q1 q2 q3 => by
   rcases hF.own b q1 with r | r
   ·exact q3 r
   ·have := hM.lt b q2; omega
  have jC : Fr μ h S w (OB μ σ h0.length μ0) h' S0 w' := by
   refine ⟨Im.len, fun b hb yh => hF.blocks b hb (fun ho => yh (OE b ho).1), hF.sub, fun b hb => ?_, fun b hb => ?_, hF.size, hF.os, hF.tape, hF.output, fun id g sz n e f hid => ?_, fun id hid => ?_, fun b k hb dZ => ?_, fun id g sz n e f b base hid hm lx => ?_, fun b id x y hx lx => ?_⟩
   rotate_right
   ·by_cases ho : bP (xE μ σ hc.length) hc b
    ·rcases ho with ho | ⟨j, x', y', ho⟩
     ·exact absurd hx (hM.hv b (RZ b ho) _ _ _)
     ·exact hF.qE b j x' y' ho lx
    ·obtain ⟨es, c, q⟩ := lx
     exact ⟨es, c, (hF.blocks b (asC.1 q).1 ho).trans q⟩
   ·rcases hF.new b hb with q | q | q
    ·exact .inl q
    ·exact .inr (.inl (OE b q).1)
    ·exact .inr (.inr q)
   ·rcases kJ b hb with q | ⟨q, _⟩
    ·rcases hF.own b q with r | r
     ·exact .inl (OE b r).1
     ·exact .inr r
    ·exact .inl q
   ·by_cases hx : ∃ j, j < hc.length ∧ σ j = id
    ·obtain ⟨j, hj, rfl⟩ := hx
     have mV : j < h0.length := by omega
     have GV := amb hj
     have xc := gF j _ GV
     rw [xc] at hid
     cases hoc : hc[j] with
     | dead => rw [hoc] at hid; cases hid
     | row gc szc nc ec fc =>
      rw [hoc] at hid GV
      injection hid with hid
      injection hid with e1 e2 e3 e4 e5
      subst e1 e2 e3 e4
      have hg := hF.xe j _ _ _ _ _ GV
      have hs := Im.O9 j _ (amb mV)
      rw [amb mV] at hg
      rw [hs]
      cases ho0 : h0[j] with
      | dead => trivial
      | row g' bx n' e' f' =>
       rw [ho0] at hg
       refine ⟨hg.1, fun O7 => ?_⟩
       obtain ⟨a1, a2, a3, a4⟩ := hg.2 O7
       refine ⟨?_, a2, a3, a4⟩
       rw [hmA j mV, a1]
       unfold xE
       rw [if_pos hj]
    ·have hn : ∀ j, j < h0.length → σ j ≠ id := fun j hj he => by
      rcases atu j hc.length with h1 | h1
      ·exact hx ⟨j, h1, he⟩
      ·have := mm.new j h1
       have := (At.1 hid).1
       omega
     rw [Im.Ez id hn, hid]
     exact ⟨asA _, fun _ => ⟨A8 hn, rfl, rfl, rfl⟩⟩
   ·by_cases hx : ∃ j, j < hc.length ∧ σ j = id
    ·obtain ⟨j, hj, rfl⟩ := hx
     have mV : j < h0.length := by omega
     have GV := amb hj
     have xc := gF j _ GV
     rw [xc] at hid
     cases hoc : hc[j] with
     | row gc szc nc ec fc => rw [hoc] at hid; cases hid
     | dead =>
      rw [hoc] at GV
      have hd := hF.dead j GV
      exact Im.O9 j _ hd
    ·have hn : ∀ j, j < h0.length → σ j ≠ id := fun j hj he => by
      rcases atu j hc.length with h1 | h1
      ·exact hx ⟨j, h1, he⟩
      ·have := mm.new j h1
       have := (At.1 hid).1
       omega
     rw [Im.Ez id hn, hid]
   ·by_cases ho : bP (xE μ σ hc.length) hc b
    ·exact hF.bs b k ho dZ
    ·exact iJ.of_same (hF.blocks b dZ.lt ho) dZ
   ·by_cases hx : ∃ j, j < hc.length ∧ σ j = id
    ·obtain ⟨j, hj, rfl⟩ := hx
     have mV : j < h0.length := by omega
     have GV := amb hj
     have xc := gF j _ GV
     rw [xc] at hid
     cases hoc : hc[j] with
     | dead => rw [hoc] at hid; cases hid
     | row gc szc nc ec fc =>
      rw [hoc] at hid GV
      have hmc : xE μ σ hc.length j = some (b, base) := by unfold xE; rw [if_pos hj]; exact hm
      obtain ⟨r1, r2⟩ := hF.maps j _ _ _ _ _ b base GV hmc lx
      refine ⟨r1, ?_⟩
      rcases r2 with r2 | ⟨⟨g', bx, n', e', f', r2⟩, r3⟩
      ·exact .inl (Im.O9 j _ r2)
      ·exact .inr ⟨⟨_, _, _, _, _, Im.O9 j _ r2⟩, (hmA j mV).trans r3⟩
    ·have hn : ∀ j, j < h0.length → σ j ≠ id := fun j hj he => by
      rcases atu j hc.length with h1 | h1
      ·exact hx ⟨j, h1, he⟩
      ·have := mm.new j h1
       have := (At.1 hid).1
       omega
     obtain ⟨es, c, q⟩ := lx
     exact ⟨⟨es, c, (hF.blocks b (asC.1 q).1 (apart id _ _ _ _ _ _ _ hn hid hm)).trans q⟩, .inr ⟨⟨_, _, _, _, _, (Im.Ez id hn).trans hid⟩, (A8 hn).trans hm⟩⟩
  have aJ : ∀ pv v, bq μ0 h0 S0 w' pv v → bq (OB μ σ h0.length μ0) h' S0 w' (lV σ pv) v := fun pv v hcr => by
   refine Oz (fun j => ?_) (fun _ hb => hb) hcr
   cases ho : h0[j]? with
   | none => exact .inr (.inr rfl)
   | some o =>
    have cM := (At.1 ho).1
    cases o with
    | dead => exact .inr (.inl ⟨rfl, Im.O9 j _ ho⟩)
    | row g sz n e f => exact .inl ⟨g, sz, n, e, f, rfl, ⟨_, Im.O9 j _ ho⟩, hmA j cM⟩
  refine ⟨v, _, h', _, S0, he, ⟨r0, h0, hR, rfl, ?_⟩, OA aJ hv, fun id g sz n e f hid => ?_, ⟨fun b hb hs => ?_, fun b hb => ?_, Bj.slt, ?_, Bj.known, fun b hb id x y hx => ?_, fun b id x y id' x' y' hx rq => ?_⟩, jC⟩
  rotate_right 2
  ·rcases WV b hb with q | ⟨k, g, sz, n, e, f, base, q1, q2, q3⟩
   ·rcases zt id x y b hx with ⟨j, _, r⟩ | ⟨r1, r2⟩
    ·exact Bj.hv b q _ _ _ r
    ·exact mixed b (.inl q) (.inr ⟨_, _, _, r2⟩) (xF _ _ _ _ r1 r2)
   ·rcases zt id x y b hx with ⟨j, _, r⟩ | ⟨r1, r2⟩
    ·exact mixed b (.inr ⟨_, _, _, r⟩) (.inl ⟨k, g, sz, n, e, f, base, q2, q3⟩) (apart k _ _ _ _ _ _ _ q1 q2 q3)
    ·exact hM.hv b ⟨k, g, sz, n, e, f, base, q2, q3⟩ _ _ _ r2
  ·rcases zt id x y b hx with ⟨j, rfl, r⟩ | ⟨r1, r2⟩
   ·rcases zt id' x' y' b rq with ⟨j', rfl, t⟩ | ⟨t1, t2⟩
    ·obtain ⟨e1, e2, e3⟩ := Bj.hh b _ _ _ _ _ _ r t
     exact ⟨by rw [e1], e2, e3⟩
    ·exact (mixed b (.inr ⟨_, _, _, r⟩) (.inr ⟨_, _, _, t2⟩) (xF _ _ _ _ t1 t2)).elim
   ·rcases zt id' x' y' b rq with ⟨j', rfl, t⟩ | ⟨t1, t2⟩
    ·exact (mixed b (.inr ⟨_, _, _, t⟩) (.inr ⟨_, _, _, r2⟩) (xF _ _ _ _ r1 r2)).elim
    ·exact hM.hh b _ _ _ _ _ _ r2 t2
  ·exact hh'
  ·rcases inv id _ hid with ⟨j, o0, rfl, r1, r2, r3⟩ | ⟨r1, r2, r3⟩
   ·cases o0 with
    | dead => cases r2
    | row g0 RJ n0 e0 f0 =>
     injection r2 with e1 e2 e3 e4 e5
     subst e1 e2 e3 e4 e5
     obtain ⟨q1, q2⟩ := WR j _ _ _ _ _ r1
     refine ⟨fun i hi => by simpa using q1 i hi, ?_⟩
     rw [r3]
     cases eg : μ0 j with
     | none => rw [eg] at q2; exact q2
     | some p =>
      obtain ⟨b, base⟩ := p
      rw [eg] at q2
      obtain ⟨o, s1, s2⟩ := q2
      refine ⟨o, s1, ?_⟩
      cases o with
      | cells cur e' z =>
       obtain ⟨x1, x2, x3, s3⟩ := s2
       refine ⟨x1, x2, x3, fun i k pv hi hk => ?_⟩
       rw [asS] at hk
       cases hx : (f0 i)[k]? with
       | none => rw [hx] at hk; cases hk
       | some c =>
        rw [hx] at hk
        injection hk with hk
        subst hk
        obtain ⟨u, t1, t2⟩ := s3 i k c hi hx
        refine ⟨u, t1, ?_⟩
        cases hxo : eL c with
        | false => exact (aJ _ _ t2.c).k (RW hxo)
        | true =>
         cases c with
         | fJ lK n2 e2 f2 F2 => exact t2
         | _ => cases hxo
      | map es c =>
       obtain ⟨x1, s3⟩ := s2
       refine ⟨x1, fun i hi => ?_⟩
       obtain ⟨kp, vp, en, y1, y2, y3, y4⟩ := s3 i hi
       exact ⟨kp, vp, en, by show (f0 i).map (lV σ) = _; rw [y1]; show [lV σ kp, lV σ vp] = _; rw [zs y2, zs y3], y2, y3, y4⟩
      | _ => exact s2.elim
   ·obtain ⟨q1, q2⟩ := hH id _ _ _ _ _ r2
    refine ⟨q1, ?_⟩
    rw [r3]
    cases eg : μ id with
    | none => rw [eg] at q2; exact q2
    | some p =>
     obtain ⟨b, base⟩ := p
     rw [eg] at q2
     obtain ⟨o, s1, s2⟩ := q2
     have cM : b < w.heap.size := (asC.1 s1).1
     exact ⟨o, (hF.blocks b cM (apart id _ _ _ _ _ _ _ r1 r2 eg)).trans s1, s2.mono (fun i y pv v hi hy hr => hr.fr jC hM (fun bx n' e' f' F' he b2 np => by
      have hx : cH h id i y b2 := ⟨_, _, _, _, _, _, _, _, _, _, r2, hi, he ▸ hy, np⟩
      exact hF.blocks b2 (hM.lt b2 (.inr ⟨_, _, _, hx⟩)) (xF _ _ _ _ r1 hx)))⟩
  ·rcases kJ b hb with q | ⟨q1, q2⟩
   ·exact Bj.apart b q hs
   ·rcases hF.new b hs with r | r | r
    ·exact hM.apart b q1 r
    ·exact q2 r
    ·have := hM.lt b q1; omega
  ·rcases kJ b hb with q | ⟨q1, _⟩
   ·exact Bj.lt b q
   ·exact asY (hM.lt b q1) hF.size
  ·intro i j gi O8 ni ei fi gj ma nj ej fj b o o' hi hj mv lL
   have WW : ∀ (i' : Nat) (o1 : ar) (g sz n : Nat) (e : TypeId) (f : Nat → List PV) (oo : Nat) (id g2 lK n2 : Nat) (e2 : TypeId) (f2 : Nat → List PV) (oo2 : Nat), h0[i']? = some (ar.row g sz n e f) → μ0 i' = some (b, oo) → (∀ j, j < h0.length → σ j ≠ id) → h[id]? = some (ar.row g2 lK n2 e2 f2) → μ id = some (b, oo2) → False :=
    fun i' o1 g sz n e f oo id g2 lK n2 e2 f2 oo2 a1 a2 a3 a4 a5 => by
     exact mixed b (.inl ⟨i', g, sz, n, e, f, oo, a1, a2⟩) (.inl ⟨id, g2, lK, n2, e2, f2, oo2, a4, a5⟩) (apart id _ _ _ _ _ _ _ a3 a4 a5)
   rcases inv i _ hi with ⟨i0, oi, rfl, r1, r2, r3⟩ | ⟨r1, r2, r3⟩
   ·rw [r3] at mv
    cases oi with
    | dead => cases r2
    | row g0 RJ n0 e0 f0 =>
     rcases inv j _ hj with ⟨j0, oj, rfl, t1, t2, t3⟩ | ⟨t1, t2, t3⟩
     ·rw [t3] at lL
      cases oj with
      | dead => cases t2
      | row g2 lK n2 e2 f2 => rw [Bj.inj i0 j0 _ _ _ _ _ _ _ _ _ _ _ _ _ r1 t1 mv lL]
     ·rw [t3] at lL
      exact (WW i0 ar.dead _ _ _ _ _ _ _ _ _ _ _ _ _ r1 mv t1 t2 lL).elim
   ·rw [r3] at mv
    rcases inv j _ hj with ⟨j0, oj, rfl, t1, t2, t3⟩ | ⟨t1, t2, t3⟩
    ·rw [t3] at lL
     cases oj with
     | dead => cases t2
     | row g2 lK n2 e2 f2 => exact (WW j0 ar.dead _ _ _ _ _ _ _ _ _ _ _ _ _ t1 lL r1 r2 mv).elim
    ·rw [t3] at lL
     exact hM.inj i j _ _ _ _ _ _ _ _ _ _ _ _ _ r2 t2 mv lL
def fO (is : List Nat) (N : Nat) (j : Nat) : Nat := match is[j]? with
 | some id => id
 | none => N + (j - is.length)
def aK (h : List ar) : List Nat → List ar → List ar
 | id :: r, o :: l => aK (h.set id o) r l
 | _, _ => h
def bO (h : List ar) (is : List Nat) (h0 : List ar) : List ar :=
 aK h is (h0.map (ph (fO is h.length))) ++ (h0.drop is.length).map (ph (fO is h.length))
theorem e9 : ∀ (is : List Nat) (l h : List ar), (aK h is l).length = h.length
 | [], [], _ => rfl
 | [], _ :: _, _ => rfl
 | _ :: _, [], _ => rfl
 | id :: r, o :: l, h => by simp only [aK]; rw [e9 r l]; simp
theorem rM : ∀ (is : List Nat) (l h : List ar) (id : Nat), id ∉ is → (aK h is l)[id]? = h[id]?
 | [], [], _, _, _ => rfl
 | [], _ :: _, _, _, _ => rfl
 | _ :: _, [], _, _, _ => rfl
 | i :: r, o :: l, h, id, hn => by
  simp only [asI, not_or] at hn
  simp only [aK]
  rw [rM r l _ id hn.2, atn (atH hn.1)]
theorem xG : ∀ (is : List Nat) (l h : List ar) (j id : Nat) (o : ar), is.Nodup → is[j]? = some id → l[j]? = some o → id < h.length → (aK h is l)[id]? = some o
 | [], _, _, _, _, _, _, h1, _, _ => by simp at h1
 | _ :: _, [], _, _, _, _, _, _, h2, _ => by simp at h2
 | i :: r, o' :: l, h, j, id, o, hd, h1, h2, cM => by
  simp only [List.nodup_cons] at hd
  simp only [aK]
  cases j with
  | zero =>
   simp at h1 h2
   subst h1 h2
   rw [rM r l _ _ hd.1]
   simp [cM]
  | succ j =>
   exact xG r l _ j id o hd.2 avC avB (by simpa using cM)
theorem acI (is : List Nat) (h : List ar) (hd : is.Nodup) (cM : ∀ id ∈ is, id < h.length) : Sel (fO is h.length) is.length h where
 lt j hj := by
  unfold fO
  rw [amb hj]
  exact cM _ (asK hj)
 new j hj := by
  unfold fO
  rw [atj hj]
 inj i j hi hj he := by
  unfold fO at he
  rw [amb hi, amb hj] at he
  exact (List.getElem_inj hd).1 he
theorem OF (is : List Nat) (h h0 : List ar) (hd : is.Nodup) (cM : ∀ id ∈ is, id < h.length) (hle : is.length ≤ h0.length) : WU (fO is h.length) h h0 (bO h is h0) where
 len := by unfold bO; rw [An, e9]; omega
 Ez id hn := by
  unfold bO
  rcases atu id h.length with h1 | h1
  ·rw [ata (by rw [e9]; exact h1), rM]
   intro hm
   obtain ⟨j, hj, rfl⟩ := atD.1 hm
   refine hn j avh ?_
   unfold fO
   rw [amb hj]
  ·rw [asU (by rw [e9]; exact h1), e9, atj h1, atj]
   simp only [atT, List.length_drop]
   rcases atu (id - h.length) (h0.length - is.length) with h2 | h2
   ·refine (hn (is.length + (id - h.length)) avh ?_).elim
    unfold fO
    rw [atj avh]
    simp
    omega
   ·exact h2
 O9 j o hj := by
  have mV := (At.1 hj).1
  unfold bO
  rcases atu j is.length with h1 | h1
  ·have hs : fO is h.length j = is[j] := by unfold fO; rw [amb h1]
   have hl := cM _ (asK h1)
   rw [hs, ata (by rw [e9]; exact hl)]
   exact xG is _ h j _ _ hd (amb h1) (by rw [asS, hj]; rfl) hl
  ·have hs : fO is h.length j = h.length + (j - is.length) := by unfold fO; rw [atj h1]
   rw [hs, asU (by rw [e9]; omega), e9, asS, atA]
   rw [show is.length + (h.length + (j - is.length) - h.length) = j from by omega, hj]
   rfl
theorem ACall.over {f : FuncId} {args k9 : List PV} {R : PV → List ar → Prop} (hA : ACall P f args hc R) (is : List Nat) (h : List ar) (hl : hc.length = is.length) (hd : is.Nodup) (cM : ∀ id ∈ is, id < h.length)
  (gF : ∀ j o, hc[j]? = some o → h[fO is h.length j]? = some (ph (fO is h.length) o)) (nv : k9 = args.map (wy (fO is h.length))) :
  ACall P f k9 h (fun res h' => ∃ r0 h0, R r0 h0 ∧ res = DH (fO is h.length) r0 ∧ h' = bO h is h0) :=
 hA.O9 h (by rw [hl]; exact acI is h hd cM) gF nv (bO h is) (fun h0 hle => OF is h h0 hd cM avh)
end
end Go.Am
