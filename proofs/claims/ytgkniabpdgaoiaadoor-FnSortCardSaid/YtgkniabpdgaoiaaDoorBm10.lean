/- The condition 'vc' is enough: a function whose body meets it meets its contract. -/
import Derived.Test.YtgkniabpdgaoiaaDoorBm9
import Derived.Test.YtgkniabpdgaoiaaDoorBmG
set_option linter.unusedVariables false
set_option linter.unusedSimpArgs false
namespace Go.Am
open Go Go.RowKit
section
variable {P : Program} {T : Tab} {μ : Mu} {h η : List AObj} {k : List Nat} {S : Nat → Prop} {w : World} {C : Start} {env : Env} {a : Act}
theorem Sim.agree (hs : Sim C μ h S env a w) {w' : World} (ha : Agree w w') : Sim C μ h S env a w' :=
 ⟨⟨hs.core.heap.agree ha hs.core.ok, hs.core.ok.agree ha⟩, hs.fr.trans (Fr.of_agree ha), fun t => (hs.tmps t).fr (Fr.of_agree ha) hs.core.ok, hs.size, hs.far, hs.defers⟩
theorem scalar_val {pv : PV} {v : Value} {w w' : World} {μ μ' : Mu} {h h' : List AObj} {S S' : Nat → Prop} (hs : scalarB pv = true) (hv : VRep μ h S w pv v) : VRep μ' h' S' w' pv v ∧ ∀ v' : Value, VRep μ' h' S' w' pv v' → v' = v := by
 cases pv with
 | int k n => obtain rfl := hv.int_inv; exact ⟨PRep.int _ _, fun v' h' => h'.int_inv⟩
 | bool b => obtain rfl := hv.bool_inv; exact ⟨PRep.bool _, fun v' h' => h'.bool_inv⟩
 | str s => obtain rfl := hv.str_inv; exact ⟨PRep.str _, fun v' h' => h'.str_inv⟩
 | nils => obtain rfl := hv.nils_inv; exact ⟨PRep.nils, fun v' h' => h'.nils_inv⟩
 | _ => cases hs
def scalarVal : PV → Value
 | .int k n => .int k n
 | .bool b => .bool b
 | .str s => .string ⟨⟨s⟩⟩
 | .nils => .slice none 0 0
 | _ => undef
theorem scalarVal_rep {pv : PV} {w : World} {μ : Mu} {h : List AObj} {S : Nat → Prop} (hs : scalarB pv = true) : VRep μ h S w pv (scalarVal pv) := by
 cases pv with
 | int k n => exact PRep.int _ _
 | bool b => exact PRep.bool _
 | str s => exact PRep.str _
 | nils => exact PRep.nils
 | _ => cases hs
theorem qops_guard {P : Program} {K : Env → Prop} (all : List Oper) (o : Oper) (rest : List Oper) (env : Env) (h : List AObj) {j : Nat} {want : Bool} (hg : o.guard = some (j, want)) :
  qops P T all h K (o :: rest) env = (match (all[j]?).bind (·.dst) with
     | some t => match env t with
      | .bool b => splitB b
        (match (generalizing := false) want with
         | true => qop P T o.op (upd env t (.bool true)) h (fun v => qops P T all h K rest (updO (upd env t (.bool true)) o.dst v))
         | false => qops P T all h K rest (updO (upd env t (.bool true)) o.dst (.tup [])))
        (match (generalizing := false) want with
         | true => qops P T all h K rest (updO (upd env t (.bool false)) o.dst (.tup []))
         | false => qop P T o.op (upd env t (.bool false)) h (fun v => qops P T all h K rest (updO (upd env t (.bool false)) o.dst v)))
      | .tup [] => qops P T all h K rest (updO env o.dst (.tup []))
      | _ => False
     | none => False) := by
 obtain ⟨dst, op, ty, pos, after, guard⟩ := o
 have hg : guard = some (j, want) := hg
 rw [hg]
 rfl
theorem qops_sound (hT : TabOk P T) (ops : Array Oper) {K : Env → Prop} {Q : Act → Prop} (h : List AObj) (w : World) (μ : Mu) (S : Nat → Prop) (hK : ∀ env a, K env → Sim C μ h S env a w → Q a) :
  ∀ (l : List Oper) (env : Env) (a : Act), qops P T ops.toList h K l env → (∀ o ∈ l, dstOk C.nt o = true) → Sim C μ h S env a w → wpQuiet P ops (Agree w) Q l a
 | [], env, a, hp, _, hs => hK env a hp hs
 | o :: rest, env, a, hp, hd, hs => by
  have hdo : ∀ t, o.dst = some t → t < C.nt := fun t ht => by
   have := hd o (by simp)
   unfold dstOk at this
   rw [ht] at this
   simpa using this
  have hdr : ∀ o ∈ rest, dstOk C.nt o = true := fun o ho => hd o (by simp [ho])
  have run : ∀ env', Sim C μ h S env' a w → qop P T o.op env' h (fun v => qops P T ops.toList h K rest (updO env' o.dst v)) → o.quiet P a (Agree w) (wpQuiet P ops (Agree w) Q rest) := fun env' hs' hp' => by
   obtain ⟨dst, op, ty, pos, after, guard⟩ := o
   have still : spop T op env' h (fun v => qops P T ops.toList h K rest (updO env' dst v)) → Oper.quiet P ⟨dst, op, ty, pos, after, guard⟩ a (Agree w) (wpQuiet P ops (Agree w) Q rest) := fun hp' => by
    obtain ⟨v, val, hK', hv, hr⟩ := spop_sound (P := P) (env := env') hT hs'.core.heap hs'.tmps (dst := dst) (ty := ty) (pos := pos) (after := after) (guard := guard) hp'
    refine ⟨val, fun w' hw' => ?_, qops_sound hT ops h w μ S hK rest _ _ hK' hdr (hs'.put Fr.refl hs'.core hv hdo)⟩
    unfold Oper.quietAt
    rw [hr w' hw']
    exact ⟨rfl, rfl⟩
   cases op with
   | call c =>
    obtain ⟨cal, args, ts⟩ := c
    cases cal with
    | value fo =>
     have hfo := ev_rep hs'.tmps fo
     change qcall P (ev env' fo) (args.toList.map (ev env')) h _ at hp'
     unfold qcall at hp'
     split at hp'
     ·rename_i f hef
      rw [hef] at hfo
      replace hp' := guardB_elim hp'
      obtain ⟨hnt, args', v, hz, hnt', ⟨⟨fn, c, hfn, hbody, hname⟩, hA⟩, hK'⟩ := hp'
      obtain ⟨hsc, hK'⟩ := guardB_elim hK'
      refine ⟨scalarVal v, fun w' hw' => ?_, qops_sound hT ops h w μ S hK rest _ _ hK' hdr (hs'.put Fr.refl hs'.core (scalarVal_rep hsc) hdo)⟩
      have hs2 := hs'.agree hw'
      obtain ⟨hl, hzz⟩ := FzL.get _ _ hz
      have hco := (fz_core (k := []) (η := []) (m := 0) hs2.core trivial rfl).1
      have hcall := hA w' (args.map a.eval) (muFz μ h []) (sFz μ h [] S) hco.heap hco.ok (by simpa using hl.symm) (fun j pv' hj => by
       have hjl : j < args.toList.length := by have := (List.getElem?_eq_some_iff.1 hj).1; simpa [hl] using this
       have hx : (args.toList.map (ev env'))[j]? = some (ev env' args.toList[j]) := by rw [List.getElem?_map, List.getElem?_eq_getElem hjl]; rfl
       refine ⟨a.eval args.toList[j], by rw [Array.getElem?_map]; have := List.getElem?_eq_getElem hjl; simp only [Array.getElem?_toList] at this; rw [this]; rfl, ?_⟩
       have hv := (fz_sound (k := []) (η := []) (m := 0) hs2.core trivial (hzz j _ pv' hx hj)).2.2 _ (ev_rep hs2.tmps args.toList[j])
       have hne := (List.all_eq_true.1 hnt') pv' (List.mem_of_getElem? hj)
       cases pv' with
       | tup ps => cases hne
       | _ => exact hv)
      have hrun : (execOp a.eval ⟨dst, .call ⟨.value fo, args, ts⟩, ty, pos, after, guard⟩).run P w' = .ok (.enter f (args.map a.eval)) w' := by
       simp only [execOp, resolve, hfo.fn_inv, Deferred.ofValue, invoke, callFunc, Sem.run_bind, Sem.run_pure, Result.andThen_ok, Array.append_empty, Array.empty_append]
       have hname' : ¬ fn.name = "runtime.NumGoroutine" := by simpa using hname
       simp [program, Sem.run, Result.andThen, hfn, hname', hbody]
      unfold Oper.quietAt
      rw [hrun]
      refine ⟨rfl, hcall.mono fun e w'' ⟨u, res, h', μ', S', he, hR, hv, hH, hM, hF⟩ => ?_⟩
      subst hR
      have hu := (scalar_val (w' := w) (μ' := μ) (h' := h) (S' := S) hsc (scalarVal_rep (w := w'') (μ := μ') (h := h') (S := S') hsc)).1
      have hu2 := (scalar_val (w' := w'') (μ' := μ') (h' := h') (S' := S') hsc (scalarVal_rep (w := w) (μ := μ) (h := h) (S := S) hsc)).2 u hv
      refine ⟨by rw [he, hu2], hw'.trans ⟨fun b hb => hF.blocks b hb (fun ⟨id, g, sz, n, e, f, base, h1, _⟩ => by simp at h1), hF.size, hF.os, hF.tape, hF.output⟩⟩
     ·exact hp'.elim
    | _ => exact still hp'
   | _ => exact still hp'
  have skip : ∀ env', Sim C μ h S env' a w → qops P T ops.toList h K rest (updO env' o.dst (.tup [])) → wpQuiet P ops (Agree w) Q rest (a.put o.dst undef) := fun env' hs' hp' =>
   qops_sound hT ops h w μ S hK rest _ _ hp' hdr (hs'.put Fr.refl hs'.core vrep_undef hdo)
  unfold wpQuiet
  cases hg : o.guard with
  | none =>
   have hp : qop P T o.op env h (fun v => qops P T ops.toList h K rest (updO env o.dst v)) := by
    obtain ⟨dst, op, ty, pos, after, guard⟩ := o
    subst hg
    exact hp
   rw [if_pos (by simp [Region.wanted, hg])]
   exact run env hs hp
  | some p =>
   obtain ⟨j, want⟩ := p
   rw [qops_guard ops.toList o rest env h hg] at hp
   split at hp
   ·rename_i t hj
    split at hp
    ·rename_i b he
     have hy := yielded_of hs hj he
     obtain ⟨ht, hf⟩ := splitB_elim hp
     have hs' := hs.upd_bool he
     cases b with
     | true =>
      have hp := ht rfl
      cases want with
      | true => rw [if_pos (by simp [Region.wanted, hg, hy])]; exact run _ hs' hp
      | false => rw [if_neg (by simp [Region.wanted, hg, hy])]; exact skip _ hs' hp
     | false =>
      have hp := hf rfl
      cases want with
      | true => rw [if_neg (by simp [Region.wanted, hg, hy])]; exact skip _ hs' hp
      | false => rw [if_pos (by simp [Region.wanted, hg, hy])]; exact run _ hs' hp
    ·rename_i he
     rw [if_neg (by simp [Region.wanted, hg, yielded_none hs hj he])]
     exact skip _ hs hp
    ·exact hp.elim
   ·exact hp.elim
theorem fzEnv_get : ∀ (σ : List (Nat × PV)) (t : Nat), FzEnv h η k env σ → (∃ v, Fz h η k (env t) v ∧ updL junkEnv σ t = v) ∨ updL junkEnv σ t = .junk
 | [], t, _ => .inr rfl
 | (t', v) :: r, t, hh => by
  obtain ⟨h1, h2⟩ := hh
  by_cases htt : t = t'
  ·subst htt
   exact .inl ⟨v, h1, by simp [updL, upd_same]⟩
  ·simp only [updL]
   rw [upd_ne _ _ htt]
   exact fzEnv_get r t h2
theorem taken_sim (hs : Sim C μ h S env a w) {σ : List (Nat × PV)} (ht : Taken C.h.length env h σ η) : ∃ μ' S', Sim C μ' η S' (updL junkEnv σ) a w := by
 obtain ⟨k, hk, hm, he, hh⟩ := ht
 obtain ⟨hco, _, _⟩ := fz_core hs.core hh hk
 refine ⟨muFz μ h k, sFz μ h k S, hco, fz_fr hs.core hs.fr hh hk hm, fun t => ?_, hs.size, fun t hlt => ?_, hs.defers⟩
 ·rcases fzEnv_get σ t he with ⟨v, h1, h2⟩ | h1
  ·rw [h2]; exact (fz_sound hs.core hh h1).2.2 _ (hs.tmps t)
  ·rw [h1]; trivial
 ·rcases fzEnv_get σ t he with ⟨v, h1, h2⟩ | h1
  ·rw [hs.far t hlt] at h1
   rw [h2]
   cases h1
   rfl
  ·exact h1
theorem Lift.mono {Q Q' : XQ} {e : Exit} {w : World} (hq : ∀ env h, Q e env h → Q' e env h) (hl : Lift C Q e a w) : Lift C Q' e a w := by
 obtain ⟨μ, h, S, env, hs, hQ⟩ := hl
 exact ⟨μ, h, S, env, hs, hq env h hQ⟩
theorem inL_mem : ∀ (l : List Nat) (x : Nat), inL l x = true → x ∈ l
 | [], _, h => by cases h
 | a :: r, x, h => by
  unfold inL at h
  split at h
  ·rename_i hb
   have := Nat.eq_of_beq_eq_true hb
   simp [this]
  ·exact List.mem_cons_of_mem _ (inL_mem r x h)
theorem allR_get : ∀ (l : List Nat) (F : Nat → Prop), allR l F → ∀ i ∈ l, F i
 | [], _, _, i, hi => by simp at hi
 | [j], F, h, i, hi => by simp at hi; subst hi; exact h
 | j :: k :: r, F, h, i, hi => by
  obtain ⟨h1, h2⟩ := h
  simp only [List.mem_cons] at hi
  rcases hi with rfl | hi
  ·exact h1
  ·exact allR_get (k :: r) F h2 i (by simpa using hi)
theorem step_sound (hT : TabOk P T) (ops : Array Oper) {K : Env → List AObj → Prop} {Q : Exit → Act → World → Prop} {next : Act → World → Prop} (hK : ∀ env h a w μ S, K env h → Sim C μ h S env a w → next a w) (i : Nat) (o : Oper) (ho : ops[i]? = some o)
  (hd : dstOk C.nt o = true) (env : Env) (h : List AObj) (a : Act) (w : World) (μ : Mu) (S : Nat → Prop) (hp : pops P T ops.toList K [o] env h) (hs : Sim C μ h S env a w) : wpOp P ops Q i next a w := by
 have hdo : ∀ t, o.dst = some t → t < C.nt := fun t ht => by
  unfold dstOk at hd
  rw [ht] at hd
  simpa using hd
 have run : ∀ env', Sim C μ h S env' a w → pop P T o.op env' h (fun v h' => K (updO env' o.dst v) h') → o.wp P a w next Q := fun env' hs' hp' => by
  obtain ⟨dst, op, ty, pos, after, guard⟩ := o
  refine pop_sound (env := env') hT hs'.core hs'.tmps hp' _ _ fun v val h' μ' S' w' hK' hv hc hf => ?_
  exact hK _ h' _ w' μ' S' hK' (hs'.put hf hc hv hdo)
 have skip : ∀ env', Sim C μ h S env' a w → K (updO env' o.dst (.tup [])) h → next (a.put o.dst undef) w := fun env' hs' hp' =>
  hK _ h _ w μ S hp' (hs'.put Fr.refl hs'.core vrep_undef hdo)
 unfold wpOp
 simp only [ho]
 cases hg : o.guard with
 | none =>
  have hp : pop P T o.op env h (fun v h' => K (updO env o.dst v) h') := by
   obtain ⟨dst, op, ty, pos, after, guard⟩ := o
   subst hg
   exact hp
  rw [if_pos (by simp [Region.wanted, hg])]
  exact .inl (run env hs hp)
 | some p =>
  obtain ⟨j, want⟩ := p
  rw [pops_guard ops.toList o [] env h hg] at hp
  split at hp
  ·rename_i t hj
   split at hp
   ·rename_i b he
    have hy := yielded_of hs hj he
    obtain ⟨ht, hf⟩ := splitB_elim hp
    have hs' := hs.upd_bool he
    cases b with
    | true =>
     have hp := ht rfl
     cases want with
     | true => rw [if_pos (by simp [Region.wanted, hg, hy])]; exact .inl (run _ hs' hp)
     | false => rw [if_neg (by simp [Region.wanted, hg, hy])]; exact skip _ hs' hp
    | false =>
     have hp := hf rfl
     cases want with
     | true => rw [if_neg (by simp [Region.wanted, hg, hy])]; exact skip _ hs' hp
     | false => rw [if_pos (by simp [Region.wanted, hg, hy])]; exact .inl (run _ hs' hp)
   ·rename_i he
    rw [if_neg (by simp [Region.wanted, hg, yielded_none hs hj he])]
    exact skip _ hs hp
   ·exact hp.elim
  ·exact hp.elim
theorem dops_sound (hT : TabOk P T) (ops : Array Oper) {K : Env → List AObj → Prop} {Q : Exit → Act → World → Prop} (hK : ∀ env h a w μ S, K env h → Sim C μ h S env a w → Q .normal a w) (hd : ∀ o ∈ ops.toList, dstOk C.nt o = true) :
  ∀ (f : Nat) (listed : Array Bool) (done : List Nat) (env : Env) (h : List AObj) (a : Act) (w : World) (μ : Mu) (S : Nat → Prop), chkD ops f listed done = true → dops P T ops.toList K f done env h → Sim C μ h S env a w →
   wpAny P .any ops Q f listed a w
 | 0, listed, done, env, h, a, w, μ, S, hc, hp, hs => by
  refine ⟨?_, hK env h a w μ S hp hs⟩
  simpa [chkD] using hc
 | f + 1, listed, done, env, h, a, w, μ, S, hc, hp, hs => by
  simp only [chkD, Bool.and_eq_true, List.all_eq_true] at hc
  obtain ⟨hne, hc⟩ := hc
  refine ⟨fun h0 => by rw [h0] at hne; simp at hne, fun i hi => ?_⟩
  obtain ⟨hin, hc'⟩ := hc i hi
  have hstep := allR_get _ _ hp i (inL_mem _ _ hin)
  split at hstep
  ·rename_i o ho
   have ho' : ops[i]? = some o := by simpa using ho
   exact step_sound hT ops (fun env' h' a' w' μ' S' hk hs' => dops_sound hT ops hK hd f _ (i :: done) env' h' a' w' μ' S' hc' hk hs') i o ho' (hd o (by have := (List.getElem?_eq_some_iff.1 ho); obtain ⟨h1, h2⟩ := this; rw [← h2]; exact List.getElem_mem h1)) env h a w μ S hstep hs
  ·exact hstep.elim
theorem spop_pop {op : Op} {env : Env} {h : List AObj} {G : PV → List AObj → Prop} (hs : spop T op env h (fun v => G v h)) : pop P T op env h G := by
 cases op with
 | store t a x => exact hs.elim
 | box t x => exact hs.elim
 | alloc t => exact hs.elim
 | makeSlice t l c => exact hs.elim
 | buildSlice t len parts => exact hs.elim
 | convert s d x =>
  simp only [pop]
  split
  ·rename_i e1 e2 e3
   simp only [spop, e1, e2, e3] at hs
  ·exact hs
 | binOp bo t x y ty =>
  simp only [pop]
  split
  ·rename_i e1 e2 e3
   simp only [spop, pbin, e1, e2, e3] at hs
  ·exact hs
 | makeMap t r => exact hs.elim
 | mapUpdate t m k x => exact hs.elim
 | call c =>
  obtain ⟨callee, args, ts⟩ := c
  cases callee with
  | value fo => exact hs.elim
  | builtin b => cases b with
   | append => exact hs.elim
   | copy => exact hs.elim
   | _ => (simp only [pop]; exact hs)
  | _ => (simp only [pop]; exact hs)
 | _ => (simp only [pop]; exact hs)
theorem frun_pop {st : Bool} {op : Op} {env : Env} {h : List AObj} {G : PV → List AObj → Prop} (hs : frun P T st op env h G) : pop P T op env h G := by
 cases st with
 | true => exact spop_pop hs
 | false => exact hs
theorem fs_pops {all : List Oper} {st : Bool} {o : Oper} {K : Env → List AObj → Prop} {env : Env} {h : List AObj} (hp : fs P T all st o (fun v h' => K (updO env o.dst v) h') env h) : pops P T all K [o] env h := by
 unfold fs at hp
 cases hg : o.guard with
 | none =>
  rw [hg] at hp
  obtain ⟨dst, op, ty, pos, after, guard⟩ := o
  have hg : guard = none := hg
  subst hg
  exact frun_pop hp
 | some q =>
  obtain ⟨j, want⟩ := q
  rw [hg] at hp
  rw [pops_guard all o [] env h hg]
  simp only at hp ⊢
  generalize (all[j]?).bind (·.dst) = d at hp ⊢
  cases d with
  | none => exact hp.elim
  | some t =>
   simp only at hp ⊢
   generalize hv : env t = v at hp ⊢
   cases v with
   | bool b =>
    simp only at hp ⊢
    cases b with
    | true =>
     refine .mk (fun _ => ?_) (fun hc => by cases hc)
     rw [upd_lit hv]
     cases want with
     | true => exact frun_pop hp
     | false => exact hp
    | false =>
     refine .mk (fun hc => by cases hc) (fun _ => ?_)
     rw [upd_lit hv]
     cases want with
     | true => exact hp
     | false => exact frun_pop hp
   | tup l => cases l with
    | nil => exact hp
    | cons a r => exact hp.elim
   | _ => exact hp.elim
inductive Anc (all : List Oper) : Nat → Nat → Prop
 | base {x i : Nat} (h : x ∈ depsAt all i) : Anc all x i
 | step {x d i : Nat} (h : d ∈ depsAt all i) (hx : Anc all x d) : Anc all x i
theorem ddL_mem : ∀ (l acc : List Nat) (x : Nat), x ∈ ddL l acc → x ∈ l ∨ x ∈ acc
 | [], acc, x, h => .inr h
 | a :: r, acc, x, h => by
  unfold ddL at h
  cases hi : inL acc a with
  | true => rw [hi] at h; exact (ddL_mem r acc x h).imp (List.mem_cons_of_mem _) id
  | false =>
   rw [hi] at h
   rcases ddL_mem r (a :: acc) x h with h | h
   ·exact .inl (List.mem_cons_of_mem _ h)
   ·simp only [List.mem_cons] at h
    rcases h with rfl | h
    ·exact .inl (by simp)
    ·exact .inr h
theorem mem_inL : ∀ (l : List Nat) (x : Nat), x ∈ l → inL l x = true
 | a :: r, x, h => by
  unfold inL
  cases hb : Nat.beq a x with
  | true => rfl
  | false =>
   simp only [List.mem_cons] at h
   rcases h with rfl | h
   ·rw [Nat.beq_refl] at hb; cases hb
   ·exact mem_inL r x h
theorem ancT_good {all : List Oper} : ∀ (ord : List (Nat × Bool)) (t : List (Nat × List Nat)), (∀ i x, inL (lookA t i) x = true → Anc all x i) → ∀ i x, inL (lookA (ancT all ord t) i) x = true → Anc all x i
 | [], t, hg => hg
 | (j, b) :: r, t, hg => ancT_good r _ (fun i x hx => by
  unfold lookA at hx
  cases hb : Nat.beq j i with
  | false => rw [hb] at hx; exact hg i x hx
  | true =>
   rw [hb] at hx
   have := Nat.eq_of_beq_eq_true hb
   subst this
   rcases ddL_mem _ _ _ (inL_mem _ _ hx) with hm | hm
   ·rw [List.mem_append, List.mem_flatMap] at hm
    rcases hm with hm | ⟨d, hd, hm⟩
    ·exact .base hm
    ·exact .step hd (hg d x (mem_inL _ _ hm))
   ·simp at hm)
theorem pairsOk_app {ops : Array Oper} {t : List (Nat × List Nat)} {p : Nat × Bool} : ∀ (l1 l2 : List (Nat × Bool)), pairsOk ops t (l1 ++ p :: l2) = true → (∀ o, o ∈ l1 → pairOk ops t o p = true) ∧ pairsOk ops t (l1 ++ l2) = true
 | [], l2, h => by
  simp only [List.nil_append, pairsOk, Bool.and_eq_true] at h
  exact ⟨fun o ho => by simp at ho, h.2⟩
 | a :: l1, l2, h => by
  simp only [List.cons_append, pairsOk, Bool.and_eq_true, List.all_eq_true] at h ⊢
  obtain ⟨h1, h2⟩ := pairsOk_app l1 l2 h.2
  refine ⟨fun o ho => ?_, fun q hq => h.1 q (by simp only [List.mem_append, List.mem_cons] at hq ⊢; exact hq.imp id .inr), h2⟩
  simp only [List.mem_cons] at ho
  rcases ho with rfl | ho
  ·exact h.1 p (by simp)
  ·exact h1 o ho
theorem depsAt_mem {ops : Array Oper} {i : Nat} {o : Oper} (ho : ops[i]? = some o) {d : Nat} : d ∈ depsAt ops.toList i ↔ ∃ e, e ∈ o.after ∧ Region.binds .any e = true ∧ e.on = d := by
 unfold depsAt
 have : ops.toList[i]? = some o := by simpa using ho
 rw [this]
 unfold depsOf
 rw [List.mem_filterMap]
 constructor
 ·rintro ⟨e, he, hx⟩
  cases hb : Region.binds .any e with
  | true => rw [hb] at hx; exact ⟨e, by simpa using he, hb, by simpa using hx⟩
  | false => rw [hb] at hx; cases hx
 ·rintro ⟨e, he, hb, hx⟩
  exact ⟨e, by simpa using he, by rw [hb]; simp [hx]⟩
theorem fwm_any (hT : TabOk P T) (ops : Array Oper) {t : List (Nat × List Nat)} (hgood : ∀ i x, inL (lookA t i) x = true → Anc ops.toList x i) (hdep : ∀ i, i < ops.size → ∀ d, d ∈ depsAt ops.toList i → d < ops.size ∧ d ≠ i)
  {K : Env → List AObj → Prop} {Q : Exit → Act → World → Prop} (hK : ∀ env h a w μ S, K env h → Sim C μ h S env a w → Q .normal a w) (hd : ∀ o ∈ ops.toList, dstOk C.nt o = true) :
  ∀ (n : Nat) (l : List (Nat × Bool)) (fps : List (Nat × List Nat)) (listed : Array Bool) (env : Env) (h : List AObj) (a : Act) (w : World) (μ : Mu) (S : Nat → Prop), l.length = n → pairsOk ops t l = true → (∀ p, p ∈ l → p.1 < ops.size) → listed.size = ops.size →
   (∀ j, j < ops.size → (listed.getD j true = false ↔ j ∈ l.map (·.1))) → (∀ j, j < ops.size → j ∉ l.map (·.1) → ∀ d, d ∈ depsAt ops.toList j → d ∉ l.map (·.1)) → fwm P T ops.toList t K l fps env h → Sim C μ h S env a w → wpAny P .any ops Q n listed a w
 | 0, l, fps, listed, env, h, a, w, μ, S, hn, _, _, hsz, hls, _, hf, hs => by
  obtain rfl : l = [] := List.length_eq_zero_iff.1 hn
  refine ⟨?_, hK env h a w μ S hf hs⟩
  cases hr : Region.ready .any ops listed with
  | nil => rfl
  | cons j r =>
   have hj : j ∈ Region.ready .any ops listed := by rw [hr]; simp
   rw [mem_ready] at hj
   obtain ⟨h1, o, ho, _⟩ := hj
   have := (hls j (Array.getElem?_eq_some_iff.1 ho).1).1 h1
   simp at this
 | n + 1, l, fps, listed, env, h, a, w, μ, S, hn, hpo, hlt, hsz, hls, hdc, hf, hs => by
  have hgd : ∀ d, d < ops.size → (listed.getD d false = true ↔ d ∉ l.map (·.1)) := fun d hdl => by
   have := hls d hdl
   have e : listed.getD d false = listed.getD d true := by simp [Array.getD, hsz, hdl]
   rw [e, ← this]
   cases listed.getD d true <;> simp
  refine ⟨fun h0 => ?_, fun i hi => ?_⟩
  ·exfalso
   cases l with
   | nil => simp at hn
   | cons p r =>
    have hp := hlt p (by simp)
    have ho := Array.getElem?_eq_getElem hp
    have : p.1 ∈ Region.ready .any ops listed := by
     rw [mem_ready]
     refine ⟨(hls p.1 hp).2 (by simp), _, ho, fun e he hb => ?_⟩
     have hm : e.on ∈ depsAt ops.toList p.1 := (depsAt_mem ho).2 ⟨e, he, hb, rfl⟩
     obtain ⟨d1, d2⟩ := hdep p.1 hp _ hm
     rw [hgd _ d1]
     intro hc
     simp only [List.map_cons, List.mem_cons, List.mem_map] at hc
     rcases hc with hc | ⟨q, hq, hc⟩
     ·exact d2 hc
     ·simp only [pairsOk, Bool.and_eq_true, List.all_eq_true] at hpo
      have := hpo.1 q hq
      unfold pairOk at this
      simp only [Bool.and_eq_true, Bool.not_eq_true'] at this
      rw [hc, mem_inL _ _ hm] at this
      exact absurd this.1.2 (by simp)
    rw [h0] at this
    simp at this
  ·rw [mem_ready] at hi
   obtain ⟨h1, oi, hoi, hdeps⟩ := hi
   have hil := (Array.getElem?_eq_some_iff.1 hoi).1
   have hdd : ∀ d, d ∈ depsAt ops.toList i → d ∉ l.map (·.1) := fun d hd' => by
    obtain ⟨e, he, hb, rfl⟩ := (depsAt_mem hoi).1 hd'
    exact (hgd _ (hdep i hil _ hd').1).1 (hdeps e he hb)
   have hanc : ∀ x, Anc ops.toList x i → x ∉ l.map (·.1) := by
    have gen : ∀ x j, Anc ops.toList x j → j < ops.size → (∀ d, d ∈ depsAt ops.toList j → d ∉ l.map (·.1)) → x ∉ l.map (·.1) := fun x j ha => by
     induction ha with
     | base hx => exact fun _ hj => hj _ hx
     | step hd' _ ih => exact fun hj hjd => ih (hdep _ hj _ hd').1 (hdc _ (hdep _ hj _ hd').1 (hjd _ hd'))
    exact fun x ha => gen x i ha hil hdd
   obtain ⟨p, hp, hpi⟩ := List.mem_map.1 ((hls i hil).1 h1)
   obtain ⟨l1, l2, rfl⟩ := List.append_of_mem hp
   obtain ⟨i', st⟩ := p
   simp only at hpi
   subst hpi
   obtain ⟨hpr, hpo'⟩ := pairsOk_app l1 l2 hpo
   have hoi' : ops.toList[i']? = some oi := by simpa using hoi
   have hmv := fwm_move (P := P) (T := T) (ops := ops) (t := t) (K := K) hoi' l1 l2 fps env h (fun q hq => by
    have hk := hpr q hq
    unfold pairOk at hk
    simp only [Bool.and_eq_true, Bool.or_eq_true, Bool.not_eq_true'] at hk
    have hqm : q.1 ∈ (l1 ++ (i', st) :: l2).map (·.1) := List.mem_map.2 ⟨q, by simp [hq], rfl⟩
    have hna : inL (lookA t i') q.1 = false := by
     cases hb : inL (lookA t i') q.1 with
     | false => rfl
     | true => exact absurd hqm (hanc _ (hgood _ _ hb))
    rcases hk.2 with hk' | ⟨hk1, hk2⟩
    ·exact absurd hqm (hdd _ (inL_mem _ _ hk'))
    ·refine ⟨?_, hna, hk1⟩
     rcases hk2 with hk2 | hk2
     ·exact hk2
     ·rw [hna] at hk2; cases hk2) hf
   have hne : ∀ q, q ∈ l1 ++ l2 → q.1 ≠ i' := fun q hq => by
    rw [List.mem_append] at hq
    rcases hq with hq | hq
    ·have hk := hpr q hq
     unfold pairOk at hk
     simp only [Bool.and_eq_true, Bool.not_eq_true'] at hk
     intro he
     have this : Nat.beq q.1 i' = false := hk.1.1
     rw [he, Nat.beq_refl] at this
     cases this
    ·have : ∀ (l1 : List (Nat × Bool)), pairsOk ops t (l1 ++ (i', st) :: l2) = true → pairOk ops t (i', st) q = true := fun l1 => by
      induction l1 with
      | nil => intro hh; simp only [List.nil_append, pairsOk, Bool.and_eq_true, List.all_eq_true] at hh; exact hh.1 q hq
      | cons b r ih => intro hh; simp only [List.cons_append, pairsOk, Bool.and_eq_true] at hh; exact ih hh.2
     have hk := this l1 hpo
     unfold pairOk at hk
     simp only [Bool.and_eq_true, Bool.not_eq_true'] at hk
     intro he
     have := hk.1.1
     rw [he] at this
     rw [Nat.beq_refl] at this
     cases this
   have hmem : ∀ j, j ∈ (l1 ++ (i', st) :: l2).map (·.1) ↔ j = i' ∨ j ∈ (l1 ++ l2).map (·.1) := fun j => by
    simp only [List.map_append, List.map_cons, List.mem_append, List.mem_cons]
    constructor
    ·rintro (h | h | h)
     ·exact .inr (.inl h)
     ·exact .inl h
     ·exact .inr (.inr h)
    ·rintro (h | h | h)
     ·exact .inr (.inl h)
     ·exact .inl h
     ·exact .inr (.inr h)
   have hni : i' ∉ (l1 ++ l2).map (·.1) := fun hm => by
    obtain ⟨q, hq, he⟩ := List.mem_map.1 hm
    exact hne q hq he
   have hpops : pops P T ops.toList (fun env' h' => fwm P T ops.toList t K (l1 ++ l2) fps env' h') [oi] env h := fs_pops (fs_mono (fun v h' hk => hk.2.2) hmv)
   refine step_sound hT ops (fun env' h' a' w' μ' S' hk hs' => fwm_any hT ops hgood hdep hK hd n (l1 ++ l2) fps _ env' h' a' w' μ' S' (by simp at hn ⊢; omega) hpo' (fun q hq => hlt q (by rw [List.mem_append] at hq ⊢; exact hq.imp id (List.mem_cons_of_mem _))) (by simpa using hsz) (fun j hj => ?_) (fun j hj hjn dd hdm => ?_) hk hs') i' oi hoi (hd oi (by have := (List.getElem?_eq_some_iff.1 hoi'); obtain ⟨h1, h2⟩ := this; rw [← h2]; exact List.getElem_mem h1)) env h a w μ S hpops hs
   ·by_cases hji : j = i'
    ·subst hji
     constructor
     ·intro hc
      have : (listed.setIfInBounds j true).getD j true = true := by simp [Array.getD, hsz, hj]
      rw [this] at hc; cases hc
     ·intro hc; exact absurd hc hni
    ·have e : (listed.setIfInBounds i' true).getD j true = listed.getD j true := getD_set_ne true (Ne.symm hji)
     rw [e, hls j hj, hmem j]
     constructor
     ·rintro (h | h)
      ·exact absurd h hji
      ·exact h
     ·exact .inr
   ·by_cases hji : j = i'
    ·subst hji
     exact fun hm => hdd dd hdm ((hmem dd).2 (.inr hm))
    ·exact fun hm => hdc j hj (fun hc => by rcases (hmem j).1 hc with hc | hc; exact hji hc; exact hjn hc) dd hdm ((hmem dd).2 (.inr hm))
theorem rem_step {ops : Array Oper} {listed : Array Bool} {i : Nat} {L L' : List Nat} (hmem : ∀ j, j ∈ L ↔ j = i ∨ j ∈ L') (hni : i ∉ L') (hsz : listed.size = ops.size) (hls : ∀ j, j < ops.size → (listed.getD j true = false ↔ j ∈ L))
  (hdc : ∀ j, j < ops.size → j ∉ L → ∀ d, d ∈ depsAt ops.toList j → d ∉ L) (hdd : ∀ d, d ∈ depsAt ops.toList i → d ∉ L) :
  (∀ j, j < ops.size → ((listed.setIfInBounds i true).getD j true = false ↔ j ∈ L')) ∧ ∀ j, j < ops.size → j ∉ L' → ∀ d, d ∈ depsAt ops.toList j → d ∉ L' := by
 refine ⟨fun j hj => ?_, fun j hj hjn d hdm hm => ?_⟩
 ·by_cases hji : j = i
  ·subst hji
   constructor
   ·intro hc
    have : (listed.setIfInBounds j true).getD j true = true := by simp [Array.getD, hsz, hj]
    rw [this] at hc; cases hc
   ·intro hc; exact absurd hc hni
  ·have e : (listed.setIfInBounds i true).getD j true = listed.getD j true := getD_set_ne true (Ne.symm hji)
   rw [e, hls j hj, hmem j]
   exact ⟨fun h => h.resolve_left hji, .inr⟩
 ·by_cases hji : j = i
  ·subst hji
   exact hdd d hdm ((hmem d).2 (.inr hm))
  ·exact hdc j hj (fun hc => by rcases (hmem j).1 hc with hc | hc; exact hji hc; exact hjn hc) d hdm ((hmem d).2 (.inr hm))
theorem pairOk_ne {ops : Array Oper} {t : List (Nat × List Nat)} {p q : Nat × Bool} (h : pairOk ops t p q = true) : p.1 ≠ q.1 := by
 unfold pairOk at h
 simp only [Bool.and_eq_true, Bool.not_eq_true'] at h
 intro he
 have := h.1.1
 rw [he, Nat.beq_refl] at this
 cases this
theorem pairOk_dep {ops : Array Oper} {t : List (Nat × List Nat)} {p q : Nat × Bool} (h : pairOk ops t p q = true) : q.1 ∉ depsAt ops.toList p.1 := by
 unfold pairOk at h
 simp only [Bool.and_eq_true, Bool.not_eq_true'] at h
 intro hm
 have := h.1.2
 rw [mem_inL _ _ hm] at this
 cases this
theorem pairsOk_behind {ops : Array Oper} {t : List (Nat × List Nat)} {p q : Nat × Bool} : ∀ (l1 l2 : List (Nat × Bool)), pairsOk ops t (l1 ++ p :: l2) = true → q ∈ l2 → pairOk ops t p q = true
 | [], l2, h, hq => by simp only [List.nil_append, pairsOk, Bool.and_eq_true, List.all_eq_true] at h; exact h.1 q hq
 | _ :: l1, l2, h, hq => by simp only [List.cons_append, pairsOk, Bool.and_eq_true] at h; exact pairsOk_behind l1 l2 h.2 hq
theorem may_pass {ops : Array Oper} {t : List (Nat × List Nat)} (hgood : ∀ i x, inL (lookA t i) x = true → Anc ops.toList x i) {L : List Nat} {q : Nat × Bool} {i : Nat} {st : Bool} (hk : pairOk ops t q (i, st) = true) (hqL : q.1 ∈ L) (hdd : ∀ d, d ∈ depsAt ops.toList i → d ∉ L) (hanc : ∀ x, Anc ops.toList x i → x ∉ L) :
  q.2 = true ∧ inL (lookA t i) q.1 = false ∧ apartAt ops q.1 i = true := by
 unfold pairOk at hk
 simp only [Bool.and_eq_true, Bool.or_eq_true, Bool.not_eq_true'] at hk
 have hna : inL (lookA t i) q.1 = false := by
  cases hb : inL (lookA t i) q.1 with
  | false => rfl
  | true => exact absurd hqL (hanc _ (hgood _ _ hb))
 rcases hk.2 with hk' | ⟨hk1, hk2⟩
 ·exact absurd hqL (hdd _ (inL_mem _ _ hk'))
 ·refine ⟨?_, hna, hk1⟩
  rcases hk2 with hk2 | hk2
  ·exact hk2
  ·rw [hna] at hk2; cases hk2
theorem fwm_any2_step (hT : TabOk P T) (ops : Array Oper) {t : List (Nat × List Nat)} (hgood : ∀ i x, inL (lookA t i) x = true → Anc ops.toList x i) (hdep : ∀ i, i < ops.size → ∀ d, d ∈ depsAt ops.toList i → d < ops.size ∧ d ≠ i) {x y : Nat} {ra rb : List (Nat × Bool)}
  (hlen : rb.length = ra.length) (hAB : ∀ j, j ∈ ((x, false) :: ra).map (·.1) ↔ j ∈ ((y, false) :: rb).map (·.1)) (hxA : ∀ d, d ∈ depsAt ops.toList x → d ∉ ((x, false) :: ra).map (·.1)) (hxr : x ∉ ra.map (·.1)) (hyr : y ∉ rb.map (·.1))
  (hoth : ∀ p, p ∈ ra → p.1 = y ∨ inL (lookA t p.1) x = true ∨ inL (lookA t p.1) y = true)
  {K : Env → List AObj → Prop} {Q : Exit → Act → World → Prop} (hK : ∀ env h a w μ S, K env h → Sim C μ h S env a w → Q .normal a w) (hd : ∀ o ∈ ops.toList, dstOk C.nt o = true)
  (n : Nat) (l : List (Nat × Bool)) (fps : List (Nat × List Nat)) (listed : Array Bool) (env : Env) (h : List AObj) (a : Act) (w : World) (μ : Mu) (S : Nat → Prop) (hn : l.length = n) (hpa : pairsOk ops t (l ++ ra) = true) (hpb : pairsOk ops t (l ++ rb) = true)
  (hpl : ∀ p, p ∈ l → pairOk ops t p (x, false) = true ∧ pairOk ops t p (y, false) = true ∧ ∀ d, d ∈ depsAt ops.toList p.1 → d ∉ ((x, false) :: ra).map (·.1))
  (hlt : ∀ p, p ∈ l ++ (x, false) :: ra → p.1 < ops.size) (hsz : listed.size = ops.size)
  (hls : ∀ j, j < ops.size → (listed.getD j true = false ↔ j ∈ (l ++ (x, false) :: ra).map (·.1))) (hdc : ∀ j, j < ops.size → j ∉ (l ++ (x, false) :: ra).map (·.1) → ∀ d, d ∈ depsAt ops.toList j → d ∉ (l ++ (x, false) :: ra).map (·.1))
  (hf : fwm2 P T ops.toList t ((x, false) :: ra) ((y, false) :: rb) K l fps env h) (hs : Sim C μ h S env a w)
  (ih : ∀ m, m + 1 = n → ∀ (l : List (Nat × Bool)) (fps : List (Nat × List Nat)) (listed : Array Bool) (env : Env) (h : List AObj) (a : Act) (w : World) (μ : Mu) (S : Nat → Prop), l.length = m → pairsOk ops t (l ++ ra) = true → pairsOk ops t (l ++ rb) = true →
   (∀ p, p ∈ l → pairOk ops t p (x, false) = true ∧ pairOk ops t p (y, false) = true ∧ ∀ d, d ∈ depsAt ops.toList p.1 → d ∉ ((x, false) :: ra).map (·.1)) →
   (∀ p, p ∈ l ++ (x, false) :: ra → p.1 < ops.size) → listed.size = ops.size →
   (∀ j, j < ops.size → (listed.getD j true = false ↔ j ∈ (l ++ (x, false) :: ra).map (·.1))) → (∀ j, j < ops.size → j ∉ (l ++ (x, false) :: ra).map (·.1) → ∀ d, d ∈ depsAt ops.toList j → d ∉ (l ++ (x, false) :: ra).map (·.1)) →
   fwm2 P T ops.toList t ((x, false) :: ra) ((y, false) :: rb) K l fps env h → Sim C μ h S env a w → wpAny P .any ops Q (m + (ra.length + 1)) listed a w) : wpAny P .any ops Q (n + (ra.length + 1)) listed a w := by
 have hgd : ∀ d, d < ops.size → (listed.getD d false = true ↔ d ∉ (l ++ (x, false) :: ra).map (·.1)) := fun d hdl => by
  have := hls d hdl
  have e : listed.getD d false = listed.getD d true := by simp [Array.getD, hsz, hdl]
  rw [e, ← this]
  cases listed.getD d true <;> simp
 have hx := hlt (x, false) (by simp)
 refine ⟨fun h0 => ?_, fun i hi => ?_⟩
 ·exfalso
  have first : ∃ p, p < ops.size ∧ p ∈ (l ++ (x, false) :: ra).map (·.1) ∧ ∀ d, d ∈ depsAt ops.toList p → d ∉ (l ++ (x, false) :: ra).map (·.1) := by
   cases l with
   | nil => exact ⟨x, hx, by simp, fun d hdm hm => hxA d hdm (by simpa using hm)⟩
   | cons p r =>
    have hp := hlt p (by simp)
    refine ⟨p.1, hp, by simp, fun d hdm hm => ?_⟩
    rw [List.map_append, List.mem_append] at hm
    rcases hm with hm | hm
    ·simp only [List.map_cons, List.mem_cons, List.mem_map] at hm
     rcases hm with rfl | ⟨q, hq, rfl⟩
     ·exact (hdep _ hp _ hdm).2 rfl
     ·exact pairOk_dep (pairsOk_behind [] _ hpa (List.mem_append_left _ hq)) hdm
    ·exact (hpl p (by simp)).2.2 d hdm hm
  obtain ⟨p, hp, hpm, hpd⟩ := first
  have ho := Array.getElem?_eq_getElem hp
  have : p ∈ Region.ready .any ops listed := by
   rw [mem_ready]
   refine ⟨(hls p hp).2 hpm, _, ho, fun e he hb => ?_⟩
   have hm : e.on ∈ depsAt ops.toList p := (depsAt_mem ho).2 ⟨e, he, hb, rfl⟩
   rw [hgd _ (hdep p hp _ hm).1]
   exact hpd _ hm
  rw [h0] at this
  simp at this
 ·rw [mem_ready] at hi
  obtain ⟨h1, oi, hoi, hdeps⟩ := hi
  have hil := (Array.getElem?_eq_some_iff.1 hoi).1
  have hoi' : ops.toList[i]? = some oi := by simpa using hoi
  have hdoi : dstOk C.nt oi = true := hd oi (by obtain ⟨h1, h2⟩ := List.getElem?_eq_some_iff.1 hoi'; rw [← h2]; exact List.getElem_mem h1)
  have hdd : ∀ d, d ∈ depsAt ops.toList i → d ∉ (l ++ (x, false) :: ra).map (·.1) := fun d hd' => by
   obtain ⟨e, he, hb, rfl⟩ := (depsAt_mem hoi).1 hd'
   exact (hgd _ (hdep i hil _ hd').1).1 (hdeps e he hb)
  have hanc : ∀ z, Anc ops.toList z i → z ∉ (l ++ (x, false) :: ra).map (·.1) := by
   have gen : ∀ z j, Anc ops.toList z j → j < ops.size → (∀ d, d ∈ depsAt ops.toList j → d ∉ (l ++ (x, false) :: ra).map (·.1)) → z ∉ (l ++ (x, false) :: ra).map (·.1) := fun z j ha => by
    induction ha with
    | base hx => exact fun _ hj => hj _ hx
    | step hd' _ ih => exact fun hj hjd => ih (hdep _ hj _ hd').1 (hdc _ (hdep _ hj _ hd').1 (hjd _ hd'))
   exact fun z ha => gen z i ha hil hdd
  have hyA : y ∈ ((x, false) :: ra).map (·.1) := (hAB y).2 (by simp)
  have him := (hls i hil).1 h1
  rw [List.map_append, List.mem_append] at him
  have split : i ∈ l.map (·.1) ∨ i = x ∨ i = y := by
   rcases him with him | him
   ·exact .inl him
   ·simp only [List.map_cons, List.mem_cons, List.mem_map] at him
    rcases him with rfl | ⟨q, hq, rfl⟩
    ·exact .inr (.inl rfl)
    ·rcases hoth q hq with h2 | h2 | h2
     ·exact .inr (.inr h2)
     ·exact absurd (by simp : x ∈ (l ++ (x, false) :: ra).map (·.1)) (hanc _ (hgood _ _ h2))
     ·exact absurd (by rw [List.map_append, List.mem_append]; exact .inr hyA) (hanc _ (hgood _ _ h2))
  rcases split with him | rfl | rfl
  ·-- one of those ahead
   obtain ⟨p, hp, hpi⟩ := List.mem_map.1 him
   obtain ⟨l1, l2, rfl⟩ := List.append_of_mem hp
   obtain ⟨i', st⟩ := p
   simp only at hpi
   subst hpi
   have e1 : l1 ++ (i', st) :: l2 ++ ra = l1 ++ (i', st) :: (l2 ++ ra) := by simp
   have e2 : l1 ++ (i', st) :: l2 ++ rb = l1 ++ (i', st) :: (l2 ++ rb) := by simp
   rw [e1] at hpa
   rw [e2] at hpb
   obtain ⟨hpr, hpa'⟩ := pairsOk_app l1 _ hpa
   obtain ⟨_, hpb'⟩ := pairsOk_app l1 _ hpb
   have hmv := fwm2_move (P := P) (T := T) (ops := ops) (t := t) (A0 := (x, false) :: ra) (B0 := (y, false) :: rb) (K := K) hoi' l1 l2 fps env h (fun q hq => may_pass hgood (hpr q hq) (by rw [List.map_append, List.mem_append]; exact .inl (List.mem_map.2 ⟨q, List.mem_append_left _ hq, rfl⟩)) hdd hanc) hf
   have hni : i' ∉ ((l1 ++ l2) ++ (x, false) :: ra).map (·.1) := fun hm => by
    simp only [List.map_append, List.map_cons, List.mem_append, List.mem_cons, List.mem_map] at hm
    rcases hm with (⟨q, hq, he⟩ | ⟨q, hq, he⟩) | he | ⟨q, hq, he⟩
    ·exact pairOk_ne (hpr q hq) he
    ·exact pairOk_ne (pairsOk_behind l1 _ hpa (List.mem_append_left _ hq)) he.symm
    ·exact pairOk_ne (hpl (i', st) (by simp)).1 he
    ·exact pairOk_ne (pairsOk_behind l1 _ hpa (List.mem_append_right _ hq)) he.symm
   obtain ⟨r1, r2⟩ := rem_step (L' := ((l1 ++ l2) ++ (x, false) :: ra).map (·.1)) (fun j => by
    simp only [List.map_append, List.map_cons, List.mem_append, List.mem_cons]
    constructor
    ·rintro ((h | h | h) | h)
     ·exact .inr (.inl (.inl h))
     ·exact .inl h
     ·exact .inr (.inl (.inr h))
     ·exact .inr (.inr h)
    ·rintro (h | (h | h) | h)
     ·exact .inl (.inr (.inl h))
     ·exact .inl (.inl h)
     ·exact .inl (.inr (.inr h))
     ·exact .inr h) hni hsz hls hdc hdd
   have hpops : pops P T ops.toList (fun env' h' => fwm2 P T ops.toList t ((x, false) :: ra) ((y, false) :: rb) K (l1 ++ l2) fps env' h') [oi] env h := fs_pops (fs_mono (fun v h' hk => hk.2.2) hmv)
   obtain ⟨m, rfl⟩ : ∃ m, n = m + 1 := ⟨n - 1, by simp at hn; omega⟩
   rw [show (m + 1).add ra.length = m + (ra.length + 1) from (by show m + 1 + ra.length = _; omega)]
   refine step_sound hT ops (fun env' h' a' w' μ' S' hk hs' => ih m rfl (l1 ++ l2) fps _ env' h' a' w' μ' S' (by simp at hn ⊢; omega) (by rw [List.append_assoc]; exact hpa') (by rw [List.append_assoc]; exact hpb') (fun q hq => hpl q (by
    simp only [List.mem_append, List.mem_cons] at hq ⊢
    exact hq.imp id .inr)) (fun q hq => hlt q (by
    simp only [List.mem_append, List.mem_cons] at hq ⊢
    rcases hq with (h | h) | h
    ·exact .inl (.inl h)
    ·exact .inl (.inr (.inr h))
    ·exact .inr h)) (by simpa using hsz) r1 r2 hk hs') i' oi hoi hdoi env h a w μ S hpops hs
  ·-- the first of the two
   have hf' : fwm P T ops.toList t K (l ++ (i, false) :: ra) fps env h := fwm2_x l fps env h hf
   have hmv := fwm_move (P := P) (T := T) (ops := ops) (t := t) (K := K) hoi' l ra fps env h (fun q hq => may_pass hgood (hpl q hq).1 (by simp only [List.map_append, List.mem_append]; exact .inl (List.mem_map.2 ⟨q, hq, rfl⟩)) hdd hanc) hf'
   have hni : i ∉ (l ++ ra).map (·.1) := fun hm => by
    simp only [List.map_append, List.mem_append] at hm
    rcases hm with hm | hm
    ·obtain ⟨q, hq, he⟩ := List.mem_map.1 hm
     exact pairOk_ne (hpl q hq).1 he
    ·exact hxr hm
   obtain ⟨r1, r2⟩ := rem_step (L' := (l ++ ra).map (·.1)) (fun j => by
    simp only [List.map_append, List.map_cons, List.mem_append, List.mem_cons]
    constructor
    ·rintro (h | h | h)
     ·exact .inr (.inl h)
     ·exact .inl h
     ·exact .inr (.inr h)
    ·rintro (h | h | h)
     ·exact .inr (.inl h)
     ·exact .inl h
     ·exact .inr (.inr h)) hni hsz hls hdc hdd
   have hpops : pops P T ops.toList (fun env' h' => fwm P T ops.toList t K (l ++ ra) fps env' h') [oi] env h := fs_pops (fs_mono (fun v h' hk => hk.2.2) hmv)
   refine step_sound hT ops (fun env' h' a' w' μ' S' hk hs' => fwm_any hT ops hgood hdep hK hd (n + ra.length) (l ++ ra) fps _ env' h' a' w' μ' S' (by simp [hn]) hpa (fun q hq => hlt q (by
    simp only [List.mem_append, List.mem_cons] at hq ⊢
    exact hq.imp id .inr)) (by simpa using hsz) r1 r2 hk hs') i oi hoi hdoi env h a w μ S hpops hs
  ·-- the second
   have hf' : fwm P T ops.toList t K (l ++ (i, false) :: rb) fps env h := fwm2_y l fps env h hf
   have hmv := fwm_move (P := P) (T := T) (ops := ops) (t := t) (K := K) hoi' l rb fps env h (fun q hq => may_pass hgood (hpl q hq).2.1 (by simp only [List.map_append, List.mem_append]; exact .inl (List.mem_map.2 ⟨q, hq, rfl⟩)) hdd hanc) hf'
   have hni : i ∉ (l ++ rb).map (·.1) := fun hm => by
    simp only [List.map_append, List.mem_append] at hm
    rcases hm with hm | hm
    ·obtain ⟨q, hq, he⟩ := List.mem_map.1 hm
     exact pairOk_ne (hpl q hq).2.1 he
    ·exact hyr hm
   obtain ⟨r1, r2⟩ := rem_step (L' := (l ++ rb).map (·.1)) (fun j => by
    rw [List.map_append, List.mem_append, hAB j, List.map_append]
    simp only [List.map_cons, List.mem_append, List.mem_cons]
    constructor
    ·rintro (h | h | h)
     ·exact .inr (.inl h)
     ·exact .inl h
     ·exact .inr (.inr h)
    ·rintro (h | h | h)
     ·exact .inr (.inl h)
     ·exact .inl h
     ·exact .inr (.inr h)) hni hsz hls hdc hdd
   have hpops : pops P T ops.toList (fun env' h' => fwm P T ops.toList t K (l ++ rb) fps env' h') [oi] env h := fs_pops (fs_mono (fun v h' hk => hk.2.2) hmv)
   refine step_sound hT ops (fun env' h' a' w' μ' S' hk hs' => fwm_any hT ops hgood hdep hK hd (n + ra.length) (l ++ rb) fps _ env' h' a' w' μ' S' (by simp [hn, hlen]) hpb (fun q hq => by
    rw [List.mem_append] at hq
    rcases hq with h | h
    ·exact hlt q (List.mem_append_left _ h)
    ·have : q.1 ∈ ((x, false) :: ra).map (·.1) := (hAB q.1).2 (List.mem_cons_of_mem _ (List.mem_map.2 ⟨q, h, rfl⟩))
     obtain ⟨p, hp, he⟩ := List.mem_map.1 this
     rw [← he]
     exact hlt p (List.mem_append_right _ hp)) (by simpa using hsz) r1 r2 hk hs') i oi hoi hdoi env h a w μ S hpops hs
theorem fwm_any2 (hT : TabOk P T) (ops : Array Oper) {t : List (Nat × List Nat)} (hgood : ∀ i x, inL (lookA t i) x = true → Anc ops.toList x i) (hdep : ∀ i, i < ops.size → ∀ d, d ∈ depsAt ops.toList i → d < ops.size ∧ d ≠ i) {x y : Nat} {ra rb : List (Nat × Bool)}
  (hlen : rb.length = ra.length) (hAB : ∀ j, j ∈ ((x, false) :: ra).map (·.1) ↔ j ∈ ((y, false) :: rb).map (·.1)) (hxA : ∀ d, d ∈ depsAt ops.toList x → d ∉ ((x, false) :: ra).map (·.1)) (hxr : x ∉ ra.map (·.1)) (hyr : y ∉ rb.map (·.1))
  (hoth : ∀ p, p ∈ ra → p.1 = y ∨ inL (lookA t p.1) x = true ∨ inL (lookA t p.1) y = true)
  {K : Env → List AObj → Prop} {Q : Exit → Act → World → Prop} (hK : ∀ env h a w μ S, K env h → Sim C μ h S env a w → Q .normal a w) (hd : ∀ o ∈ ops.toList, dstOk C.nt o = true)
  (n : Nat) (l : List (Nat × Bool)) (fps : List (Nat × List Nat)) (listed : Array Bool) (env : Env) (h : List AObj) (a : Act) (w : World) (μ : Mu) (S : Nat → Prop) (hn : l.length = n) (hpa : pairsOk ops t (l ++ ra) = true) (hpb : pairsOk ops t (l ++ rb) = true)
  (hpl : ∀ p, p ∈ l → pairOk ops t p (x, false) = true ∧ pairOk ops t p (y, false) = true ∧ ∀ d, d ∈ depsAt ops.toList p.1 → d ∉ ((x, false) :: ra).map (·.1))
  (hlt : ∀ p, p ∈ l ++ (x, false) :: ra → p.1 < ops.size) (hsz : listed.size = ops.size)
  (hls : ∀ j, j < ops.size → (listed.getD j true = false ↔ j ∈ (l ++ (x, false) :: ra).map (·.1))) (hdc : ∀ j, j < ops.size → j ∉ (l ++ (x, false) :: ra).map (·.1) → ∀ d, d ∈ depsAt ops.toList j → d ∉ (l ++ (x, false) :: ra).map (·.1))
  (hf : fwm2 P T ops.toList t ((x, false) :: ra) ((y, false) :: rb) K l fps env h) (hs : Sim C μ h S env a w) : wpAny P .any ops Q (n + (ra.length + 1)) listed a w := by
 induction n generalizing l fps listed env h a w μ S with
 | zero => exact fwm_any2_step hT ops hgood hdep hlen hAB hxA hxr hyr hoth hK hd 0 l fps listed env h a w μ S hn hpa hpb hpl hlt hsz hls hdc hf hs (fun m hm => absurd hm (Nat.succ_ne_zero m))
 | succ n ih => exact fwm_any2_step hT ops hgood hdep hlen hAB hxA hxr hyr hoth hK hd (n + 1) l fps listed env h a w μ S hn hpa hpb hpl hlt hsz hls hdc hf hs (fun m hm => by (obtain rfl : m = n := Nat.succ.inj hm); exact ih)
def Left (ops : Array Oper) (l : List (Nat × Bool)) (R : List Nat) (listed : Array Bool) : Prop :=
 listed.size = ops.size ∧ (∀ j, j < ops.size → (listed.getD j true = false ↔ j ∈ l.map (·.1) ++ R)) ∧ ∀ j, j < ops.size → j ∉ l.map (·.1) ++ R → ∀ d, d ∈ depsAt ops.toList j → d ∉ l.map (·.1) ++ R
def Snd (P : Program) (T : Tab) (C : Start) (ops : Array Oper) (t : List (Nat × List Nat)) (Q : Exit → Act → World → Prop) (E : List (Nat × List Nat) → Env → List AObj → Prop) (R : List Nat) (c : List (Nat × Bool) → Prop) : Prop :=
 ∀ (l : List (Nat × Bool)) (fps : List (Nat × List Nat)) (listed : Array Bool) (env : Env) (h : List AObj) (a : Act) (w : World) (μ : Mu) (S : Nat → Prop), c l → (∀ p, p ∈ l → p.1 < ops.size) → Left ops l R listed →
  fwmE P T ops.toList t E l fps env h → Sim C μ h S env a w → wpAny P .any ops Q (l.length + R.length) listed a w
theorem snd_lin (hT : TabOk P T) (ops : Array Oper) {t : List (Nat × List Nat)} (hgood : ∀ i x, inL (lookA t i) x = true → Anc ops.toList x i) (hdep : ∀ i, i < ops.size → ∀ d, d ∈ depsAt ops.toList i → d < ops.size ∧ d ≠ i)
  {K : Env → List AObj → Prop} {Q : Exit → Act → World → Prop} (hK : ∀ env h a w μ S, K env h → Sim C μ h S env a w → Q .normal a w) (hd : ∀ o ∈ ops.toList, dstOk C.nt o = true) (A : List (Nat × Bool)) (hA : ∀ p, p ∈ A → p.1 < ops.size) :
  Snd P T C ops t Q (fun fps env h => fwm P T ops.toList t K A fps env h) (A.map (·.1)) (fun l => pairsOk ops t (l ++ A) = true) := by
 intro l fps listed env h a w μ S hc hlt hL hf hs
 obtain ⟨hsz, hls, hdc⟩ := hL
 rw [show l.length + (A.map (·.1)).length = (l ++ A).length from by simp]
 rw [← List.map_append] at hls hdc
 exact fwm_any hT ops hgood hdep hK hd _ (l ++ A) fps listed env h a w μ S rfl hc (fun p hp => by rcases List.mem_append.1 hp with q | q; exact hlt p q; exact hA p q) hsz hls hdc (fwm_of_fwmE l fps env h hf) hs
theorem snd_pre {ops : Array Oper} {t : List (Nat × List Nat)} {Q : Exit → Act → World → Prop} {E : List (Nat × List Nat) → Env → List AObj → Prop} {R : List Nat} {c : List (Nat × Bool) → Prop} (hE : Snd P T C ops t Q E R c) (o1 : List (Nat × Bool)) (h1 : ∀ p, p ∈ o1 → p.1 < ops.size) :
  Snd P T C ops t Q (fun fps env h => fwmE P T ops.toList t E o1 fps env h) (o1.map (·.1) ++ R) (fun l => c (l ++ o1)) := by
 intro l fps listed env h a w μ S hc hlt hL hf hs
 have e : (l ++ o1).map (·.1) ++ R = l.map (·.1) ++ (o1.map (·.1) ++ R) := by simp
 have := hE (l ++ o1) fps listed env h a w μ S hc (fun p hp => by rcases List.mem_append.1 hp with q | q; exact hlt p q; exact h1 p q) (by unfold Left; rw [e]; exact hL) (fwmE_app l fps env h hf) hs
 rw [show l.length + (o1.map (·.1) ++ R).length = (l ++ o1).length + R.length from by simp; omega]
 exact this
structure BrC (ops : Array Oper) (t : List (Nat × List Nat)) (x y : Nat) (R : List Nat) (cX cY : List (Nat × Bool) → Prop) (l : List (Nat × Bool)) : Prop where
 pw : pairsOk ops t l = true
 hd : ∀ p, p ∈ l → pairOk ops t p (x, false) = true ∧ pairOk ops t p (y, false) = true ∧ (∀ d, d ∈ depsAt ops.toList p.1 → d ∉ R) ∧ p.1 ∉ R
 x : cX l
 y : cY l
theorem snd_br (hT : TabOk P T) (ops : Array Oper) {t : List (Nat × List Nat)} (hgood : ∀ i x, inL (lookA t i) x = true → Anc ops.toList x i) (hdep : ∀ i, i < ops.size → ∀ d, d ∈ depsAt ops.toList i → d < ops.size ∧ d ≠ i)
  {Q : Exit → Act → World → Prop} (hd : ∀ o ∈ ops.toList, dstOk C.nt o = true) {x y : Nat} {RX RY : List Nat} {EX EY : List (Nat × List Nat) → Env → List AObj → Prop} {cX cY : List (Nat × Bool) → Prop} (hEX : AntiE EX) (hEY : AntiE EY)
  (hX : Snd P T C ops t Q EX RX cX) (hY : Snd P T C ops t Q EY RY cY) (hcX : ∀ l1 p l2, cX (l1 ++ p :: l2) → cX (l1 ++ l2)) (hcY : ∀ l1 p l2, cY (l1 ++ p :: l2) → cY (l1 ++ l2))
  (hlen : RX.length = RY.length) (hAB : ∀ j, j ∈ x :: RX ↔ j ∈ y :: RY) (hxs : x < ops.size) (hxd : ∀ d, d ∈ depsAt ops.toList x → d ∉ x :: RX) (hxr : x ∉ RX) (hyr : y ∉ RY) (hoth : ∀ j, j ∈ RX → j = y ∨ inL (lookA t j) x = true ∨ inL (lookA t j) y = true) :
  Snd P T C ops t Q (fun fps env h => fwmE P T ops.toList t EX [(x, false)] fps env h ∧ fwmE P T ops.toList t EY [(y, false)] fps env h) (x :: RX) (BrC ops t x y (x :: RX) cX cY) := by
 have hE : AntiE (fun fps env h => fwmE P T ops.toList t EX [(x, false)] fps env h ∧ fwmE P T ops.toList t EY [(y, false)] fps env h) := antiE_and (antiE_fwmE hEX _) (antiE_fwmE hEY _)
 intro l
 generalize hn : l.length = n
 induction n generalizing l with
 | zero => ?z
 | succ n ih => ?s
 all_goals
  intro fps listed env h a w μ S hc hlt hL hf hs
  obtain ⟨hsz, hls, hdc⟩ := hL
  have hgd : ∀ d, d < ops.size → (listed.getD d false = true ↔ d ∉ l.map (·.1) ++ x :: RX) := fun d hdl => by
   have := hls d hdl
   have e : listed.getD d false = listed.getD d true := by simp [Array.getD, hsz, hdl]
   rw [e, ← this]
   cases listed.getD d true <;> simp
  refine ⟨fun h0 => ?_, fun i hi => ?_⟩
 case z.refine_1 | s.refine_1 =>
  exfalso
  have first : ∃ p, p < ops.size ∧ p ∈ l.map (·.1) ++ x :: RX ∧ ∀ d, d ∈ depsAt ops.toList p → d ∉ l.map (·.1) ++ x :: RX := by
   cases l with
   | nil => exact ⟨x, hxs, by simp, fun d hdm hm => hxd d hdm (by simpa using hm)⟩
   | cons p r =>
    have hp := hlt p (by simp)
    refine ⟨p.1, hp, by simp, fun d hdm hm => ?_⟩
    rw [List.mem_append] at hm
    rcases hm with hm | hm
    ·simp only [List.map_cons, List.mem_cons, List.mem_map] at hm
     rcases hm with rfl | ⟨q, hq, rfl⟩
     ·exact (hdep _ hp _ hdm).2 rfl
     ·exact pairOk_dep (pairsOk_behind [] _ hc.pw hq) hdm
    ·exact (hc.hd p (by simp)).2.2.1 d hdm hm
  obtain ⟨p, hp, hpm, hpd⟩ := first
  have ho := Array.getElem?_eq_getElem hp
  have : p ∈ Region.ready .any ops listed := by
   rw [mem_ready]
   refine ⟨(hls p hp).2 hpm, _, ho, fun e he hb => ?_⟩
   have hm : e.on ∈ depsAt ops.toList p := (depsAt_mem ho).2 ⟨e, he, hb, rfl⟩
   rw [hgd _ (hdep p hp _ hm).1]
   exact hpd _ hm
  rw [h0] at this
  simp at this
 all_goals
  rw [mem_ready] at hi
  obtain ⟨h1, oi, hoi, hdeps⟩ := hi
  have hil := (Array.getElem?_eq_some_iff.1 hoi).1
  have hoi' : ops.toList[i]? = some oi := by simpa using hoi
  have hdoi : dstOk C.nt oi = true := hd oi (by obtain ⟨h1, h2⟩ := List.getElem?_eq_some_iff.1 hoi'; rw [← h2]; exact List.getElem_mem h1)
  have hdd : ∀ d, d ∈ depsAt ops.toList i → d ∉ l.map (·.1) ++ x :: RX := fun d hd' => by
   obtain ⟨e, he, hb, rfl⟩ := (depsAt_mem hoi).1 hd'
   exact (hgd _ (hdep i hil _ hd').1).1 (hdeps e he hb)
  have hanc : ∀ z, Anc ops.toList z i → z ∉ l.map (·.1) ++ x :: RX := by
   have gen : ∀ z j, Anc ops.toList z j → j < ops.size → (∀ d, d ∈ depsAt ops.toList j → d ∉ l.map (·.1) ++ x :: RX) → z ∉ l.map (·.1) ++ x :: RX := fun z j ha => by
    induction ha with
    | base hx => exact fun _ hj => hj _ hx
    | step hd' _ ih => exact fun hj hjd => ih (hdep _ hj _ hd').1 (hdc _ (hdep _ hj _ hd').1 (hjd _ hd'))
   exact fun z ha => gen z i ha hil hdd
  have hyA : y ∈ x :: RX := (hAB y).2 (by simp)
  have him := (hls i hil).1 h1
  rw [List.mem_append] at him
  have split : i ∈ l.map (·.1) ∨ i = x ∨ i = y := by
   rcases him with him | him
   ·exact .inl him
   ·rcases List.mem_cons.1 him with rfl | hq
    ·exact .inr (.inl rfl)
    ·rcases hoth i hq with h2 | h2 | h2
     ·exact .inr (.inr h2)
     ·exact absurd (by simp : x ∈ l.map (·.1) ++ x :: RX) (hanc _ (hgood _ _ h2))
     ·exact absurd (by rw [List.mem_append]; exact .inr hyA) (hanc _ (hgood _ _ h2))
  have hxfr : ∀ q, q ∈ l → q.1 ∉ x :: RX := fun q hq => (hc.hd q hq).2.2.2
  rcases split with him | rfl | rfl
 case z.refine_2.inl => obtain rfl := List.length_eq_zero_iff.1 hn; simp at him
 case s.refine_2.inl =>
  obtain ⟨p, hp, hpi⟩ := List.mem_map.1 him
  obtain ⟨l1, l2, rfl⟩ := List.append_of_mem hp
  obtain ⟨i', st⟩ := p
  simp only at hpi
  subst hpi
  obtain ⟨hpr, hpw⟩ := pairsOk_app l1 _ hc.pw
  have hmv := fwmE_move hE (P := P) (T := T) (ops := ops) (t := t) hoi' l1 l2 fps env h (fun q hq => may_pass hgood (hpr q hq) (by rw [List.mem_append]; exact .inl (List.mem_map.2 ⟨q, List.mem_append_left _ hq, rfl⟩)) hdd hanc) hf
  have hni : i' ∉ (l1 ++ l2).map (·.1) ++ x :: RX := fun hm => by
   rw [List.mem_append] at hm
   rcases hm with hm | hm
   ·obtain ⟨q, hq, he⟩ := List.mem_map.1 hm
    rcases List.mem_append.1 hq with hq | hq
    ·exact pairOk_ne (hpr q hq) he
    ·exact pairOk_ne (pairsOk_behind l1 _ hc.pw hq) he.symm
   ·exact hxfr (i', st) (by simp) hm
  obtain ⟨r1, r2⟩ := rem_step (L' := (l1 ++ l2).map (·.1) ++ x :: RX) (fun j => by
   simp only [List.map_append, List.map_cons, List.mem_append, List.mem_cons]
   constructor
   ·rintro ((h | h | h) | h)
    ·exact .inr (.inl (.inl h))
    ·exact .inl h
    ·exact .inr (.inl (.inr h))
    ·exact .inr (.inr h)
   ·rintro (h | (h | h) | h)
    ·exact .inl (.inr (.inl h))
    ·exact .inl (.inl h)
    ·exact .inl (.inr (.inr h))
    ·exact .inr h) hni hsz hls hdc hdd
  have hpops : pops P T ops.toList (fun env' h' => fwmE P T ops.toList t (fun fps env h => fwmE P T ops.toList t EX [(x, false)] fps env h ∧ fwmE P T ops.toList t EY [(y, false)] fps env h) (l1 ++ l2) fps env' h') [oi] env h := fs_pops (fs_mono (fun v h' hk => hk.2.2) hmv)
  have hc' : BrC ops t x y (x :: RX) cX cY (l1 ++ l2) := ⟨hpw, fun q hq => hc.hd q (by
   simp only [List.mem_append, List.mem_cons] at hq ⊢
   exact hq.imp id .inr), hcX _ _ _ hc.x, hcY _ _ _ hc.y⟩
  have q : wpOp P ops Q i' (wpAny P .any ops Q (n + (x :: RX).length) (listed.setIfInBounds i' true)) a w := step_sound hT ops (fun env' h' a' w' μ' S' hk hs' => ih (l1 ++ l2) (by simp at hn ⊢; omega) fps _ env' h' a' w' μ' S' hc' (fun q hq => hlt q (by
   simp only [List.mem_append, List.mem_cons] at hq ⊢
   exact hq.imp id .inr)) ⟨by simpa using hsz, r1, r2⟩ hk hs') i' oi hoi hdoi env h a w μ S hpops hs
  rw [show n + (x :: RX).length = n + 1 + RX.length from by simp; omega] at q
  exact q
 case z.refine_2.inr.inl | s.refine_2.inr.inl =>
  have hf' : fwmE P T ops.toList t EX (l ++ [(i, false)]) fps env h := fwmE_app l fps env h (fwmE_imp (fun _ _ _ q => q.1) l fps env h hf)
  have hmv := fwmE_move hEX (P := P) (T := T) (ops := ops) (t := t) hoi' l [] fps env h (fun q hq => may_pass hgood (hc.hd q hq).1 (by rw [List.mem_append]; exact .inl (List.mem_map.2 ⟨q, hq, rfl⟩)) hdd hanc) hf'
  have hni : i ∉ l.map (·.1) ++ RX := fun hm => by
   rcases List.mem_append.1 hm with hm | hm
   ·obtain ⟨q, hq, he⟩ := List.mem_map.1 hm
    exact pairOk_ne (hc.hd q hq).1 he
   ·exact hxr hm
  obtain ⟨r1, r2⟩ := rem_step (L' := l.map (·.1) ++ RX) (fun j => by
   simp only [List.mem_append, List.mem_cons]
   constructor
   ·rintro (h | h | h)
    ·exact .inr (.inl h)
    ·exact .inl h
    ·exact .inr (.inr h)
   ·rintro (h | h | h)
    ·exact .inr (.inl h)
    ·exact .inl h
    ·exact .inr (.inr h)) hni hsz hls hdc hdd
  have hpops : pops P T ops.toList (fun env' h' => fwmE P T ops.toList t EX l fps env' h') [oi] env h := fs_pops (fs_mono (fun v h' hk => by have := hk.2.2; rwa [List.append_nil] at this) hmv)
  have q : wpOp P ops Q i (wpAny P .any ops Q (l.length + RX.length) (listed.setIfInBounds i true)) a w := step_sound hT ops (fun env' h' a' w' μ' S' hk hs' => hX l fps _ env' h' a' w' μ' S' hc.x hlt ⟨by simpa using hsz, r1, r2⟩ hk hs') i oi hoi hdoi env h a w μ S hpops hs
  rw [hn] at q
  exact q
 case z.refine_2.inr.inr | s.refine_2.inr.inr =>
  have hf' : fwmE P T ops.toList t EY (l ++ [(i, false)]) fps env h := fwmE_app l fps env h (fwmE_imp (fun _ _ _ q => q.2) l fps env h hf)
  have hmv := fwmE_move hEY (P := P) (T := T) (ops := ops) (t := t) hoi' l [] fps env h (fun q hq => may_pass hgood (hc.hd q hq).2.1 (by rw [List.mem_append]; exact .inl (List.mem_map.2 ⟨q, hq, rfl⟩)) hdd hanc) hf'
  have hni : i ∉ l.map (·.1) ++ RY := fun hm => by
   rcases List.mem_append.1 hm with hm | hm
   ·obtain ⟨q, hq, he⟩ := List.mem_map.1 hm
    exact pairOk_ne (hc.hd q hq).2.1 he
   ·exact hyr hm
  obtain ⟨r1, r2⟩ := rem_step (L' := l.map (·.1) ++ RY) (fun j => by
   rw [List.mem_append, hAB j, List.mem_append]
   simp only [List.mem_cons]
   constructor
   ·rintro (h | h | h)
    ·exact .inr (.inl h)
    ·exact .inl h
    ·exact .inr (.inr h)
   ·rintro (h | h | h)
    ·exact .inr (.inl h)
    ·exact .inl h
    ·exact .inr (.inr h)) hni hsz hls hdc hdd
  have hpops : pops P T ops.toList (fun env' h' => fwmE P T ops.toList t EY l fps env' h') [oi] env h := fs_pops (fs_mono (fun v h' hk => by have := hk.2.2; rwa [List.append_nil] at this) hmv)
  have q : wpOp P ops Q i (wpAny P .any ops Q (l.length + RY.length) (listed.setIfInBounds i true)) a w := step_sound hT ops (fun env' h' a' w' μ' S' hk hs' => hY l fps _ env' h' a' w' μ' S' hc.y hlt ⟨by simpa using hsz, r1, r2⟩ hk hs') i oi hoi hdoi env h a w μ S hpops hs
  rw [hn, ← hlen] at q
  exact q
theorem pairsOk_pre {ops : Array Oper} {t : List (Nat × List Nat)} : ∀ (l A : List (Nat × Bool)), pairsOk ops t (l ++ A) = true → pairsOk ops t l = true
 | [], _, _ => rfl
 | p :: l, A, h => by
  simp only [List.cons_append, pairsOk, Bool.and_eq_true, List.all_eq_true] at h ⊢
  exact ⟨fun q hq => h.1 q (List.mem_append_left _ hq), pairsOk_pre l A h.2⟩
theorem brOk_spec {ops : Array Oper} {t : List (Nat × List Nat)} {ord : List (Nat × Bool)} {x y : Nat} {RX RY : List Nat} (h : brOk ops t ord x y RX RY = true) :
  RX.length = RY.length ∧ (∀ p, p ∈ ord → pairOk ops t p (x, false) = true ∧ pairOk ops t p (y, false) = true ∧ (∀ d, d ∈ depsAt ops.toList p.1 → d ∉ x :: RX) ∧ p.1 ∉ x :: RX) ∧ (∀ j, j ∈ x :: RX ↔ j ∈ y :: RY) ∧
  (∀ d, d ∈ depsAt ops.toList x → d ∉ x :: RX) ∧ x ∉ RX ∧ y ∉ RY ∧ (∀ j, j ∈ RX → j = y ∨ inL (lookA t j) x = true ∨ inL (lookA t j) y = true) := by
 unfold brOk at h
 simp only [Bool.and_eq_true] at h
 obtain ⟨⟨⟨⟨⟨⟨⟨h1, h2⟩, h3⟩, h4⟩, h5⟩, h6⟩, h7⟩, h8⟩ := h
 rw [List.all_eq_true] at h2 h3 h4 h5 h8
 have no : ∀ (L : List Nat) (z : Nat), (!(inL L z)) = true → z ∉ L := fun L z hz hm => by rw [mem_inL _ _ hm] at hz; cases hz
 refine ⟨Nat.eq_of_beq_eq_true h1, fun p hp => ?_, fun j => ⟨fun hj => inL_mem _ _ (h3 j hj), fun hj => inL_mem _ _ (h4 j hj)⟩, fun d hd => no _ _ (h5 d hd), no _ _ h6, no _ _ h7, fun j hj => ?_⟩
 ·have := h2 p hp
  rw [Bool.and_eq_true, Bool.and_eq_true, Bool.and_eq_true, List.all_eq_true] at this
  exact ⟨this.1.1.1, this.1.1.2, fun d hd' => no _ _ (this.1.2 d hd'), no _ _ this.2⟩
 ·have := h8 j hj
  rw [Bool.or_eq_true, Bool.or_eq_true] at this
  rcases this with (q | q) | q
  ·exact .inl (Nat.eq_of_beq_eq_true q)
  ·exact .inr (.inl q)
  ·exact .inr (.inr q)
theorem fw3_sound (hT : TabOk P T) (ops : Array Oper) {ord : List (Nat × Bool)} {x : Nat} {o1 : List (Nat × Bool)} {x1 : Nat} {ra1 : List (Nat × Bool)} {y1 : Nat} {rb1 : List (Nat × Bool)} {y : Nat} {rb : List (Nat × Bool)} (hc : floatOk3 ops ord x o1 x1 ra1 y1 rb1 y rb = true)
  {K : Env → List AObj → Prop} {Q : Exit → Act → World → Prop} (hK : ∀ env h a w μ S, K env h → Sim C μ h S env a w → Q .normal a w) (hd : ∀ o ∈ ops.toList, dstOk C.nt o = true) {env : Env} {h : List AObj} {a : Act} {w : World}
  (hf : fw3 P T ops.toList (ancT ops.toList (ord ++ (x, false) :: (o1 ++ (x1, false) :: ra1)) []) x o1 x1 ra1 y1 rb1 y rb K ord [] env h) (hs : Sim C μ h S env a w) : wpAny P .any ops Q ops.size (Array.replicate ops.size false) a w := by
 unfold floatOk3 at hc
 simp only [Bool.and_eq_true] at hc
 obtain ⟨⟨⟨⟨⟨⟨⟨hlen, hcv⟩, hall⟩, hp1⟩, hp2⟩, hp3⟩, hb1⟩, hb2⟩ := hc
 rw [List.all_eq_true] at hcv hall
 have hlen := Nat.eq_of_beq_eq_true hlen
 generalize ht : ancT ops.toList (ord ++ (x, false) :: (o1 ++ (x1, false) :: ra1)) [] = t at *
 have hgood : ∀ i x, inL (lookA t i) x = true → Anc ops.toList x i := by rw [← ht]; exact ancT_good _ [] (fun i x hx => by simp [lookA, inL] at hx)
 generalize hal : ord ++ (x, false) :: (o1 ++ (x1, false) :: ra1) = al at *
 have hlt : ∀ p, p ∈ al → p.1 < ops.size := fun p hp => by
  have := hall p hp
  rw [Bool.and_eq_true] at this
  exact Nat.le_of_ble_eq_true this.1
 have hcov : ∀ j, j < ops.size → j ∈ al.map (·.1) := fun j hj => inL_mem _ _ (hcv j (List.mem_range.2 hj))
 have hdep : ∀ i, i < ops.size → ∀ d, d ∈ depsAt ops.toList i → d < ops.size ∧ d ≠ i := fun i hi d hd' => by
  obtain ⟨p, hp, rfl⟩ := List.mem_map.1 (hcov i hi)
  have := hall p hp
  rw [Bool.and_eq_true, List.all_eq_true] at this
  have := this.2 d hd'
  rw [Bool.and_eq_true] at this
  exact ⟨Nat.le_of_ble_eq_true this.1, fun he => by rw [he, Nat.beq_refl] at this; cases this.2⟩
 obtain ⟨b1, b2, b3, b4, b5, b6, b7⟩ := brOk_spec hb1
 obtain ⟨c1, c2, c3, c4, c5, c6, c7⟩ := brOk_spec hb2
 have mx : ∀ p, p ∈ ord ∨ p = (x, false) ∨ p ∈ o1 ∨ p = (x1, false) ∨ p ∈ ra1 → p.1 < ops.size := fun p hp => hlt p (by
  rw [← hal]; simp only [List.mem_append, List.mem_cons]; exact hp)
 have mid : ∀ j, j ∈ x1 :: ra1.map (·.1) → j < ops.size := fun j hj => by
  rcases List.mem_cons.1 hj with rfl | hj
  ·exact mx (j, false) (.inr (.inr (.inr (.inl rfl))))
  ·obtain ⟨p, hp, rfl⟩ := List.mem_map.1 hj
   exact mx p (.inr (.inr (.inr (.inr hp))))
 have midR : ∀ j, j ∈ x :: (o1.map (·.1) ++ x1 :: ra1.map (·.1)) → j < ops.size := fun j hj => by
  rcases List.mem_cons.1 hj with rfl | hj
  ·exact mx (j, false) (.inr (.inl rfl))
  ·rcases List.mem_append.1 hj with hj | hj
   ·obtain ⟨p, hp, rfl⟩ := List.mem_map.1 hj
    exact mx p (.inr (.inr (.inl hp)))
   ·exact mid j hj
 have app : ∀ {A : List (Nat × Bool)} (l1 : List (Nat × Bool)) (p : Nat × Bool) (l2 : List (Nat × Bool)), pairsOk ops t ((l1 ++ p :: l2) ++ A) = true → pairsOk ops t ((l1 ++ l2) ++ A) = true := fun {A} l1 p l2 q => by
  rw [List.append_assoc] at q ⊢
  exact (pairsOk_app l1 _ q).2
 have s1 := snd_lin (C := C) hT ops hgood hdep hK hd ra1 (fun p hp => mx p (.inr (.inr (.inr (.inr hp)))))
 have s2 := snd_lin (C := C) hT ops hgood hdep hK hd rb1 (fun p hp => mid p.1 ((c3 p.1).2 (List.mem_cons_of_mem _ (List.mem_map.2 ⟨p, hp, rfl⟩))))
 have s3 := snd_lin (C := C) hT ops hgood hdep hK hd rb (fun p hp => midR p.1 ((b3 p.1).2 (List.mem_cons_of_mem _ (List.mem_map.2 ⟨p, hp, rfl⟩))))
 have in1 := snd_br (C := C) hT ops hgood hdep hd (x := x1) (y := y1) (antiE_fwm ra1) (antiE_fwm rb1) s1 s2 app app c1 c3 (mid x1 (by simp)) c4 c5 c6 c7
 have in2 := snd_pre in1 o1 (fun p hp => mx p (.inr (.inr (.inl hp))))
 have out := snd_br (C := C) hT ops hgood hdep hd (x := x) (y := y) (antiE_fwmE (antiE_and (antiE_fwmE (antiE_fwm ra1) _) (antiE_fwmE (antiE_fwm rb1) _)) o1) (antiE_fwm rb) in2 s3 (fun l1 p l2 q => by
  rw [List.append_assoc] at q ⊢
  obtain ⟨q1, q2, q3, q4⟩ := q
  refine ⟨(pairsOk_app l1 _ q1).2, fun r hr => q2 r ?_, ?_, ?_⟩
  ·simp only [List.mem_append, List.mem_cons] at hr ⊢
   rcases hr with hr | hr | hr
   ·exact .inl hr
   ·exact .inr (.inl (.inr hr))
   ·exact .inr (.inr hr)
  ·have q3 : pairsOk ops t ((l1 ++ (p :: l2 ++ o1)) ++ ra1) = true := q3
   show pairsOk ops t ((l1 ++ (l2 ++ o1)) ++ ra1) = true
   rw [List.append_assoc] at q3 ⊢
   exact (pairsOk_app l1 _ q3).2
  ·have q4 : pairsOk ops t ((l1 ++ (p :: l2 ++ o1)) ++ rb1) = true := q4
   show pairsOk ops t ((l1 ++ (l2 ++ o1)) ++ rb1) = true
   rw [List.append_assoc] at q4 ⊢
   exact (pairsOk_app l1 _ q4).2) app b1 b3 (midR x (by simp)) b4 b5 b6 b7
 have hR : ∀ j, j ∈ ord.map (·.1) ++ x :: (o1.map (·.1) ++ x1 :: ra1.map (·.1)) ↔ j ∈ al.map (·.1) := fun j => by rw [← hal]; simp
 have hsz : ops.size = ord.length + (x :: (o1.map (·.1) ++ x1 :: ra1.map (·.1))).length := by rw [← hlen, ← hal]; simp
 have := out ord [] (Array.replicate ops.size false) env h a w μ S ⟨pairsOk_pre ord _ hp3, b2, ⟨pairsOk_pre _ _ hp1, c2, hp1, hp2⟩, hp3⟩ (fun p hp => mx p (.inl hp))
  ⟨by simp, fun j hj => ⟨fun _ => (hR j).2 (hcov j hj), fun _ => by simp [Array.getD, hj]⟩, fun j hj hn => absurd ((hR j).2 (hcov j hj)) hn⟩
  (fwmE_of_fwE (fun fps env h q => ⟨fwmE_of_fwE (E := fun fps env h => fw P T ops.toList t K ((x1, false) :: ra1) fps env h ∧ fw P T ops.toList t K ((y1, false) :: rb1) fps env h) (fun fps env h q => ⟨fwm_of_fw _ _ _ _ q.1, fwm_of_fw _ _ _ _ q.2⟩) ((x, false) :: o1) fps env h q.1, fwm_of_fw _ _ _ _ q.2⟩) ord [] env h hf) hs
 rw [← hsz] at this
 exact this
theorem vc_sound (hT : TabOk P T) (hmix : P.follows .mixedOrders = true) : ∀ (c : Code) (Q : XQ) (env : Env) (h : List AObj) (a : Act) (w : World) (μ : Mu) (S : Nat → Prop),
  vc P T C.h.length c Q env h → codeOk C.nt c = true → Sim C μ h S env a w → c.wp P (Lift C Q) a w
 | .skip, Q, env, h, a, w, μ, S, hv, _, hs => wp_skip ⟨μ, h, S, env, hs, hv⟩
 | .label _, Q, env, h, a, w, μ, S, hv, _, hs => wp_label ⟨μ, h, S, env, hs, hv⟩
 | .exit _, Q, env, h, a, w, μ, S, hv, _, hs => wp_exit ⟨μ, h, S, env, hs, hv⟩
 | .ret, Q, env, h, a, w, μ, S, hv, _, hs => wp_ret ⟨μ, h, S, env, hs, hv⟩
 | .region id ops d, Q, env, h, a, w, μ, S, hv, hok, hs => by
  simp only [codeOk, Bool.and_eq_true, List.all_eq_true] at hok
  have hd : ∀ o ∈ ops.toList, dstOk C.nt o = true := hok.1
  cases d with
  | false =>
   refine wp_region_list (pops_sound hT ops (Q := Lift C Q) (fun env h a w μ S hq hs => ⟨μ, h, S, env, hs, hq⟩) ops.toList env h a w μ S hv hd hs)
  | true =>
   have quiet : qops P T ops.toList h (fun env' => Q .normal env' h) ops.toList env → (Code.region id ops true).wp P (Lift C Q) a w := fun hv => by
    refine wp_region_quiet (C := Agree w) hmix (by simpa using hok.2) (Agree.drew w) ?_
    exact qops_sound hT ops h w μ S (fun env a hq hs w' hw' => ⟨μ, h, S, env, hs.agree hw', hq⟩) ops.toList env a hv hd hs
   have hv : (match ops.toList.all (fun o => quietCall o.op) with
    | true => qops P T ops.toList h (fun env' => Q .normal env' h) ops.toList env
    | false => DrawVC P T C.h.length ops (fun env' h' => Q .normal env' h') env h) := hv
   split at hv
   ·exact quiet hv
   ·cases hv with
    | quiet hq => exact quiet hq
    | orders σ η hc hdd hk =>
     refine wp_region_any hmix ?_
     refine dops_sound hT ops (C := C) (K := fun env' h' => Taken C.h.length env' h' σ η) (Q := Lift C Q) (fun env' h' a' w' μ' S' ht hs' => ?_) hd ops.size _ [] env h a _ μ S hc (by simpa using hdd) (hs.agree (Agree.drew w))
     obtain ⟨μ2, S2, hs2⟩ := taken_sim hs' ht
     exact ⟨μ2, η, S2, _, hs2, hk⟩
    | float2 ord x ra y rb hc hf =>
     refine wp_region_any hmix ?_
     unfold floatOk2 at hc
     simp only [Bool.and_eq_true] at hc
     obtain ⟨⟨⟨⟨⟨⟨⟨⟨⟨⟨⟨⟨hlen, hlen2⟩, hcv⟩, hall⟩, hpa⟩, hpb⟩, hpl⟩, hAB1⟩, hAB2⟩, hxA⟩, hxr⟩, hyr⟩, hoth⟩ := hc
     rw [List.all_eq_true] at hcv hall hpl hAB1 hAB2 hxA hoth
     have hlen := Nat.eq_of_beq_eq_true hlen
     have hlt : ∀ p, p ∈ ord ++ (x, false) :: ra → p.1 < ops.size := fun p hp => by
      have := hall p hp
      rw [Bool.and_eq_true] at this
      exact Nat.le_of_ble_eq_true this.1
     have hcov : ∀ j, j < ops.size → j ∈ (ord ++ (x, false) :: ra).map (·.1) := fun j hj => inL_mem _ _ (hcv j (List.mem_range.2 hj))
     have no : ∀ (L : List Nat) (z : Nat), (!(inL L z)) = true → z ∉ L := fun L z hz hm => by rw [mem_inL _ _ hm] at hz; cases hz
     rw [← hlen]
     exact fwm_any2 hT ops (C := C) (ancT_good _ [] (fun i x hx => by simp [lookA, inL] at hx)) (fun i hi d hd' => by
      obtain ⟨p, hp, rfl⟩ := List.mem_map.1 (hcov i hi)
      have := hall p hp
      rw [Bool.and_eq_true, List.all_eq_true] at this
      have := this.2 d hd'
      rw [Bool.and_eq_true] at this
      exact ⟨Nat.le_of_ble_eq_true this.1, fun he => by rw [he, Nat.beq_refl] at this; cases this.2⟩)
      (Nat.eq_of_beq_eq_true hlen2) (fun j => ⟨fun hj => inL_mem _ _ (hAB1 j hj), fun hj => inL_mem _ _ (hAB2 j hj)⟩) (fun d hd' => no _ _ (hxA d hd')) (no _ _ hxr) (no _ _ hyr)
      (fun p hp => by
       have := hoth p hp
       rw [Bool.or_eq_true, Bool.or_eq_true] at this
       rcases this with (h1 | h1) | h1
       ·exact .inl (Nat.eq_of_beq_eq_true h1)
       ·exact .inr (.inl h1)
       ·exact .inr (.inr h1))
      (K := drawK Q) (Q := Lift C Q) (fun env h a w μ S hq hs => ⟨μ, h, S, env, hs, hq⟩) hd ord.length ord [] _ env h a _ μ S rfl hpa hpb (fun p hp => by
       have := hpl p hp
       rw [Bool.and_eq_true, Bool.and_eq_true, List.all_eq_true] at this
       exact ⟨this.1.1, this.1.2, fun d hd' => no _ _ (this.2 d hd')⟩) hlt (by simp [hlen]) (fun j hj => ⟨fun _ => hcov j hj, fun _ => by simp [Array.getD, hlen, hj]⟩) (fun j hj hn => absurd (hcov j hj) hn) (fwm2_of_fw2 _ _ _ _ hf) (hs.agree (Agree.drew w))
    | float3 ord x o1 x1 ra1 y1 rb1 y rb hc hf =>
     refine wp_region_any hmix ?_
     exact fw3_sound (C := C) hT ops hc (K := drawK Q) (Q := Lift C Q) (fun env h a w μ S hq hs => ⟨μ, h, S, env, hs, hq⟩) hd hf (hs.agree (Agree.drew w))
    | float ord hc hf =>
     refine wp_region_any hmix ?_
     unfold floatOk at hc
     simp only [Bool.and_eq_true, List.all_eq_true, Bool.not_eq_true'] at hc
     obtain ⟨⟨⟨hlen, hcv⟩, hall⟩, hpo⟩ := hc
     have hlen := Nat.eq_of_beq_eq_true hlen
     have hlt : ∀ p, p ∈ ord → p.1 < ops.size := fun p hp => Nat.le_of_ble_eq_true (hall p hp).1
     have hnd : (ord.map (·.1)).Nodup := by
      have : ∀ (l : List (Nat × Bool)), pairsOk ops (ancT ops.toList ord []) l = true → (l.map (·.1)).Nodup := fun l => by
       induction l with
       | nil => simp
       | cons p r ih =>
        intro hh
        simp only [pairsOk, Bool.and_eq_true, List.all_eq_true] at hh
        simp only [List.map_cons, List.nodup_cons]
        refine ⟨fun hm => ?_, ih hh.2⟩
        obtain ⟨q, hq, he⟩ := List.mem_map.1 hm
        have := hh.1 q hq
        unfold pairOk at this
        simp only [Bool.and_eq_true, Bool.not_eq_true'] at this
        have := this.1.1
        rw [he, Nat.beq_refl] at this
        cases this
      exact this _ hpo
     have hcov : ∀ j, j < ops.size → j ∈ ord.map (·.1) := fun j hj => inL_mem _ _ (hcv j (List.mem_range.2 hj))
     exact fwm_any hT ops (C := C) (ancT_good ord [] (fun i x hx => by simp [lookA, inL] at hx)) (fun i hi d hd' => by
      obtain ⟨p, hp, rfl⟩ := List.mem_map.1 (hcov i hi)
      have := (hall p hp).2 d hd'
      exact ⟨Nat.le_of_ble_eq_true this.1, fun he => by rw [he, Nat.beq_refl] at this; cases this.2⟩)
      (K := fun env' h' => Q .normal env' h') (Q := Lift C Q) (fun env h a w μ S hq hs => ⟨μ, h, S, env, hs, hq⟩) hd ops.size ord [] _ env h a _ μ S hlen hpo hlt (by simp) (fun j hj => ⟨fun _ => hcov j hj, fun _ => by simp [Array.getD, hj]⟩) (fun j hj hn => absurd (hcov j hj) hn) (fwm_of_fw _ _ _ _ hf) (hs.agree (Agree.drew w))
 | .seq x y, Q, env, h, a, w, μ, S, hv, hok, hs => by
  simp only [codeOk, Bool.and_eq_true] at hok
  have hv : SeqVC C.h.length (vc P T C.h.length x) (vc P T C.h.length y) Q env h := hv
  cases hv with
  | direct hd =>
   refine wp_seq (Code.wp_mono (fun e a' w' hl => ?_) (vc_sound hT hmix x _ env h a w μ S hd hok.1 hs))
   cases e with
   | normal =>
    obtain ⟨μ', h', S', env', hs', hq⟩ := hl
    exact vc_sound hT hmix y Q env' h' a' w' μ' S' hq hok.2 hs'
   | exit id => exact hl
   | goto l => exact hl
   | ret => exact hl
   | panic ch => exact hl
   | outgrown => exact hl
  | cut J ha hb =>
   refine wp_seq (Code.wp_mono (fun e a' w' hl => ?_) (vc_sound hT hmix x _ env h a w μ S ha hok.1 hs))
   cases e with
   | normal =>
    obtain ⟨μ', h', S', env', hs', σ, η, ht, hj⟩ := hl
    obtain ⟨μ3, S3, hs3⟩ := taken_sim hs' ht
    exact vc_sound hT hmix y Q _ η a' w' μ3 S3 (hb σ η hj) hok.2 hs3
   | exit id => exact hl
   | goto l => exact hl
   | ret => exact hl
   | panic ch => exact hl
   | outgrown => exact hl
 | .cond c x y, Q, env, h, a, w, μ, S, hv, hok, hs => by
  simp only [codeOk, Bool.and_eq_true] at hok
  have hv : (match ev env c with
   | .bool t => splitB t (vc P T C.h.length x Q env h) (vc P T C.h.length y Q env h)
   | _ => False) := hv
  have hc := ev_rep hs.tmps c
  split at hv
  ·rename_i b he
   rw [he] at hc
   obtain ⟨h1, h2⟩ := splitB_elim hv
   exact wp_cond_split hc.bool_inv (fun hb => vc_sound hT hmix x Q env h a w μ S (h1 hb) hok.1 hs) (fun hb => vc_sound hT hmix y Q env h a w μ S (h2 hb) hok.2 hs)
  ·exact hv.elim
 | .block id c, Q, env, h, a, w, μ, S, hv, hok, hs => by
  refine wp_block (Code.wp_mono (fun e a' w' hl => ?_) (vc_sound hT hmix c _ env h a w μ S hv hok hs))
  cases e with
  | exit id' =>
   obtain ⟨μ', h', S', env', hs', hq⟩ := hl
   show if id' = id then Lift C Q .normal a' w' else Lift C Q (.exit id') a' w'
   simp only [XQ.inBlock] at hq
   by_cases hid : id' = id
   ·rw [if_pos hid]
    subst hid
    rw [show Nat.beq id' id' = true by simp] at hq
    exact ⟨μ', h', S', env', hs', hq⟩
   ·rw [if_neg hid]
    have : Nat.beq id' id = false := by
     cases hb : Nat.beq id' id with
     | true => exact (hid (Nat.eq_of_beq_eq_true hb)).elim
     | false => rfl
    rw [this] at hq
    exact ⟨μ', h', S', env', hs', hq⟩
  | normal => exact hl
  | goto l => exact hl
  | ret => exact hl
  | panic ch => exact hl
  | outgrown => exact hl
 | .loop c, Q, env, h, a, w, μ, S, hv, hok, hs => by
  intro b k cs
  replace hv : LoopI C.h.length (fun next => vc P T C.h.length c (XQ.then next Q)) env h := hv
  have key : ∀ (a : Act) (w : World) (μ : Mu) (S : Nat → Prop), Sim C μ h S env a w → ∃ e a' w', Lift C Q e a' w' ∧ Arrives P (lone (b.at a (.code c :: .inLoop c :: k)) cs w) b k cs e a' w' := by
   clear hs
   induction hv with
   | take σ η ht hk ih =>
    intro a w μ S hs
    obtain ⟨μ0, S0, hs0⟩ := taken_sim hs ht
    exact ih a w μ0 S0 hs0
   | step N hN hb ih =>
    intro a w μ S hs
    obtain ⟨e, a₁, w₁, hq, harr⟩ := vc_sound hT hmix c _ _ _ a w μ S hb hok hs b (.inLoop c :: k) cs
    cases e with
    | normal =>
     obtain ⟨μ2, h2, S2, env2, hs2, hn⟩ := hq
     obtain ⟨e₂, a₂, w₂, hq₂, harr₂⟩ := ih _ _ hn a₁ w₁ μ2 S2 hs2
     exact ⟨e₂, a₂, w₂, hq₂, .of_steps (Steps.trans harr (.one step_inLoop)) harr₂⟩
    | exit id => exact ⟨_, a₁, w₁, hq, .pass (x := .inLoop c) rfl (fun _ _ => .inl (by simp)) harr⟩
    | goto l => exact ⟨_, a₁, w₁, hq, .pass (x := .inLoop c) rfl (fun _ _ => .inl (by simp)) harr⟩
    | ret => exact ⟨_, a₁, w₁, hq, .pass (x := .inLoop c) rfl (fun _ _ => .inl (by simp)) harr⟩
    | panic ch => exact ⟨_, a₁, w₁, hq, .pass (x := .inLoop c) rfl (fun _ _ => .inl (by simp)) harr⟩
    | outgrown => exact ⟨_, a₁, w₁, hq, .pass (x := .inLoop c) rfl (fun _ _ => .inl (by simp)) harr⟩
  obtain ⟨e, a', w', hq, harr⟩ := key a w μ S hs
  exact ⟨e, a', w', hq, .of_steps (.one step_loop) harr⟩
 | .rangeFunc _ _ _ _, Q, env, h, a, w, μ, S, hv, _, _ => hv.elim
 | .scope _, Q, env, h, a, w, μ, S, hv, _, _ => hv.elim
 | .goto _, Q, env, h, a, w, μ, S, hv, _, _ => hv.elim
 | .refuse _, Q, env, h, a, w, μ, S, hv, _, _ => hv.elim
theorem load_run (hT : TabOk P T) (hH : HeapRep μ h S w) (t : Nat) (px : PV) (v : Value) (hx : VRep μ h S w px v) {K : PV → Prop} (hp : pload T t px h K) : ∃ pv val, K pv ∧ VRep μ h S w pv val ∧ (do loadVar t (← asAddr v) : Sem Value).run P w = .ok val w := by
 obtain ⟨pv, val, hK, hv, hr⟩ := load_sound (P := P) (dst := none) (ty := 0) (pos := "") (after := #[]) (guard := none) (a := ⟨#[v], []⟩) hT hH t (.tmp 0) px (by simpa [Act.eval] using hx) hp
 refine ⟨pv, val, hK, hv, ?_⟩
 have := hr w (Agree.refl w)
 have he : (execOp (Act.eval ⟨#[v], []⟩) ⟨none, .load t (.tmp 0), 0, "", #[], none⟩) = (do pure (Next.value (← Instr.loadAt t v)) : Sem Next) := rfl
 rw [he] at this
 have hptr : ∃ ad, v = .pointer (some ad) := by
  unfold pload at hp
  split at hp
  ·obtain ⟨b, off, vf, e1, _⟩ := hx.pptr_inv; exact ⟨_, e1⟩
  ·rename_i id gen i off
   split at hp
   ·rename_i g sz n e f hg
    obtain ⟨rfl, _⟩ := hp
    have hr := hx.optr_inv
    unfold OptrRep at hr
    rw [hget_some hg] at hr
    obtain ⟨_, _, hr⟩ := hr
    obtain ⟨_, b, base, _, _, hv⟩ := hr rfl
    exact ⟨_, hv⟩
   ·exact hp.elim
  ·exact hp.elim
 obtain ⟨ad, rfl⟩ := hptr
 simp only [Instr.loadAt, Instr.sureAddr, asAddr, Sem.run_bind, Sem.run_pure, Result.andThen_ok] at this ⊢
 cases hl : (loadVar t ad).run P w with
 | ok u w' =>
  rw [hl] at this
  simp only [Result.andThen] at this
  injection this with h1 h2
  injection h1 with h1
  rw [h1, h2]
 | halt x w' => rw [hl] at this; cases this
theorem retVals_sound (hT : TabOk P T) (hs : Sim C μ h S env a w) : ∀ (rs : List ResultVar) (K : List PV → Prop), retVals T env h rs K → ∃ (vs : List PV) (us : List Value), K vs ∧ us.length = vs.length ∧ (∀ (j : Nat) (pv : PV), vs[j]? = some pv → ∃ u, us[j]? = some u ∧ VRep μ h S w pv u) ∧
  (rs.mapM (fun | .tmp t => pure (a.tmps.getD t undef) | .cell ad t => (do loadVar t (← asAddr (a.tmps.getD ad undef))) : ResultVar → Sem Value)).run P w = .ok us w
 | [], K, hp => ⟨[], [], hp, rfl, fun j pv hj => by simp at hj, rfl⟩
 | .tmp t :: r, K, hp => by
  obtain ⟨vs, us, hK, h1, h2, h3⟩ := retVals_sound hT hs r _ hp
  refine ⟨env t :: vs, a.tmps.getD t undef :: us, hK, by simp [h1], fun j pv hj => ?_, ?_⟩
  ·cases j with
   | zero => simp at hj; subst hj; exact ⟨_, rfl, hs.tmps t⟩
   | succ j => simp at hj; obtain ⟨u, q1, q2⟩ := h2 j pv hj; exact ⟨u, by simpa using q1, q2⟩
  ·simp only [List.mapM_cons, Sem.run_bind, Sem.run_pure, Result.andThen_ok, h3]
 | .cell ad t :: r, K, hp => by
  obtain ⟨pv, val, hK, hv, hr⟩ := load_run hT hs.core.heap t _ _ (hs.tmps ad) hp
  obtain ⟨vs, us, hK, h1, h2, h3⟩ := retVals_sound hT hs r _ hK
  refine ⟨pv :: vs, val :: us, hK, by simp [h1], fun j pv' hj => ?_, ?_⟩
  ·cases j with
   | zero => simp at hj; subst hj; exact ⟨_, rfl, hv⟩
   | succ j => simp at hj; obtain ⟨u, q1, q2⟩ := h2 j pv' hj; exact ⟨u, by simpa using q1, q2⟩
  ·simp only [List.mapM_cons, Sem.run_bind, hr, Result.andThen_ok, h3, Sem.run_pure]
end
end Go.Am
