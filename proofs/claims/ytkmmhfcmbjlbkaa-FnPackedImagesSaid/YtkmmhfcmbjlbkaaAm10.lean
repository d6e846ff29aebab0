/- The condition 'vc' is enough: a function whose body meets it meets its contract. -/
import Derived.Test.YtkmmhfcmbjlbkaaAm9
set_option linter.unusedVariables false
set_option linter.unusedSimpArgs false
namespace Go.Am
open Go Go.RowKit

section
variable {P : Program} {T : Tab} {μ : Mu} {h η : List AObj} {k : List Nat} {S : Nat → Prop} {w : World} {C : Start} {env : Env} {a : Act}

theorem Sim.agree (hs : Sim C μ h S env a w) {w' : World} (ha : Agree w w') : Sim C μ h S env a w' :=
  ⟨⟨hs.core.heap.agree ha hs.core.ok, hs.core.ok.agree ha⟩, hs.fr.trans (Fr.of_agree ha), fun t => (hs.tmps t).fr (Fr.of_agree ha) hs.core.ok, hs.size, hs.far, hs.defers⟩

theorem qops_guard {K : Env → Prop} (all : List Oper) (o : Oper) (rest : List Oper) (env : Env) (h : List AObj) {j : Nat} {want : Bool} (hg : o.guard = some (j, want)) :
    qops T all h K (o :: rest) env = (match (all[j]?).bind (·.dst) with
          | some t => match env t with
            | .bool b => splitB b
                (match (generalizing := false) want with
                  | true => spop T o.op (upd env t (.bool true)) h (fun v => qops T all h K rest (updO (upd env t (.bool true)) o.dst v))
                  | false => qops T all h K rest (updO (upd env t (.bool true)) o.dst (.tup [])))
                (match (generalizing := false) want with
                  | true => qops T all h K rest (updO (upd env t (.bool false)) o.dst (.tup []))
                  | false => spop T o.op (upd env t (.bool false)) h (fun v => qops T all h K rest (updO (upd env t (.bool false)) o.dst v)))
            | .tup [] => qops T all h K rest (updO env o.dst (.tup []))
            | _ => False
          | none => False) := by
  obtain ⟨dst, op, ty, pos, after, guard⟩ := o
  have hg : guard = some (j, want) := hg
  rw [hg]
  rfl

theorem qops_sound (hT : TabOk P T) (ops : Array Oper) {K : Env → Prop} {Q : Act → Prop} (h : List AObj) (w : World) (μ : Mu) (S : Nat → Prop) (hK : ∀ env a, K env → Sim C μ h S env a w → Q a) :
    ∀ (l : List Oper) (env : Env) (a : Act), qops T ops.toList h K l env → (∀ o ∈ l, dstOk C.nt o = true) → Sim C μ h S env a w → wpQuiet P ops (Agree w) Q l a
  | [], env, a, hp, _, hs => hK env a hp hs
  | o :: rest, env, a, hp, hd, hs => by
    have hdo : ∀ t, o.dst = some t → t < C.nt := fun t ht => by
      have := hd o (by simp)
      unfold dstOk at this
      rw [ht] at this
      simpa using this
    have hdr : ∀ o ∈ rest, dstOk C.nt o = true := fun o ho => hd o (by simp [ho])
    have run : ∀ env', Sim C μ h S env' a w → spop T o.op env' h (fun v => qops T ops.toList h K rest (updO env' o.dst v)) → o.quiet P a (Agree w) (wpQuiet P ops (Agree w) Q rest) := fun env' hs' hp' => by
      obtain ⟨dst, op, ty, pos, after, guard⟩ := o
      obtain ⟨v, val, hK', hv, hr⟩ := spop_sound (P := P) (env := env') hT hs'.core.heap hs'.tmps (dst := dst) (ty := ty) (pos := pos) (after := after) (guard := guard) hp'
      refine ⟨val, fun w' hw' => ?_, qops_sound hT ops h w μ S hK rest _ _ hK' hdr (hs'.put Fr.refl hs'.core hv hdo)⟩
      unfold Oper.quietAt
      rw [hr w' hw']
      exact ⟨rfl, rfl⟩
    have skip : ∀ env', Sim C μ h S env' a w → qops T ops.toList h K rest (updO env' o.dst (.tup [])) → wpQuiet P ops (Agree w) Q rest (a.put o.dst undef) := fun env' hs' hp' =>
      qops_sound hT ops h w μ S hK rest _ _ hp' hdr (hs'.put Fr.refl hs'.core vrep_undef hdo)
    unfold wpQuiet
    cases hg : o.guard with
    | none =>
      have hp : spop T o.op env h (fun v => qops T ops.toList h K rest (updO env o.dst v)) := by
        obtain ⟨dst, op, ty, pos, after, guard⟩ := o
        subst hg
        exact hp
      rw [if_pos (by simp [Region.wanted, hg])]
      exact run env hs hp
    | some p =>
      obtain ⟨j, want⟩ := p
      rw [qops_guard ops.toList o rest env h hg] at hp
      split at hp
      · rename_i t hj
        split at hp
        · rename_i b he
          have hy := yielded_of hs hj he
          obtain ⟨ht, hf⟩ := splitB_elim hp
          have hs' := hs.upd_bool he
          cases b with
          | true =>
            have hp := ht rfl
            cases want with
            | true => rw [if_pos (by simp [Region.wanted, hg, hy])]; exact run _ hs' hp
            | false => rw [if_neg (by simp [Region.wanted, hg, hy])]; exact skip _ hs' hp
          | false =>
            have hp := hf rfl
            cases want with
            | true => rw [if_neg (by simp [Region.wanted, hg, hy])]; exact skip _ hs' hp
            | false => rw [if_pos (by simp [Region.wanted, hg, hy])]; exact run _ hs' hp
        · rename_i he
          rw [if_neg (by simp [Region.wanted, hg, yielded_none hs hj he])]
          exact skip _ hs hp
        · exact hp.elim
      · exact hp.elim

theorem fzEnv_get : ∀ (σ : List (Nat × PV)) (t : Nat), FzEnv h η k env σ → (∃ v, Fz h η k (env t) v ∧ updL junkEnv σ t = v) ∨ updL junkEnv σ t = .junk
  | [], t, _ => .inr rfl
  | (t', v) :: r, t, hh => by
    obtain ⟨h1, h2⟩ := hh
    by_cases htt : t = t'
    · subst htt
      exact .inl ⟨v, h1, by simp [updL, upd_same]⟩
    · simp only [updL]
      rw [upd_ne _ _ htt]
      exact fzEnv_get r t h2

theorem taken_sim (hs : Sim C μ h S env a w) {σ : List (Nat × PV)} (ht : Taken C.h.length env h σ η) : ∃ μ' S', Sim C μ' η S' (updL junkEnv σ) a w := by
  obtain ⟨k, hk, hm, he, hh⟩ := ht
  obtain ⟨hco, _, _⟩ := fz_core hs.core hh hk
  refine ⟨muFz μ k, sFz μ h k S, hco, fz_fr hs.core hs.fr hh hk hm, fun t => ?_, hs.size, fun t hlt => ?_, hs.defers⟩
  · rcases fzEnv_get σ t he with ⟨v, h1, h2⟩ | h1
    · rw [h2]; exact (fz_sound hs.core hh h1).2.2 _ (hs.tmps t)
    · rw [h1]; trivial
  · rcases fzEnv_get σ t he with ⟨v, h1, h2⟩ | h1
    · rw [hs.far t hlt] at h1
      rw [h2]
      cases h1
      rfl
    · exact h1

theorem Lift.mono {Q Q' : XQ} {e : Exit} {w : World} (hq : ∀ env h, Q e env h → Q' e env h) (hl : Lift C Q e a w) : Lift C Q' e a w := by
  obtain ⟨μ, h, S, env, hs, hQ⟩ := hl
  exact ⟨μ, h, S, env, hs, hq env h hQ⟩

theorem vc_sound (hT : TabOk P T) (hmix : P.follows .mixedOrders = true) : ∀ (c : Code) (Q : XQ) (env : Env) (h : List AObj) (a : Act) (w : World) (μ : Mu) (S : Nat → Prop),
    vc P T C.h.length c Q env h → codeOk C.nt c = true → Sim C μ h S env a w → c.wp P (Lift C Q) a w
  | .skip, Q, env, h, a, w, μ, S, hv, _, hs => wp_skip ⟨μ, h, S, env, hs, hv⟩
  | .label _, Q, env, h, a, w, μ, S, hv, _, hs => wp_label ⟨μ, h, S, env, hs, hv⟩
  | .exit _, Q, env, h, a, w, μ, S, hv, _, hs => wp_exit ⟨μ, h, S, env, hs, hv⟩
  | .ret, Q, env, h, a, w, μ, S, hv, _, hs => wp_ret ⟨μ, h, S, env, hs, hv⟩
  | .region id ops d, Q, env, h, a, w, μ, S, hv, hok, hs => by
    simp only [codeOk, Bool.and_eq_true, List.all_eq_true] at hok
    have hd : ∀ o ∈ ops.toList, dstOk C.nt o = true := hok.1
    cases d with
    | false =>
      refine wp_region_list (pops_sound hT ops (Q := Lift C Q) (fun env h a w μ S hq hs => ⟨μ, h, S, env, hs, hq⟩) ops.toList env h a w μ S hv hd hs)
    | true =>
      refine wp_region_quiet (C := Agree w) hmix (by simpa using hok.2) (Agree.drew w) ?_
      refine qops_sound hT ops h w μ S (fun env a hq hs w' hw' => ⟨μ, h, S, env, hs.agree hw', hq⟩) ops.toList env a hv hd hs
  | .seq x y, Q, env, h, a, w, μ, S, hv, hok, hs => by
    simp only [codeOk, Bool.and_eq_true] at hok
    refine wp_seq (Code.wp_mono (fun e a' w' hl => ?_) (vc_sound hT hmix x _ env h a w μ S hv hok.1 hs))
    cases e with
    | normal =>
      obtain ⟨μ', h', S', env', hs', hq⟩ := hl
      exact vc_sound hT hmix y Q env' h' a' w' μ' S' hq hok.2 hs'
    | exit id => exact hl
    | goto l => exact hl
    | ret => exact hl
    | panic ch => exact hl
    | outgrown => exact hl
  | .cond c x y, Q, env, h, a, w, μ, S, hv, hok, hs => by
    simp only [codeOk, Bool.and_eq_true] at hok
    simp only [vc] at hv
    have hc := ev_rep hs.tmps c
    split at hv
    · rename_i b he
      rw [he] at hc
      obtain ⟨h1, h2⟩ := splitB_elim hv
      exact wp_cond_split hc.bool_inv (fun hb => vc_sound hT hmix x Q env h a w μ S (h1 hb) hok.1 hs) (fun hb => vc_sound hT hmix y Q env h a w μ S (h2 hb) hok.2 hs)
    · exact hv.elim
  | .block id c, Q, env, h, a, w, μ, S, hv, hok, hs => by
    refine wp_block (Code.wp_mono (fun e a' w' hl => ?_) (vc_sound hT hmix c _ env h a w μ S hv hok hs))
    cases e with
    | exit id' =>
      obtain ⟨μ', h', S', env', hs', hq⟩ := hl
      show if id' = id then Lift C Q .normal a' w' else Lift C Q (.exit id') a' w'
      simp only [XQ.inBlock] at hq
      by_cases hid : id' = id
      · rw [if_pos hid]
        subst hid
        rw [show Nat.beq id' id' = true by simp] at hq
        exact ⟨μ', h', S', env', hs', hq⟩
      · rw [if_neg hid]
        have : Nat.beq id' id = false := by
          cases hb : Nat.beq id' id with
          | true => exact (hid (Nat.eq_of_beq_eq_true hb)).elim
          | false => rfl
        rw [this] at hq
        exact ⟨μ', h', S', env', hs', hq⟩
    | normal => exact hl
    | goto l => exact hl
    | ret => exact hl
    | panic ch => exact hl
    | outgrown => exact hl
  | .loop c, Q, env, h, a, w, μ, S, hv, hok, hs => by
    obtain ⟨X, σ, η, ok, m, x0, h0, ht, hround⟩ := hv
    obtain ⟨μ0, S0, hs0⟩ := taken_sim hs ht
    refine wp_loop_ghost (fun n a w => ∃ x μ S, ok x ∧ m x = n ∧ Sim C μ (η x) S (updL junkEnv (σ x)) a w) (m x0) ⟨x0, μ0, S0, h0, rfl, hs0⟩ ?_
    rintro n a' w' ⟨x, μ', S', hx, rfl, hs'⟩
    refine Code.wp_mono (fun e a2 w2 hl => ?_) (vc_sound hT hmix c _ _ _ a' w' μ' S' (hround x hx) hok hs')
    cases e with
    | normal =>
      obtain ⟨μ2, h2, S2, env2, hs2, x', hx', hlt, ht'⟩ := hl
      obtain ⟨μ3, S3, hs3⟩ := taken_sim hs2 ht'
      exact ⟨m x', hlt, x', μ3, S3, hx', rfl, hs3⟩
    | exit id => exact hl
    | goto l => exact hl
    | ret => exact hl
    | panic ch => exact hl
    | outgrown => exact hl
  | .rangeFunc _ _ _ _, Q, env, h, a, w, μ, S, hv, _, _ => hv.elim
  | .scope _, Q, env, h, a, w, μ, S, hv, _, _ => hv.elim
  | .goto _, Q, env, h, a, w, μ, S, hv, _, _ => hv.elim
  | .refuse _, Q, env, h, a, w, μ, S, hv, _, _ => hv.elim

theorem load_run (hT : TabOk P T) (hH : HeapRep μ h S w) (t : Nat) (px : PV) (v : Value) (hx : VRep μ h S w px v) {K : PV → Prop} (hp : pload T t px h K) : ∃ pv val, K pv ∧ VRep μ h S w pv val ∧ (do loadVar t (← asAddr v) : Sem Value).run P w = .ok val w := by
  obtain ⟨pv, val, hK, hv, hr⟩ := load_sound (P := P) (dst := none) (ty := 0) (pos := "") (after := #[]) (guard := none) (a := ⟨#[v], []⟩) hT hH t (.tmp 0) px (by simpa [Act.eval] using hx) hp
  refine ⟨pv, val, hK, hv, ?_⟩
  have := hr w (Agree.refl w)
  have he : (execOp (Act.eval ⟨#[v], []⟩) ⟨none, .load t (.tmp 0), 0, "", #[], none⟩) = (do pure (Next.value (← Instr.loadAt t v)) : Sem Next) := rfl
  rw [he] at this
  have hptr : ∃ ad, v = .pointer (some ad) := by
    unfold pload at hp
    split at hp
    · obtain ⟨b, off, vf, e1, _⟩ := hx.pptr_inv; exact ⟨_, e1⟩
    · rename_i id gen i off
      split at hp
      · rename_i g sz n e f hg
        obtain ⟨rfl, _⟩ := hp
        have hr := hx.optr_inv
        unfold OptrRep at hr
        rw [hget_some hg] at hr
        obtain ⟨_, _, hr⟩ := hr
        obtain ⟨_, b, base, _, hv⟩ := hr rfl
        exact ⟨_, hv⟩
      · exact hp.elim
    · exact hp.elim
  obtain ⟨ad, rfl⟩ := hptr
  simp only [Instr.loadAt, Instr.sureAddr, asAddr, Sem.run_bind, Sem.run_pure, Result.andThen_ok] at this ⊢
  cases hl : (loadVar t ad).run P w with
  | ok u w' =>
    rw [hl] at this
    simp only [Result.andThen] at this
    injection this with h1 h2
    injection h1 with h1
    rw [h1, h2]
  | halt x w' => rw [hl] at this; cases this

theorem retVals_sound (hT : TabOk P T) (hs : Sim C μ h S env a w) : ∀ (rs : List ResultVar) (K : List PV → Prop), retVals T env h rs K → ∃ (vs : List PV) (us : List Value), K vs ∧ us.length = vs.length ∧ (∀ (j : Nat) (pv : PV), vs[j]? = some pv → ∃ u, us[j]? = some u ∧ VRep μ h S w pv u) ∧
    (rs.mapM (fun | .tmp t => pure (a.tmps.getD t undef) | .cell ad t => (do loadVar t (← asAddr (a.tmps.getD ad undef))) : ResultVar → Sem Value)).run P w = .ok us w
  | [], K, hp => ⟨[], [], hp, rfl, fun j pv hj => by simp at hj, rfl⟩
  | .tmp t :: r, K, hp => by
    obtain ⟨vs, us, hK, h1, h2, h3⟩ := retVals_sound hT hs r _ hp
    refine ⟨env t :: vs, a.tmps.getD t undef :: us, hK, by simp [h1], fun j pv hj => ?_, ?_⟩
    · cases j with
      | zero => simp at hj; subst hj; exact ⟨_, rfl, hs.tmps t⟩
      | succ j => simp at hj; obtain ⟨u, q1, q2⟩ := h2 j pv hj; exact ⟨u, by simpa using q1, q2⟩
    · simp only [List.mapM_cons, Sem.run_bind, Sem.run_pure, Result.andThen_ok, h3]
  | .cell ad t :: r, K, hp => by
    obtain ⟨pv, val, hK, hv, hr⟩ := load_run hT hs.core.heap t _ _ (hs.tmps ad) hp
    obtain ⟨vs, us, hK, h1, h2, h3⟩ := retVals_sound hT hs r _ hK
    refine ⟨pv :: vs, val :: us, hK, by simp [h1], fun j pv' hj => ?_, ?_⟩
    · cases j with
      | zero => simp at hj; subst hj; exact ⟨_, rfl, hv⟩
      | succ j => simp at hj; obtain ⟨u, q1, q2⟩ := h2 j pv' hj; exact ⟨u, by simpa using q1, q2⟩
    · simp only [List.mapM_cons, Sem.run_bind, hr, Result.andThen_ok, h3, Sem.run_pure]

end
end Go.Am
