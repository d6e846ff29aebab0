/- Operations of a region that draws its order may be moved ahead. -/
import Derived.Test.YtgkniabpdgaoiaaDoorBmF
set_option linter.unusedVariables false
set_option linter.unusedSimpArgs false
namespace Go.Am
open Go Go.RowKit
section
variable {P : Program} {T : Tab}
def fs (P : Program) (T : Tab) (all : List Oper) (st : Bool) (o : Oper) (G : PV → List AObj → Prop) (env : Env) (h : List AObj) : Prop :=
 match o.guard with
 | none => frun P T st o.op env h G
 | some (j, want) => match (all[j]?).bind (·.dst) with
  | some t => match env t with
   | .bool b => match b == want with
    | true => frun P T st o.op env h G
    | false => G (.tup []) h
   | .tup [] => G (.tup []) h
   | _ => False
  | none => False
theorem upd_lit {env : Env} {t : Nat} {v : PV} (h : env t = v) : upd env t v = env := by
 funext j
 unfold upd
 cases hb : Nat.beq j t with
 | true => rw [Nat.eq_of_beq_eq_true hb, ← h]; rfl
 | false => rfl
theorem frun_mono {st : Bool} {op : Op} {env : Env} {h : List AObj} {G G' : PV → List AObj → Prop} (hk : ∀ v h', G v h' → G' v h') (hp : frun P T st op env h G) : frun P T st op env h G' := by
 cases st with
 | true => exact spop_mono (fun v => hk v h) hp
 | false => exact pop_mono hk _ hp
theorem fs_mono {all : List Oper} {st : Bool} {o : Oper} {env : Env} {h : List AObj} {G G' : PV → List AObj → Prop} (hk : ∀ v h', G v h' → G' v h') (hp : fs P T all st o G env h) : fs P T all st o G' env h := by
 unfold fs at hp ⊢
 generalize o.guard = g at hp ⊢
 cases g with
 | none => exact frun_mono hk hp
 | some q =>
  obtain ⟨j, want⟩ := q
  simp only at hp ⊢
  generalize (all[j]?).bind (·.dst) = d at hp ⊢
  cases d with
  | none => exact hp
  | some t =>
   simp only at hp ⊢
   generalize env t = v at hp ⊢
   cases v with
   | bool b =>
    simp only at hp ⊢
    generalize (b == want) = c at hp ⊢
    cases c with
    | true => exact frun_mono hk hp
    | false => exact hk _ _ hp
   | tup l => cases l with
    | nil => exact hk _ _ hp
    | cons a r => exact hp
   | _ => exact hp
theorem fs_of_fstep {all : List Oper} {st : Bool} {o : Oper} {F : Env → PV → List AObj → Prop} {env : Env} {h : List AObj} (hp : fstep P T all st o F env h) : fs P T all st o (F env) env h := by
 unfold fstep at hp
 unfold fs
 generalize o.guard = g at hp ⊢
 cases g with
 | none => exact hp
 | some q =>
  obtain ⟨j, want⟩ := q
  simp only at hp ⊢
  generalize (all[j]?).bind (·.dst) = d at hp ⊢
  cases d with
  | none => exact hp
  | some t =>
   simp only at hp ⊢
   generalize hv : env t = v at hp ⊢
   cases v with
   | bool b =>
    simp only at hp ⊢
    obtain ⟨h1, h2⟩ := splitB_elim hp
    cases b with
    | true =>
     have h1 := h1 rfl
     rw [upd_lit hv] at h1
     cases want <;> exact h1
    | false =>
     have h2 := h2 rfl
     rw [upd_lit hv] at h2
     cases want <;> exact h2
   | tup l => cases l with
    | nil => exact hp
    | cons a r => exact hp
   | _ => exact hp
theorem ev_same {env env' : Env} {o : Oper} {ops : Array Oper} (hl : ∀ t, t ∈ o.looksAt ops → env t = env' t) : OpSame env env' o.op := fun x hx => by
 cases x with
 | tmp t => exact hl t (by unfold Oper.looksAt; rw [List.mem_append]; left; rw [List.mem_filterMap]; exact ⟨_, hx, rfl⟩)
 | _ => rfl
theorem guard_same {env env' : Env} {o : Oper} {ops : Array Oper} (hl : ∀ t, t ∈ o.looksAt ops → env t = env' t) {j : Nat} {w : Bool} (hg : o.guard = some (j, w)) {t : Nat} (ht : (ops.toList[j]?).bind (·.dst) = some t) : env t = env' t :=
 hl t (by
  unfold Oper.looksAt
  rw [List.mem_append, hg]
  right
  have : ops.toList[j]? = ops[j]? := by simp
  rw [this] at ht
  show t ∈ ((ops[j]?).bind (·.dst)).toList
  rw [ht]
  simp)
theorem fs_env {ops : Array Oper} {st : Bool} {o : Oper} {G : PV → List AObj → Prop} {env env' : Env} {h : List AObj} (hl : ∀ t, t ∈ o.looksAt ops → env t = env' t) (hp : fs P T ops.toList st o G env h) : fs P T ops.toList st o G env' h := by
 have hr : frun P T st o.op env h G = frun P T st o.op env' h G := by
  cases st with
  | true => exact spop_env _ (ev_same hl)
  | false => exact pop_env _ (ev_same hl)
 unfold fs at hp ⊢
 cases hg : o.guard with
 | none => rw [hg] at hp; simp only at hp ⊢; rw [← hr]; exact hp
 | some q =>
  obtain ⟨j, want⟩ := q
  rw [hg] at hp
  simp only at hp ⊢
  cases hd : (ops.toList[j]?).bind (·.dst) with
  | none => rw [hd] at hp; exact hp
  | some t =>
   rw [hd] at hp
   simp only at hp ⊢
   rw [← guard_same hl hg hd, ← hr]
   exact hp
theorem flatMap_same {α β : Type} {f g : α → List β} : ∀ (l : List α), (∀ x, x ∈ l → f x = g x) → l.flatMap f = l.flatMap g
 | [], _ => rfl
 | a :: r, h => by rw [List.flatMap_cons, List.flatMap_cons, h a (by simp), flatMap_same r (fun x hx => h x (List.mem_cons_of_mem _ hx))]
theorem opIds_or (env : Env) (op : Op) : (∃ x, op = .move x) ∨ opIds env op = op.operands.toList.flatMap (fun x => idsOf (ev env x)) := by
 cases op <;> first | exact .inl ⟨_, rfl⟩ | exact .inr rfl
theorem spop_heap2 {T : Tab} {env : Env} {h h' : List AObj} {K : PV → Prop} {op : Op} (hi : ∀ id, id ∈ opIds env op → hget h id = hget h' id) : spop T op env h K = spop T op env h' K := by
 rcases opIds_or env op with ⟨x, rfl⟩ | e
 ·rfl
 ·exact spop_heap op (fun x hx id hid => hi id (by rw [e, List.mem_flatMap]; exact ⟨x, hx, hid⟩))
theorem opIds_same {env env' : Env} {op : Op} (hs : ∀ x, x ∈ op.operands.toList → ev env x = ev env' x) : opIds env' op = opIds env op := by
 rcases opIds_or env op with ⟨x, rfl⟩ | e
 ·rfl
 ·rcases opIds_or env' op with ⟨x, rfl⟩ | e'
  ·rfl
  ·rw [e, e']
   exact flatMap_same _ (fun x hx => by rw [hs x hx])
theorem fs_one {ops : Array Oper} {o : Oper} {G : PV → List AObj → Prop} {env : Env} {h : List AObj} (hp : fs P T ops.toList true o G env h) :
  ∃ v, G v h ∧ ∀ (env' : Env) (h' : List AObj) (G' : PV → List AObj → Prop), (∀ t, t ∈ o.looksAt ops → env t = env' t) → (∀ id, id ∈ opIds env o.op → hget h id = hget h' id) → G' v h' → fs P T ops.toList true o G' env' h' := by
 have run : spop T o.op env h (fun v => G v h) → ∃ v, G v h ∧ ∀ (env' : Env) (h' : List AObj) (G' : PV → List AObj → Prop), (∀ t, t ∈ o.looksAt ops → env t = env' t) → (∀ id, id ∈ opIds env o.op → hget h id = hget h' id) → G' v h' → spop T o.op env' h' (fun v => G' v h') := fun hs => by
  obtain ⟨v, h1, h2⟩ := one_spop T o.op env h _ hs
  refine ⟨v, h1, fun env' h' G' hl hi hg => ?_⟩
  rw [← spop_env o.op (ev_same hl), ← spop_heap2 (op := o.op) hi]
  exact h2 _ hg
 unfold fs at hp
 cases hg : o.guard with
 | none =>
  rw [hg] at hp
  obtain ⟨v, h1, h2⟩ := run hp
  refine ⟨v, h1, fun env' h' G' hl hi hk => ?_⟩
  unfold fs
  rw [hg]
  exact h2 env' h' G' hl hi hk
 | some q =>
  obtain ⟨j, want⟩ := q
  rw [hg] at hp
  simp only at hp
  cases hd : (ops.toList[j]?).bind (·.dst) with
  | none => rw [hd] at hp; exact hp.elim
  | some t =>
   rw [hd] at hp
   simp only at hp
   cases hv : env t with
   | bool b =>
    rw [hv] at hp
    simp only at hp
    cases hc : (b == want) with
    | true =>
     rw [hc] at hp
     obtain ⟨v, h1, h2⟩ := run hp
     refine ⟨v, h1, fun env' h' G' hl hi hk => ?_⟩
     unfold fs
     rw [hg]; simp only; rw [hd]; simp only; rw [← guard_same hl hg hd, hv]; simp only; rw [hc]
     exact h2 env' h' G' hl hi hk
    | false =>
     rw [hc] at hp
     refine ⟨_, hp, fun env' h' G' hl hi hk => ?_⟩
     unfold fs
     rw [hg]; simp only; rw [hd]; simp only; rw [← guard_same hl hg hd, hv]; simp only; rw [hc]
     exact hk
   | tup l =>
    rw [hv] at hp
    cases l with
    | nil =>
     refine ⟨_, hp, fun env' h' G' hl hi hk => ?_⟩
     unfold fs
     rw [hg]; simp only; rw [hd]; simp only; rw [← guard_same hl hg hd, hv]
     exact hk
    | cons a r => exact hp.elim
   | _ => rw [hv] at hp; exact hp.elim
def fwm (P : Program) (T : Tab) (all : List Oper) (t : List (Nat × List Nat)) (K : Env → List AObj → Prop) : List (Nat × Bool) → List (Nat × List Nat) → Env → List AObj → Prop
 | [], _, env, h => K env h
 | (i, st) :: r, fps, env, h => ∃ o, all[i]? = some o ∧ fs P T all st o (fun v h' => match st with
   | true => fwm P T all t K r ((i, opIds env o.op) :: fps) (updO env o.dst v) h'
   | false => (∀ j ids, (j, ids) ∈ fps → inL (lookA t i) j = false → ∀ id, id ∈ ids → hget h id = hget h' id) ∧ fwm P T all t K r fps (updO env o.dst v) h') env h
theorem keepIds_elim {h h' : List AObj} {K : Prop} : ∀ (ids : List Nat), keepIds h h' K ids → (∀ id, id ∈ ids → hget h id = hget h' id) ∧ K
 | [], hk => ⟨fun id hid => by simp at hid, hk⟩
 | a :: r, hk => by
  obtain ⟨h1, h2⟩ := keepIds_elim r hk.2
  refine ⟨fun id hid => ?_, h2⟩
  simp only [List.mem_cons] at hid
  rcases hid with rfl | hid
  ·exact hk.1
  ·exact h1 id hid
theorem keepAll_elim {anc : List Nat} {h h' : List AObj} {K : Prop} : ∀ (fps : List (Nat × List Nat)), keepAll anc h h' K fps → (∀ j ids, (j, ids) ∈ fps → inL anc j = false → ∀ id, id ∈ ids → hget h id = hget h' id) ∧ K
 | [], hk => ⟨fun j ids hj => by simp at hj, hk⟩
 | (a, l) :: r, hk => by
  unfold keepAll at hk
  cases ha : inL anc a with
  | true =>
   rw [ha] at hk
   obtain ⟨h1, h2⟩ := keepAll_elim r hk
   refine ⟨fun j ids hj hn => ?_, h2⟩
   simp only [List.mem_cons] at hj
   rcases hj with hj | hj
   ·injection hj with e1 e2; subst e1; rw [ha] at hn; cases hn
   ·exact h1 j ids hj hn
  | false =>
   rw [ha] at hk
   obtain ⟨q1, q2⟩ := keepIds_elim l hk
   obtain ⟨h1, h2⟩ := keepAll_elim r q2
   refine ⟨fun j ids hj hn => ?_, h2⟩
   simp only [List.mem_cons] at hj
   rcases hj with hj | hj
   ·injection hj with e1 e2; subst e2; exact q1
   ·exact h1 j ids hj hn
theorem fwm_of_fw {all : List Oper} {t : List (Nat × List Nat)} {K : Env → List AObj → Prop} : ∀ (l : List (Nat × Bool)) (fps : List (Nat × List Nat)) (env : Env) (h : List AObj), fw P T all t K l fps env h → fwm P T all t K l fps env h
 | [], _, _, _, hp => hp
 | (i, true) :: r, fps, env, h, hp => by
  have hp : (match all[i]? with
   | some o => fstep P T all true o (fun env' v h' => fw P T all t K r ((i, opIds env' o.op) :: fps) (updO env' o.dst v) h') env h
   | none => False) := hp
  cases ho : all[i]? with
  | none => rw [ho] at hp; exact hp.elim
  | some o =>
   rw [ho] at hp
   exact ⟨o, ho, fs_mono (fun v h' hk => fwm_of_fw r _ _ _ hk) (fs_of_fstep hp)⟩
 | (i, false) :: r, fps, env, h, hp => by
  have hp : (match all[i]? with
   | some o => fstep P T all false o (fun env' v h' => keepAll (lookA t i) h h' (fw P T all t K r fps (updO env' o.dst v) h') fps) env h
   | none => False) := hp
  cases ho : all[i]? with
  | none => rw [ho] at hp; exact hp.elim
  | some o =>
   rw [ho] at hp
   refine ⟨o, ho, fs_mono (fun v h' hk => ?_) (fs_of_fstep hp)⟩
   obtain ⟨h1, h2⟩ := keepAll_elim _ hk
   exact ⟨h1, fwm_of_fw r _ _ _ h2⟩
theorem fwm_anti {all : List Oper} {t : List (Nat × List Nat)} {K : Env → List AObj → Prop} : ∀ (l : List (Nat × Bool)) (fps fps' : List (Nat × List Nat)) (env : Env) (h : List AObj), (∀ x, x ∈ fps' → x ∈ fps) → fwm P T all t K l fps env h → fwm P T all t K l fps' env h
 | [], _, _, _, _, _, hp => hp
 | (i, st) :: r, fps, fps', env, h, hs, hp => by
  obtain ⟨o, ho, hp⟩ := hp
  refine ⟨o, ho, fs_mono (fun v h' hk => ?_) hp⟩
  cases st with
  | true => exact fwm_anti r _ _ _ _ (fun x hx => by simp only [List.mem_cons] at hx ⊢; exact hx.imp id (hs x)) hk
  | false => exact ⟨fun j ids hj => hk.1 j ids (hs _ hj), fwm_anti r _ _ _ _ hs hk.2⟩
theorem updO_comm {env : Env} {d e : Option Nat} {u v : PV} (hne : ∀ x, d = some x → e ≠ some x) : updO (updO env d u) e v = updO (updO env e v) d u := by
 cases d with
 | none => rfl
 | some x =>
  cases e with
  | none => rfl
  | some y =>
   have hxy : x ≠ y := fun he => hne x rfl (by rw [he])
   funext j
   simp only [updO, upd]
   cases h1 : Nat.beq j y with
   | true =>
    have := Nat.eq_of_beq_eq_true h1
    subst this
    cases h2 : Nat.beq j x with
    | true => exact absurd (Nat.eq_of_beq_eq_true h2).symm hxy
    | false => rfl
   | false => cases h2 : Nat.beq j x <;> rfl
theorem updO_look {env : Env} {d : Option Nat} {v : PV} {l : List Nat} (hn : ∀ x, d = some x → x ∉ l) : ∀ t, t ∈ l → env t = updO env d v t := fun t ht => by
 cases d with
 | none => rfl
 | some x =>
  have : t ≠ x := fun he => hn x rfl (he ▸ ht)
  simp only [updO, upd]
  cases h2 : Nat.beq t x with
  | true => exact absurd (Nat.eq_of_beq_eq_true h2) this
  | false => rfl
theorem fwm_move {ops : Array Oper} {t : List (Nat × List Nat)} {K : Env → List AObj → Prop} {i : Nat} {st : Bool} {oi : Oper} (hoi : ops.toList[i]? = some oi) :
  ∀ (l1 l2 : List (Nat × Bool)) (fps : List (Nat × List Nat)) (env : Env) (h : List AObj), (∀ p, p ∈ l1 → p.2 = true ∧ inL (lookA t i) p.1 = false ∧ apartAt ops p.1 i = true) → fwm P T ops.toList t K (l1 ++ (i, st) :: l2) fps env h →
   fs P T ops.toList st oi (fun v h' => (st = true → h' = h) ∧ (st = false → ∀ j ids, (j, ids) ∈ fps → inL (lookA t i) j = false → ∀ id, id ∈ ids → hget h id = hget h' id) ∧ fwm P T ops.toList t K (l1 ++ l2) fps (updO env oi.dst v) h') env h
 | [], l2, fps, env, h, _, hp => by
  obtain ⟨o, ho, hp⟩ := hp
  rw [hoi] at ho
  injection ho with ho
  subst ho
  cases st with
  | true =>
   obtain ⟨v, h1, h2⟩ := fs_one hp
   exact h2 env h _ (fun _ _ => rfl) (fun _ _ => rfl) ⟨fun _ => rfl, fun hc => Bool.noConfusion hc, fwm_anti _ _ _ _ _ (fun x hx => List.mem_cons_of_mem _ hx) h1⟩
  | false => exact fs_mono (fun v h' hk => ⟨fun hc => Bool.noConfusion hc, fun _ => hk.1, hk.2⟩) hp
 | (a, sa) :: l1, l2, fps, env, h, hall, hp => by
  obtain ⟨h1, h2, h3⟩ := hall (a, sa) (by simp)
  simp only at h1 h2 h3
  subst h1
  obtain ⟨o, ho, hp⟩ := hp
  have hap : Oper.apart ops o oi = true := by
   unfold apartAt at h3
   have e1 : ops[a]? = some o := by simpa using ho
   have e2 : ops[i]? = some oi := by simpa using hoi
   rw [e1, e2] at h3
   exact h3
  obtain ⟨a1, a2, a3⟩ := Oper.apart_spec hap
  obtain ⟨u, k1, k2⟩ := fs_one hp
  have ih := fwm_move hoi l1 l2 _ _ h (fun p hp => hall p (List.mem_cons_of_mem _ hp)) k1
  have ih' := fs_env (env' := env) (fun x hx => (updO_look (fun d hd => a1 d hd) x hx).symm) ih
  refine fs_mono (fun v h' hk => ⟨hk.1, fun hc j ids hj => hk.2.1 hc j ids (List.mem_cons_of_mem _ hj), ?_⟩) ih'
  have hids : ∀ id, id ∈ opIds env o.op → hget h id = hget h' id := fun id hid => by
   cases st with
   | true => rw [hk.1 rfl]
   | false => exact hk.2.1 rfl a _ (by simp) h2 id hid
  have hlook : ∀ x, x ∈ o.looksAt ops → env x = updO env oi.dst v x := updO_look (fun d hd => a3 d hd)
  refine ⟨o, ho, k2 _ h' _ hlook hids ?_⟩
  have eids : opIds (updO env oi.dst v) o.op = opIds env o.op := by
   exact opIds_same (ev_same hlook)
  simp only
  rw [eids, updO_comm (fun x hx => (fun he => a2 x he hx) : ∀ x, oi.dst = some x → o.dst ≠ some x)]
  exact hk.2.2
def fwm2 (P : Program) (T : Tab) (all : List Oper) (t : List (Nat × List Nat)) (A0 B0 : List (Nat × Bool)) (K : Env → List AObj → Prop) : List (Nat × Bool) → List (Nat × List Nat) → Env → List AObj → Prop
 | [], fps, env, h => fwm P T all t K A0 fps env h ∧ fwm P T all t K B0 fps env h
 | (i, st) :: r, fps, env, h => ∃ o, all[i]? = some o ∧ fs P T all st o (fun v h' => match st with
   | true => fwm2 P T all t A0 B0 K r ((i, opIds env o.op) :: fps) (updO env o.dst v) h'
   | false => (∀ j ids, (j, ids) ∈ fps → inL (lookA t i) j = false → ∀ id, id ∈ ids → hget h id = hget h' id) ∧ fwm2 P T all t A0 B0 K r fps (updO env o.dst v) h') env h
theorem fwm2_of_fw2 {all : List Oper} {t : List (Nat × List Nat)} {A0 B0 : List (Nat × Bool)} {K : Env → List AObj → Prop} : ∀ (l : List (Nat × Bool)) (fps : List (Nat × List Nat)) (env : Env) (h : List AObj), fw2 P T all t A0 B0 K l fps env h → fwm2 P T all t A0 B0 K l fps env h
 | [], _, _, _, hp => ⟨fwm_of_fw _ _ _ _ hp.1, fwm_of_fw _ _ _ _ hp.2⟩
 | (i, true) :: r, fps, env, h, hp => by
  have hp : (match all[i]? with
   | some o => fstep P T all true o (fun env' v h' => fw2 P T all t A0 B0 K r ((i, opIds env' o.op) :: fps) (updO env' o.dst v) h') env h
   | none => False) := hp
  cases ho : all[i]? with
  | none => rw [ho] at hp; exact hp.elim
  | some o =>
   rw [ho] at hp
   exact ⟨o, ho, fs_mono (fun v h' hk => fwm2_of_fw2 r _ _ _ hk) (fs_of_fstep hp)⟩
 | (i, false) :: r, fps, env, h, hp => by
  have hp : (match all[i]? with
   | some o => fstep P T all false o (fun env' v h' => keepAll (lookA t i) h h' (fw2 P T all t A0 B0 K r fps (updO env' o.dst v) h') fps) env h
   | none => False) := hp
  cases ho : all[i]? with
  | none => rw [ho] at hp; exact hp.elim
  | some o =>
   rw [ho] at hp
   refine ⟨o, ho, fs_mono (fun v h' hk => ?_) (fs_of_fstep hp)⟩
   obtain ⟨h1, h2⟩ := keepAll_elim _ hk
   exact ⟨h1, fwm2_of_fw2 r _ _ _ h2⟩
theorem fwm2_anti {all : List Oper} {t : List (Nat × List Nat)} {A0 B0 : List (Nat × Bool)} {K : Env → List AObj → Prop} : ∀ (l : List (Nat × Bool)) (fps fps' : List (Nat × List Nat)) (env : Env) (h : List AObj), (∀ x, x ∈ fps' → x ∈ fps) → fwm2 P T all t A0 B0 K l fps env h → fwm2 P T all t A0 B0 K l fps' env h
 | [], fps, fps', _, _, hs, hp => ⟨fwm_anti _ fps fps' _ _ hs hp.1, fwm_anti _ fps fps' _ _ hs hp.2⟩
 | (i, st) :: r, fps, fps', env, h, hs, hp => by
  obtain ⟨o, ho, hp⟩ := hp
  refine ⟨o, ho, fs_mono (fun v h' hk => ?_) hp⟩
  cases st with
  | true => exact fwm2_anti r _ _ _ _ (fun x hx => by simp only [List.mem_cons] at hx ⊢; exact hx.imp id (hs x)) hk
  | false => exact ⟨fun j ids hj => hk.1 j ids (hs _ hj), fwm2_anti r _ _ _ _ hs hk.2⟩
theorem fwm2_move {ops : Array Oper} {t : List (Nat × List Nat)} {A0 B0 : List (Nat × Bool)} {K : Env → List AObj → Prop} {i : Nat} {st : Bool} {oi : Oper} (hoi : ops.toList[i]? = some oi) :
  ∀ (l1 l2 : List (Nat × Bool)) (fps : List (Nat × List Nat)) (env : Env) (h : List AObj), (∀ p, p ∈ l1 → p.2 = true ∧ inL (lookA t i) p.1 = false ∧ apartAt ops p.1 i = true) → fwm2 P T ops.toList t A0 B0 K (l1 ++ (i, st) :: l2) fps env h →
   fs P T ops.toList st oi (fun v h' => (st = true → h' = h) ∧ (st = false → ∀ j ids, (j, ids) ∈ fps → inL (lookA t i) j = false → ∀ id, id ∈ ids → hget h id = hget h' id) ∧ fwm2 P T ops.toList t A0 B0 K (l1 ++ l2) fps (updO env oi.dst v) h') env h
 | [], l2, fps, env, h, _, hp => by
  obtain ⟨o, ho, hp⟩ := hp
  rw [hoi] at ho
  injection ho with ho
  subst ho
  cases st with
  | true =>
   obtain ⟨v, h1, h2⟩ := fs_one hp
   exact h2 env h _ (fun _ _ => rfl) (fun _ _ => rfl) ⟨fun _ => rfl, fun hc => Bool.noConfusion hc, fwm2_anti _ _ _ _ _ (fun x hx => List.mem_cons_of_mem _ hx) h1⟩
  | false => exact fs_mono (fun v h' hk => ⟨fun hc => Bool.noConfusion hc, fun _ => hk.1, hk.2⟩) hp
 | (a, sa) :: l1, l2, fps, env, h, hall, hp => by
  obtain ⟨h1, h2, h3⟩ := hall (a, sa) (by simp)
  simp only at h1 h2 h3
  subst h1
  obtain ⟨o, ho, hp⟩ := hp
  have hap : Oper.apart ops o oi = true := by
   unfold apartAt at h3
   have e1 : ops[a]? = some o := by simpa using ho
   have e2 : ops[i]? = some oi := by simpa using hoi
   rw [e1, e2] at h3
   exact h3
  obtain ⟨a1, a2, a3⟩ := Oper.apart_spec hap
  obtain ⟨u, k1, k2⟩ := fs_one hp
  have ih := fwm2_move hoi l1 l2 _ _ h (fun p hp => hall p (List.mem_cons_of_mem _ hp)) k1
  have ih' := fs_env (env' := env) (fun x hx => (updO_look (fun d hd => a1 d hd) x hx).symm) ih
  refine fs_mono (fun v h' hk => ⟨hk.1, fun hc j ids hj => hk.2.1 hc j ids (List.mem_cons_of_mem _ hj), ?_⟩) ih'
  have hids : ∀ id, id ∈ opIds env o.op → hget h id = hget h' id := fun id hid => by
   cases st with
   | true => rw [hk.1 rfl]
   | false => exact hk.2.1 rfl a _ (by simp) h2 id hid
  have hlook : ∀ x, x ∈ o.looksAt ops → env x = updO env oi.dst v x := updO_look (fun d hd => a3 d hd)
  refine ⟨o, ho, k2 _ h' _ hlook hids ?_⟩
  have eids : opIds (updO env oi.dst v) o.op = opIds env o.op := by
   exact opIds_same (ev_same hlook)
  simp only
  rw [eids, updO_comm (fun x hx => (fun he => a2 x he hx) : ∀ x, oi.dst = some x → o.dst ≠ some x)]
  exact hk.2.2
theorem fwm2_x {all : List Oper} {t : List (Nat × List Nat)} {A0 B0 : List (Nat × Bool)} {K : Env → List AObj → Prop} : ∀ (l : List (Nat × Bool)) (fps : List (Nat × List Nat)) (env : Env) (h : List AObj), fwm2 P T all t A0 B0 K l fps env h → fwm P T all t K (l ++ A0) fps env h
 | [], _, _, _, hp => hp.1
 | (i, st) :: r, fps, env, h, hp => by
  obtain ⟨o, ho, hp⟩ := hp
  refine ⟨o, ho, fs_mono (fun v h' hk => ?_) hp⟩
  cases st with
  | true => exact fwm2_x r _ _ _ hk
  | false => exact ⟨hk.1, fwm2_x r _ _ _ hk.2⟩
theorem fwm2_y {all : List Oper} {t : List (Nat × List Nat)} {A0 B0 : List (Nat × Bool)} {K : Env → List AObj → Prop} : ∀ (l : List (Nat × Bool)) (fps : List (Nat × List Nat)) (env : Env) (h : List AObj), fwm2 P T all t A0 B0 K l fps env h → fwm P T all t K (l ++ B0) fps env h
 | [], _, _, _, hp => hp.2
 | (i, st) :: r, fps, env, h, hp => by
  obtain ⟨o, ho, hp⟩ := hp
  refine ⟨o, ho, fs_mono (fun v h' hk => ?_) hp⟩
  cases st with
  | true => exact fwm2_y r _ _ _ hk
  | false => exact ⟨hk.1, fwm2_y r _ _ _ hk.2⟩
def fwmE (P : Program) (T : Tab) (all : List Oper) (t : List (Nat × List Nat)) (E : List (Nat × List Nat) → Env → List AObj → Prop) : List (Nat × Bool) → List (Nat × List Nat) → Env → List AObj → Prop
 | [], fps, env, h => E fps env h
 | (i, st) :: r, fps, env, h => ∃ o, all[i]? = some o ∧ fs P T all st o (fun v h' => match st with
   | true => fwmE P T all t E r ((i, opIds env o.op) :: fps) (updO env o.dst v) h'
   | false => (∀ j ids, (j, ids) ∈ fps → inL (lookA t i) j = false → ∀ id, id ∈ ids → hget h id = hget h' id) ∧ fwmE P T all t E r fps (updO env o.dst v) h') env h
def AntiE (E : List (Nat × List Nat) → Env → List AObj → Prop) : Prop := ∀ (fps fps' : List (Nat × List Nat)) (env : Env) (h : List AObj), (∀ x, x ∈ fps' → x ∈ fps) → E fps env h → E fps' env h
theorem fwmE_anti {all : List Oper} {t : List (Nat × List Nat)} {E : List (Nat × List Nat) → Env → List AObj → Prop} (hE : AntiE E) : ∀ (l : List (Nat × Bool)) (fps fps' : List (Nat × List Nat)) (env : Env) (h : List AObj), (∀ x, x ∈ fps' → x ∈ fps) → fwmE P T all t E l fps env h → fwmE P T all t E l fps' env h
 | [], fps, fps', _, _, hs, hp => hE fps fps' _ _ hs hp
 | (i, st) :: r, fps, fps', env, h, hs, hp => by
  obtain ⟨o, ho, hp⟩ := hp
  refine ⟨o, ho, fs_mono (fun v h' hk => ?_) hp⟩
  cases st with
  | true => exact fwmE_anti hE r _ _ _ _ (fun x hx => by simp only [List.mem_cons] at hx ⊢; exact hx.imp id (hs x)) hk
  | false => exact ⟨fun j ids hj => hk.1 j ids (hs _ hj), fwmE_anti hE r _ _ _ _ hs hk.2⟩
theorem fwmE_move {ops : Array Oper} {t : List (Nat × List Nat)} {E : List (Nat × List Nat) → Env → List AObj → Prop} (hE : AntiE E) {i : Nat} {st : Bool} {oi : Oper} (hoi : ops.toList[i]? = some oi) :
  ∀ (l1 l2 : List (Nat × Bool)) (fps : List (Nat × List Nat)) (env : Env) (h : List AObj), (∀ p, p ∈ l1 → p.2 = true ∧ inL (lookA t i) p.1 = false ∧ apartAt ops p.1 i = true) → fwmE P T ops.toList t E (l1 ++ (i, st) :: l2) fps env h →
   fs P T ops.toList st oi (fun v h' => (st = true → h' = h) ∧ (st = false → ∀ j ids, (j, ids) ∈ fps → inL (lookA t i) j = false → ∀ id, id ∈ ids → hget h id = hget h' id) ∧ fwmE P T ops.toList t E (l1 ++ l2) fps (updO env oi.dst v) h') env h
 | [], l2, fps, env, h, _, hp => by
  obtain ⟨o, ho, hp⟩ := hp
  rw [hoi] at ho
  injection ho with ho
  subst ho
  cases st with
  | true =>
   obtain ⟨v, h1, h2⟩ := fs_one hp
   exact h2 env h _ (fun _ _ => rfl) (fun _ _ => rfl) ⟨fun _ => rfl, fun hc => Bool.noConfusion hc, fwmE_anti hE _ _ _ _ _ (fun x hx => List.mem_cons_of_mem _ hx) h1⟩
  | false => exact fs_mono (fun v h' hk => ⟨fun hc => Bool.noConfusion hc, fun _ => hk.1, hk.2⟩) hp
 | (a, sa) :: l1, l2, fps, env, h, hall, hp => by
  obtain ⟨h1, h2, h3⟩ := hall (a, sa) (by simp)
  simp only at h1 h2 h3
  subst h1
  obtain ⟨o, ho, hp⟩ := hp
  have hap : Oper.apart ops o oi = true := by
   unfold apartAt at h3
   have e1 : ops[a]? = some o := by simpa using ho
   have e2 : ops[i]? = some oi := by simpa using hoi
   rw [e1, e2] at h3
   exact h3
  obtain ⟨a1, a2, a3⟩ := Oper.apart_spec hap
  obtain ⟨u, k1, k2⟩ := fs_one hp
  have ih := fwmE_move hE hoi l1 l2 _ _ h (fun p hp => hall p (List.mem_cons_of_mem _ hp)) k1
  have ih' := fs_env (env' := env) (fun x hx => (updO_look (fun d hd => a1 d hd) x hx).symm) ih
  refine fs_mono (fun v h' hk => ⟨hk.1, fun hc j ids hj => hk.2.1 hc j ids (List.mem_cons_of_mem _ hj), ?_⟩) ih'
  have hids : ∀ id, id ∈ opIds env o.op → hget h id = hget h' id := fun id hid => by
   cases st with
   | true => rw [hk.1 rfl]
   | false => exact hk.2.1 rfl a _ (by simp) h2 id hid
  have hlook : ∀ x, x ∈ o.looksAt ops → env x = updO env oi.dst v x := updO_look (fun d hd => a3 d hd)
  refine ⟨o, ho, k2 _ h' _ hlook hids ?_⟩
  have eids : opIds (updO env oi.dst v) o.op = opIds env o.op := by
   exact opIds_same (ev_same hlook)
  simp only
  rw [eids, updO_comm (fun x hx => (fun he => a2 x he hx) : ∀ x, oi.dst = some x → o.dst ≠ some x)]
  exact hk.2.2
theorem fwmE_app {all : List Oper} {t : List (Nat × List Nat)} {E : List (Nat × List Nat) → Env → List AObj → Prop} {l' : List (Nat × Bool)} : ∀ (l : List (Nat × Bool)) (fps : List (Nat × List Nat)) (env : Env) (h : List AObj), fwmE P T all t (fun fps env h => fwmE P T all t E l' fps env h) l fps env h → fwmE P T all t E (l ++ l') fps env h
 | [], _, _, _, hp => hp
 | (i, st) :: r, fps, env, h, hp => by
  obtain ⟨o, ho, hp⟩ := hp
  refine ⟨o, ho, fs_mono (fun v h' hk => ?_) hp⟩
  cases st with
  | true => exact fwmE_app r _ _ _ hk
  | false => exact ⟨hk.1, fwmE_app r _ _ _ hk.2⟩
theorem fwmE_imp {all : List Oper} {t : List (Nat × List Nat)} {E E' : List (Nat × List Nat) → Env → List AObj → Prop} (hi : ∀ fps env h, E fps env h → E' fps env h) : ∀ (l : List (Nat × Bool)) (fps : List (Nat × List Nat)) (env : Env) (h : List AObj), fwmE P T all t E l fps env h → fwmE P T all t E' l fps env h
 | [], _, _, _, hp => hi _ _ _ hp
 | (i, st) :: r, fps, env, h, hp => by
  obtain ⟨o, ho, hp⟩ := hp
  refine ⟨o, ho, fs_mono (fun v h' hk => ?_) hp⟩
  cases st with
  | true => exact fwmE_imp hi r _ _ _ hk
  | false => exact ⟨hk.1, fwmE_imp hi r _ _ _ hk.2⟩
theorem fwm_of_fwmE {all : List Oper} {t : List (Nat × List Nat)} {K : Env → List AObj → Prop} {l' : List (Nat × Bool)} : ∀ (l : List (Nat × Bool)) (fps : List (Nat × List Nat)) (env : Env) (h : List AObj), fwmE P T all t (fun fps env h => fwm P T all t K l' fps env h) l fps env h → fwm P T all t K (l ++ l') fps env h
 | [], _, _, _, hp => hp
 | (i, st) :: r, fps, env, h, hp => by
  obtain ⟨o, ho, hp⟩ := hp
  refine ⟨o, ho, fs_mono (fun v h' hk => ?_) hp⟩
  cases st with
  | true => exact fwm_of_fwmE r _ _ _ hk
  | false => exact ⟨hk.1, fwm_of_fwmE r _ _ _ hk.2⟩
theorem fwmE_of_fwE {all : List Oper} {t : List (Nat × List Nat)} {E E' : List (Nat × List Nat) → Env → List AObj → Prop} (hi : ∀ fps env h, E fps env h → E' fps env h) : ∀ (l : List (Nat × Bool)) (fps : List (Nat × List Nat)) (env : Env) (h : List AObj), fwE P T all t E l fps env h → fwmE P T all t E' l fps env h
 | [], _, _, _, hp => hi _ _ _ hp
 | (i, true) :: r, fps, env, h, hp => by
  have hp : (match all[i]? with
   | some o => fstep P T all true o (fun env' v h' => fwE P T all t E r ((i, opIds env' o.op) :: fps) (updO env' o.dst v) h') env h
   | none => False) := hp
  cases ho : all[i]? with
  | none => rw [ho] at hp; exact hp.elim
  | some o =>
   rw [ho] at hp
   exact ⟨o, ho, fs_mono (fun v h' hk => fwmE_of_fwE hi r _ _ _ hk) (fs_of_fstep hp)⟩
 | (i, false) :: r, fps, env, h, hp => by
  have hp : (match all[i]? with
   | some o => fstep P T all false o (fun env' v h' => keepAll (lookA t i) h h' (fwE P T all t E r fps (updO env' o.dst v) h') fps) env h
   | none => False) := hp
  cases ho : all[i]? with
  | none => rw [ho] at hp; exact hp.elim
  | some o =>
   rw [ho] at hp
   refine ⟨o, ho, fs_mono (fun v h' hk => ?_) (fs_of_fstep hp)⟩
   obtain ⟨h1, h2⟩ := keepAll_elim _ hk
   exact ⟨h1, fwmE_of_fwE hi r _ _ _ h2⟩
theorem antiE_fwm {all : List Oper} {t : List (Nat × List Nat)} {K : Env → List AObj → Prop} (l : List (Nat × Bool)) : AntiE (fun fps env h => fwm P T all t K l fps env h) := fun fps fps' env h hs hp => fwm_anti l fps fps' env h hs hp
theorem antiE_fwmE {all : List Oper} {t : List (Nat × List Nat)} {E : List (Nat × List Nat) → Env → List AObj → Prop} (hE : AntiE E) (l : List (Nat × Bool)) : AntiE (fun fps env h => fwmE P T all t E l fps env h) := fun fps fps' env h hs hp => fwmE_anti hE l fps fps' env h hs hp
theorem antiE_and {E E' : List (Nat × List Nat) → Env → List AObj → Prop} (h1 : AntiE E) (h2 : AntiE E') : AntiE (fun fps env h => E fps env h ∧ E' fps env h) := fun fps fps' env h hs hp => ⟨h1 fps fps' env h hs hp.1, h2 fps fps' env h hs hp.2⟩
end
end Go.Am
