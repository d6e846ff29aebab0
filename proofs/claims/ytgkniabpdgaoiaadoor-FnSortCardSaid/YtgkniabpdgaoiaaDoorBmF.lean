/- What an operation of the machine looks at: its operands' values, and the objects that they name. -/
import Derived.Test.YtgkniabpdgaoiaaDoorBm1
set_option linter.unusedVariables false
set_option linter.unusedSimpArgs false
namespace Go.Am
open Go Go.RowKit
def OpSame (env env' : Env) (op : Op) : Prop := ∀ x, x ∈ op.operands.toList → ev env x = ev env' x
def HpSame (h h' : List AObj) (env : Env) (op : Op) : Prop := ∀ x, x ∈ op.operands.toList → ∀ id, id ∈ idsOf (ev env x) → hget h id = hget h' id
theorem force_intro {v : PV} {K : PV → Prop} (h : K v) : force v K := by cases v <;> exact h
theorem pbuild_env {env env' : Env} {sz : Nat} {fl : List (Nat × Nat × Bool)} {K : List PV → Prop} : ∀ (l : List (Nat × Operand)) (acc : List PV), (∀ p, p ∈ l → ev env p.2 = ev env' p.2) → pbuild env sz fl K l acc = pbuild env' sz fl K l acc
 | [], acc, _ => rfl
 | (k, x) :: r, acc, hs => by
  have e := hs (k, x) (by simp)
  simp only at e
  unfold pbuild
  rw [e]
  split
  ·congr 1
   funext v
   rw [pbuild_env r _ (fun p hp => hs p (List.mem_cons_of_mem _ hp))]
  ·rfl
theorem pparts_env {env env' : Env} {sz : Nat} {K : List (List PV) → Prop} : ∀ (l : List (Nat × Operand)) (acc : List (List PV)), (∀ p, p ∈ l → ev env p.2 = ev env' p.2) → pparts env sz K l acc = pparts env' sz K l acc
 | [], acc, _ => rfl
 | (k, x) :: r, acc, hs => by
  have e := hs (k, x) (by simp)
  simp only at e
  unfold pparts
  rw [e]
  congr 1
  funext v
  rw [pparts_env r _ (fun p hp => hs p (List.mem_cons_of_mem _ hp))]
theorem map_ev {env env' : Env} {o : Option Operand} (hs : ∀ x, o = some x → ev env x = ev env' x) : o.map (ev env) = o.map (ev env') := by
 cases o with
 | none => rfl
 | some x => simp [hs x rfl]
theorem pcaps_env {env env' : Env} {K : List (Nat × Nat) → Prop} : ∀ (l : List Operand) (acc : List (Nat × Nat)), (∀ x, x ∈ l → ev env x = ev env' x) → pcaps env K l acc = pcaps env' K l acc
 | [], _, _ => rfl
 | x :: r, acc, hs => by
  unfold pcaps
  rw [hs x (by simp)]
  split
  ·exact pcaps_env r _ (fun y hy => hs y (List.mem_cons_of_mem _ hy))
  ·rfl
theorem spop_env {T : Tab} {env env' : Env} {h : List AObj} {K : PV → Prop} (op : Op) (hs : OpSame env env' op) : spop T op env h K = spop T op env' h K := by
 cases op with
 | move x => simp only [spop, hs x (by simp [Op.operands])]
 | assign x => simp only [spop, hs x (by simp [Op.operands])]
 | pick c a b => simp only [spop, hs c (by simp [Op.operands]), hs a (by simp [Op.operands]), hs b (by simp [Op.operands])]
 | binOp bo t x y t' => simp only [spop, hs x (by simp [Op.operands]), hs y (by simp [Op.operands])]
 | unOp u t x => simp only [spop, hs x (by simp [Op.operands])]
 | load t a => simp only [spop, hs a (by simp [Op.operands])]
 | convert s d x => simp only [spop, hs x (by simp [Op.operands])]
 | nilCheck x => simp only [spop, hs x (by simp [Op.operands])]
 | fieldAddr s x k => simp only [spop, hs x (by simp [Op.operands])]
 | field s x k => simp only [spop, hs x (by simp [Op.operands])]
 | build t parts =>
  have e : ∀ sz fl (K : List PV → Prop) z, pbuild env sz fl K parts.toList z = pbuild env' sz fl K parts.toList z := fun sz fl K z => pbuild_env _ _ (fun p hp => hs p.2 (by simp [Op.operands]; exact ⟨p.1, by simpa using hp⟩))
  simp only [spop, e]
 | indexAddr t x i => simp only [spop, hs x (by simp [Op.operands]), hs i (by simp [Op.operands])]
 | index t x i => simp only [spop, hs x (by simp [Op.operands]), hs i (by simp [Op.operands])]
 | extract x i => simp only [spop, hs x (by simp [Op.operands])]
 | lookup t x i ok => simp only [spop, hs x (by simp [Op.operands]), hs i (by simp [Op.operands])]
 | makeFunc fn first captured =>
  have e : ∀ (K : List (Nat × Nat) → Prop) acc, pcaps env K captured.toList acc = pcaps env' K captured.toList acc := fun K acc => pcaps_env _ _ (fun x hx => hs x (by simp [Op.operands]; right; simpa using hx))
  simp only [spop, e]
 | slice t x lo hi mx =>
  have e1 : lo.map (ev env) = lo.map (ev env') := map_ev (fun y hy => hs y (by subst hy; simp [Op.operands]))
  have e2 : hi.map (ev env) = hi.map (ev env') := map_ev (fun y hy => hs y (by subst hy; simp [Op.operands]))
  have e3 : mx.map (ev env) = mx.map (ev env') := map_ev (fun y hy => hs y (by subst hy; simp [Op.operands]))
  simp only [spop, hs x (by simp [Op.operands]), e1, e2, e3]
 | call c =>
  obtain ⟨callee, args, ts⟩ := c
  cases callee with
  | builtin b =>
   cases b with
   | len =>
    simp only [spop]
    split
    ·rename_i x t hx ht
     have e := hs x (by simp [Op.operands, Call.operands]; have : x ∈ args.toList := (by rw [hx]; simp); simpa using this)
     rw [e]
    ·rfl
   | _ => rfl
  | _ => rfl
 | _ => rfl
theorem spop_heap {T : Tab} {env : Env} {h h' : List AObj} {K : PV → Prop} (op : Op) (hs : HpSame h h' env op) : spop T op env h K = spop T op env h' K := by
 cases op with
 | load t a =>
  have q := hs a (by simp [Op.operands])
  simp only [spop]
  revert q
  generalize ev env a = v
  intro q
  cases v with
  | optr id g i o => simp only [pload, q id (by simp [idsOf])]
  | _ => rfl
 | convert s d x =>
  have q := hs x (by simp [Op.operands])
  simp only [spop]
  revert q
  generalize ev env x = v
  intro q
  have e : ∀ K, pbytes v h K = pbytes v h' K := fun K => by
   cases v with
   | own id g i o => simp only [pbytes, q id (by simp [idsOf])]
   | _ => rfl
  generalize T.get s = ti
  generalize T.get d = td
  cases ti with
  | slice a b c z => cases td with
   | str => simp only [e]
   | _ => rfl
  | int k => cases td <;> cases v <;> rfl
  | _ => rfl
 | nilCheck x =>
  have q := hs x (by simp [Op.operands])
  simp only [spop]
  revert q
  generalize ev env x = v
  intro q
  cases v with
  | optr id g i o => simp only [q id (by simp [idsOf])]
  | _ => rfl
 | fieldAddr s x k =>
  have q := hs x (by simp [Op.operands])
  simp only [spop]
  revert q
  generalize ev env x = v
  intro q
  cases v with
  | optr id g i o => simp only [q id (by simp [idsOf])]
  | _ => rfl
 | indexAddr t x i =>
  have q := hs x (by simp [Op.operands])
  simp only [spop]
  revert q
  generalize ev env x = v
  generalize ev env i = u
  generalize T.get t = ti
  intro q
  cases ti with
  | slice e sz b z => cases v with
   | own id g o l => cases u with
    | int k n => simp only [q id (by simp [idsOf])]
    | _ => rfl
   | slc a b c => cases u <;> rfl
   | _ => rfl
  | _ => rfl
 | lookup t x i ok =>
  have q := hs x (by simp [Op.operands])
  simp only [spop]
  revert q
  generalize ev env x = v
  generalize T.get t = ti
  intro q
  cases ti with
  | map k e z => cases v with
   | omp id => simp only [q id (by simp [idsOf])]
   | _ => rfl
  | _ => cases v <;> rfl
 | slice t x lo hi mx =>
  have q := hs x (by simp [Op.operands])
  simp only [spop]
  revert q
  generalize ev env x = v
  generalize T.get t = ti
  intro q
  cases ti with
  | slice e sz b z => cases v with
   | own id g o l => simp only [q id (by simp [idsOf])]
   | _ => rfl
  | str => cases v <;> rfl
  | _ => rfl
 | call c =>
  obtain ⟨callee, args, ts⟩ := c
  cases callee with
  | builtin b =>
   cases b with
   | len =>
    simp only [spop]
    split
    ·rename_i x t hx ht
     have q := hs x (by simp [Op.operands, Call.operands]; have : x ∈ args.toList := (by rw [hx]; simp); simpa using this)
     revert q
     generalize ev env x = v
     generalize T.get t = ti
     intro q
     cases ti with
     | slice e sz b z => cases v with
      | own id g o l => simp only [q id (by simp [idsOf])]
      | _ => rfl
     | map k e z => cases v with
      | omp id => simp only [q id (by simp [idsOf])]
      | _ => rfl
     | str => cases v <;> rfl
     | _ => rfl
    ·rfl
   | _ => rfl
  | _ => rfl
 | _ => rfl
def One (F : (PV → Prop) → Prop) : Prop := ∀ K, F K → ∃ v, K v ∧ ∀ K', K' v → F K'
theorem one_force (v : PV) : One (force v) := fun K h => ⟨v, force_elim h, fun K' hk => force_intro hk⟩
theorem one_pure (v : PV) : One (fun K => K v) := fun K h => ⟨v, h, fun _ hk => hk⟩
theorem one_and {A : Prop} {F : (PV → Prop) → Prop} (h : One F) : One (fun K => A ∧ F K) := fun K hk =>
 let ⟨v, h1, h2⟩ := h K hk.2
 ⟨v, h1, fun K' hk' => ⟨hk.1, h2 K' hk'⟩⟩
theorem one_guard {b : Bool} {F : (PV → Prop) → Prop} (h : One F) : One (fun K => guardB b (F K)) := fun K hk => by
 cases b with
 | true => exact h K hk
 | false => exact hk.elim
theorem one_ex {α : Type} {A : α → Prop} {F : α → (PV → Prop) → Prop} (h : ∀ c, One (F c)) : One (fun K => ∃ c, A c ∧ F c K) := fun K ⟨c, ha, hk⟩ =>
 let ⟨v, h1, h2⟩ := h c K hk
 ⟨v, h1, fun K' hk' => ⟨c, ha, h2 K' hk'⟩⟩
theorem one_slcK {F : (PV → Prop) → Prop} (h : One F) : One (fun K => F (slcK K)) := fun K hk => by
 obtain ⟨v, h1, h2⟩ := h _ hk
 cases v with
 | slc sz n f =>
  obtain ⟨n', f', e1, e2, hK⟩ := h1
  exact ⟨.slc sz n' f', hK, fun K' hk' => h2 _ ⟨n', f', e1, e2, hk'⟩⟩
 | own id g off n =>
  obtain ⟨o', n', e1, e2, hK⟩ := h1
  exact ⟨.own id g o' n', hK, fun K' hk' => h2 _ ⟨o', n', e1, e2, hk'⟩⟩
 | str s =>
  obtain ⟨s', e1, hK⟩ := h1
  exact ⟨.str s', hK, fun K' hk' => h2 _ ⟨s', e1, hk'⟩⟩
 | _ => exact ⟨_, h1, fun K' hk' => h2 _ hk'⟩
theorem ptake_acc {K : List PV → Prop} : ∀ (n : Nat) (l acc : List PV), n ≤ l.length → K (acc.reverse ++ l.take n) → ptake K n l acc
 | 0, l, acc, _, h => by unfold ptake; simpa using h
 | n + 1, [], acc, hl, _ => by simp at hl
 | n + 1, c :: r, acc, hl, h => force_intro (ptake_acc n r (c :: acc) (by simp at hl; omega) (by simpa using h))
theorem one_readAs (T : Tab) (t : Nat) (cells : List PV) : One (readAs T t cells) := fun K hk => by
 unfold readAs at hk ⊢
 generalize T.get t = q1 at hk ⊢
 cases q1 with
 | struct sz fl z =>
  obtain ⟨h1, h2⟩ := ptake_elim _ _ _ hk
  exact ⟨_, h2, fun K' hk' => ptake_acc _ _ _ h1 hk'⟩
 | other => exact hk.elim
 | _ =>
  cases cells with
  | nil => exact hk.elim
  | cons c r => exact one_force c K hk
theorem one_pload (T : Tab) (t : Nat) (a : PV) (h : List AObj) : One (pload T t a h) := fun K hk => by
 cases a with
 | pptr cells => exact one_readAs T t cells K hk
 | optr id gen i off =>
  simp only [pload] at hk ⊢
  generalize hget h id = q2 at hk ⊢
  cases q2 with
  | row g sz n e f => exact one_and (one_ex (fun c => one_readAs T t _)) K hk
  | dead => exact hk.elim
 | _ => exact hk.elim
theorem one_pbin (ti : TI) (bo : BinOp) (x y : PV) : One (pbin ti bo x y) := fun K hk => by
 cases x with
 | int k a => cases y with
  | int k' b =>
   cases bo with
   | shl => exact one_and (one_pure _) K hk
   | shr => exact one_and (one_pure _) K hk
   | quo => exact one_guard (one_and (one_pure _)) K hk
   | rem => exact one_guard (one_and (one_pure _)) K hk
   | _ => exact one_guard (one_pure _) K hk
  | _ => exact hk.elim
 | bool a => cases y with
  | bool b => cases ti with
   | bool => cases bo with
    | eql => exact one_pure _ K hk
    | neq => exact one_pure _ K hk
    | _ => exact hk.elim
   | _ => exact hk.elim
  | _ => exact hk.elim
 | str a => cases y with
  | str b => cases bo with
   | add => exact one_and (one_ex fun c => one_pure _) K hk
   | eql => exact one_pure _ K hk
   | neq => exact one_pure _ K hk
   | lss => exact one_pure _ K hk
   | leq => exact one_pure _ K hk
   | gtr => exact one_pure _ K hk
   | geq => exact one_pure _ K hk
   | _ => exact hk.elim
  | _ => exact hk.elim
 | agg xs => cases y with
  | agg ys => cases ti with
   | struct sz fl z =>
    simp only [pbin] at hk ⊢
    generalize flatZ z = fz at hk ⊢
    cases fz with
    | false => exact hk.elim
    | true =>
     simp only [guardB] at hk ⊢
     generalize eqC z xs ys = q at hk ⊢
     cases q with
     | none => exact hk.elim
     | some b => cases bo <;> first | exact hk.elim | exact one_ex (fun c => one_pure _) K hk
   | _ => exact hk.elim
  | _ => exact hk.elim
 | _ => exact hk.elim
theorem one_pslice (x : PV) (lo hi : Option PV) : One (pslice x lo hi) := fun K hk => by
 cases x with
 | slc sz n f =>
  cases lo with
  | none => cases hi with
   | none => exact one_pure _ K hk
   | some u => cases u <;> first | exact hk.elim | exact one_and (one_pure _) K hk
  | some l => cases l with
   | int k l => cases hi with
    | none => exact one_and (one_pure _) K hk
    | some u => cases u <;> first | exact hk.elim | exact one_and (one_pure _) K hk
   | _ => cases hi <;> exact hk.elim
 | own id gen off len =>
  cases lo with
  | none => cases hi with
   | none => exact one_pure _ K hk
   | some u => cases u <;> first | exact hk.elim | exact one_and (one_pure _) K hk
  | some l => cases l with
   | int k l => cases hi with
    | none => exact one_and (one_pure _) K hk
    | some u => cases u <;> first | exact hk.elim | exact one_and (one_pure _) K hk
   | _ => cases hi <;> exact hk.elim
 | str s =>
  cases lo with
  | none => cases hi with
   | none => exact one_pure _ K hk
   | some u => cases u <;> first | exact hk.elim | exact one_and (one_pure _) K hk
  | some l => cases l with
   | int k l => cases hi with
    | none => exact one_and (one_pure _) K hk
    | some u => cases u <;> first | exact hk.elim | exact one_and (one_pure _) K hk
   | _ => cases hi <;> exact hk.elim
 | _ => exact hk.elim
theorem one_pbytes (v : PV) (h : List AObj) : One (fun K => pbytes v h (fun s => K (.str s))) := fun K hk => by
 cases v with
 | nils => exact one_pure _ K hk
 | slc sz n f => exact one_guard (one_ex fun s => one_and (one_pure _)) K hk
 | own id gen off n =>
  simp only [pbytes] at hk ⊢
  generalize hget h id = q3 at hk ⊢
  cases q3 with
  | row g sz n e f => exact one_and (one_guard (one_ex fun s => one_and (one_pure _))) K hk
  | dead => exact hk.elim
 | _ => exact hk.elim
theorem one_pbuild (env : Env) (sz : Nat) (fl : List (Nat × Nat × Bool)) : ∀ (l : List (Nat × Operand)) (acc : List PV), One (fun K => pbuild env sz fl (fun cs => K (.agg cs)) l acc)
 | [], acc => one_pure _
 | (k, x) :: r, acc => fun K hk => by
  unfold pbuild at hk ⊢
  generalize fl[k]? = q4 at hk ⊢
  cases q4 with
  | none => exact hk.elim
  | some p =>
   obtain ⟨o, size, b⟩ := p
   have h1 := force_elim hk
   obtain ⟨v, h2, h3⟩ := one_guard (one_pbuild env sz fl r _) K h1
   exact ⟨v, h2, fun K' hk' => force_intro (h3 K' hk')⟩
theorem one_pcaps {env : Env} (f : Nat) : ∀ (l : List Operand) (acc : List (Nat × Nat)), One (fun K => pcaps env (fun caps => K (.clo f caps)) l acc)
 | [], _ => one_pure _
 | x :: r, acc => fun K hk => by
  unfold pcaps at hk ⊢
  generalize ev env x = v at hk ⊢
  split at hk
  ·exact one_pcaps f r _ K hk
  ·exact hk.elim
theorem one_look (ti : TI) (n : Nat) (f : Nat → List PV) (kv zv : PV) (ok : Bool) : One (fun K => guardB (keyEq ti kv kv).isSome (∃ r b, MLook ti f n kv zv r b ∧ match ok with
  | true => K (.tup [r, .bool b])
  | false => force r K)) := one_guard (fun K hk => by
 obtain ⟨r, b, hm, hK⟩ := hk
 cases ok with
 | true => exact ⟨_, hK, fun K' hk' => ⟨r, b, hm, hk'⟩⟩
 | false => exact ⟨_, force_elim hK, fun K' hk' => ⟨r, b, hm, force_intro hk'⟩⟩)
theorem one_spop (T : Tab) (op : Op) (env : Env) (h : List AObj) : One (spop T op env h) := fun K hk => by
 cases op with
 | move x => exact one_force _ K hk
 | assign x => exact one_force _ K hk
 | pick c a b =>
  simp only [spop] at hk ⊢
  generalize ev env c = v at hk ⊢
  cases v with
  | bool t =>
   obtain ⟨h1, h2⟩ := splitB_elim hk
   cases t with
   | true => exact ⟨_, force_elim (h1 rfl), fun K' hk' => .mk (fun _ => force_intro hk') (fun h => by cases h)⟩
   | false => exact ⟨_, force_elim (h2 rfl), fun K' hk' => .mk (fun h => by cases h) (fun _ => force_intro hk')⟩
  | _ => exact hk.elim
 | binOp bo t x y t' => exact one_pbin _ _ _ _ K hk
 | unOp u t x =>
  simp only [spop] at hk ⊢
  generalize ev env x = v at hk ⊢
  cases u <;> cases v <;> first | exact hk.elim | exact one_pure _ K hk
 | load t a => exact one_pload _ _ _ _ K hk
 | convert s d x =>
  simp only [spop] at hk ⊢
  generalize ev env x = v at hk ⊢
  generalize T.get s = ti at hk ⊢
  generalize T.get d = td at hk ⊢
  cases ti with
  | int k => cases td with
   | int k' => cases v <;> first | exact hk.elim | exact one_pure _ K hk
   | _ => cases v <;> exact hk.elim
  | slice e sz b z => cases td with
   | str =>
    simp only at hk ⊢
    generalize T.get e = q5 at hk ⊢
    cases q5 with
    | int k => cases k <;> first | exact hk.elim | exact one_pbytes _ _ K hk
    | _ => exact hk.elim
   | _ => cases v <;> exact hk.elim
  | _ => cases td <;> cases v <;> exact hk.elim
 | nilCheck x =>
  simp only [spop] at hk ⊢
  generalize ev env x = v at hk ⊢
  cases v with
  | pptr cs => exact one_pure _ K hk
  | optr id gen i off =>
   simp only at hk ⊢
   generalize hget h id = q6 at hk ⊢
   cases q6 with
   | row g sz n e f => exact one_and (one_pure _) K hk
   | dead => exact hk.elim
  | _ => exact hk.elim
 | fieldAddr s x k =>
  simp only [spop] at hk ⊢
  generalize ev env x = v at hk ⊢
  generalize T.get s = q7 at hk ⊢
  cases q7 with
  | struct sz fl z =>
   simp only at hk ⊢
   generalize fl[k]? = q8 at hk ⊢
   cases q8 with
   | none => exact hk.elim
   | some p =>
    obtain ⟨o, a, b⟩ := p
    cases v with
    | pptr cs => exact one_pure _ K hk
    | optr id gen i off =>
     simp only at hk ⊢
     generalize hget h id = q9 at hk ⊢
     cases q9 with
     | row g sz n e f => exact one_and (one_pure _) K hk
     | dead => exact hk.elim
    | _ => exact hk.elim
  | _ => exact hk.elim
 | field s x k =>
  simp only [spop] at hk ⊢
  generalize ev env x = v at hk ⊢
  generalize T.get s = q7 at hk ⊢
  cases q7 with
  | struct sz fl z =>
   simp only at hk ⊢
   generalize fl[k]? = q8 at hk ⊢
   cases q8 with
   | none => exact hk.elim
   | some p =>
    obtain ⟨o, a, b⟩ := p
    cases v with
    | agg cs =>
     cases b with
     | true =>
      obtain ⟨h1, h2⟩ := ptake_elim _ _ _ hk
      exact ⟨_, h2, fun K' hk' => ptake_acc _ _ _ h1 hk'⟩
     | false =>
      simp only at hk ⊢
      generalize cs.drop o = q9 at hk ⊢
      cases q9 with
      | nil => exact hk.elim
      | cons c r => exact one_force c K hk
    | _ => exact hk.elim
  | _ => exact hk.elim
 | build t parts =>
  simp only [spop] at hk ⊢
  generalize T.get t = q10 at hk ⊢
  cases q10 with
  | struct sz fl z => exact one_pbuild _ _ _ _ _ K hk
  | _ => exact hk.elim
 | indexAddr t x i =>
  simp only [spop] at hk ⊢
  generalize ev env x = v at hk ⊢
  generalize ev env i = u at hk ⊢
  generalize T.get t = q11 at hk ⊢
  cases q11 with
  | slice e sz b z => cases v with
   | slc sz' n f => cases u <;> first | exact hk.elim | exact one_guard (one_and (one_ex fun c => one_pure _)) K hk
   | own id gen off len => cases u with
    | int k n =>
     simp only at hk ⊢
     generalize hget h id = q12 at hk ⊢
     cases q12 with
     | row g sz n e f => exact one_and (one_guard (one_and (one_ex fun j => one_pure _))) K hk
     | dead => exact hk.elim
    | _ => exact hk.elim
   | _ => cases u <;> exact hk.elim
  | _ => cases v <;> cases u <;> exact hk.elim
 | index t x i =>
  simp only [spop] at hk ⊢
  generalize ev env x = v at hk ⊢
  generalize ev env i = u at hk ⊢
  generalize T.get t = q13 at hk ⊢
  cases q13 with
  | str => cases v with
   | str s => cases u <;> first | exact hk.elim | exact one_and (one_ex fun c => one_pure _) K hk
   | _ => cases u <;> exact hk.elim
  | _ => cases v <;> cases u <;> exact hk.elim
 | extract x i =>
  simp only [spop] at hk ⊢
  generalize ev env x = v at hk ⊢
  cases v with
  | tup vs =>
   simp only at hk ⊢
   generalize vs[i]? = q14 at hk ⊢
   cases q14 with
   | none => exact hk.elim
   | some u => exact one_force _ K hk
  | _ => exact hk.elim
 | makeFunc fn first captured =>
  cases fn with
  | func f => exact one_guard (one_pcaps f _ _) K hk
  | _ => exact hk.elim
 | lookup t x i ok =>
  simp only [spop] at hk ⊢
  generalize ev env x = v at hk ⊢
  generalize T.get t = q19 at hk ⊢
  cases q19 with
  | map kt et zv => cases v with
   | omp id =>
    simp only at hk ⊢
    generalize hget h id = q20 at hk ⊢
    cases q20 with
    | row g sz n e f =>
     obtain ⟨u, h2, h3⟩ := one_look (T.get kt) n f (ev env i) zv ok K (force_elim hk)
     exact ⟨u, h2, fun K' hk' => force_intro (h3 K' hk')⟩
    | dead => exact hk.elim
   | _ => exact hk.elim
  | _ => cases v <;> exact hk.elim
 | slice t x lo hi mx =>
  simp only [spop] at hk ⊢
  generalize ev env x = v at hk ⊢
  generalize T.get t = q15 at hk ⊢
  cases q15 with
  | slice e sz b z => cases v with
   | slc sz' n f => exact one_guard (one_and (one_slcK (one_pslice _ _ _))) K hk
   | own id gen off len =>
    simp only at hk ⊢
    generalize hget h id = q16 at hk ⊢
    cases q16 with
    | row g sz n e f => exact one_and (one_guard (one_and (one_slcK (one_pslice _ _ _)))) K hk
    | dead => exact hk.elim
   | _ => exact hk.elim
  | str => cases v with
   | str s => exact one_guard (one_slcK (one_pslice _ _ _)) K hk
   | _ => exact hk.elim
  | _ => cases v <;> exact hk.elim
 | call c =>
  obtain ⟨callee, args, ts⟩ := c
  cases callee with
  | builtin b =>
   cases b with
   | len =>
    simp only [spop] at hk ⊢
    split at hk
    ·rename_i x t hx ht
     generalize ev env x = v at hk ⊢
     generalize T.get t = q17 at hk ⊢
     cases q17 with
     | slice e sz b z => cases v with
      | slc a n f => exact one_pure _ K hk
      | nils => exact one_pure _ K hk
      | own id gen off n =>
       simp only at hk ⊢
       generalize hget h id = q18 at hk ⊢
       cases q18 with
       | row g sz n e f => exact one_and (one_pure _) K hk
       | dead => exact hk.elim
      | _ => exact hk.elim
     | str => cases v <;> first | exact hk.elim | exact one_pure _ K hk
     | map kt et zv => cases v with
      | omp id =>
       simp only at hk ⊢
       generalize hget h id = q18 at hk ⊢
       cases q18 with
       | row g sz n e f => exact one_pure _ K hk
       | dead => exact hk.elim
      | _ => exact hk.elim
     | _ => cases v <;> exact hk.elim
    ·exact hk.elim
   | _ => exact hk.elim
  | _ => exact hk.elim
 | _ => exact hk.elim
theorem force_mono {v : PV} {K K' : PV → Prop} (hk : ∀ v, K v → K' v) (h : force v K) : force v K' := force_intro (hk _ (force_elim h))
theorem guardB_mono {b : Bool} {K K' : Prop} (hk : K → K') (h : guardB b K) : guardB b K' := by cases b; exact h; exact hk h
theorem pparts_mono {env : Env} {sz : Nat} {K K' : List (List PV) → Prop} (hk : ∀ l, K l → K' l) : ∀ (l : List (Nat × Operand)) (acc : List (List PV)), pparts env sz K l acc → pparts env sz K' l acc
 | [], acc, h => hk _ h
 | (k, x) :: r, acc, h => force_mono (fun v h => guardB_mono (pparts_mono hk r _) h) h
theorem psrc_mono {x : PV} {h : List AObj} {sz : Nat} {K K' : Nat → (Nat → List PV) → Prop} (hk : ∀ n g, K n g → K' n g) (hp : psrc x h sz K) : psrc x h sz K' := by
 cases x with
 | nils => exact hk _ _ hp
 | slc sz' m g => exact guardB_mono (hk _ _) hp
 | own id gen off m =>
  simp only [psrc] at hp ⊢
  generalize hget h id = q at hp ⊢
  cases q with
  | row g sz' n e f => exact ⟨hp.1, guardB_mono (hk _ _) hp.2⟩
  | dead => exact hp
 | str s => exact guardB_mono (hk _ _) hp
 | _ => exact hp
theorem pappend_mono {e sz bytes : Nat} {s x : PV} {h : List AObj} {K K' : PV → List AObj → Prop} (hk : ∀ v h', K v h' → K' v h') (hp : pappend e sz bytes s x h K) : pappend e sz bytes s x h K' := by
 cases s with
 | nils =>
  simp only [pappend] at hp ⊢
  exact psrc_mono (fun m g ⟨h, n', f', e1, e2, h2⟩ => ⟨h, n', f', e1, e2, hk _ _ h2⟩) hp
 | own id gen off len =>
  simp only [pappend] at hp ⊢
  generalize hget h id = q at hp ⊢
  cases q with
  | row g sz' n e' f => exact ⟨hp.1, guardB_mono (psrc_mono (fun m g ⟨h, n', f', e1, e2, h2⟩ => ⟨h, n', f', e1, e2, hk _ _ h2⟩)) hp.2⟩
  | dead => exact hp
 | _ => exact hp
theorem pcopy_mono {e sz : Nat} {s x : PV} {h : List AObj} {K K' : PV → List AObj → Prop} (hk : ∀ v h', K v h' → K' v h') (hp : pcopy e sz s x h K) : pcopy e sz s x h K' := by
 cases s with
 | own id gen off len =>
  simp only [pcopy] at hp ⊢
  generalize hget h id = q at hp ⊢
  cases q with
  | row g sz' n e' f => exact ⟨hp.1, guardB_mono (psrc_mono (fun m g ⟨h, f', e2, h2⟩ => ⟨h, f', e2, hk _ _ h2⟩)) hp.2⟩
  | dead => exact hp
 | _ => exact hp
theorem spop_mono {T : Tab} {op : Op} {env : Env} {h : List AObj} {K K' : PV → Prop} (hk : ∀ v, K v → K' v) (hp : spop T op env h K) : spop T op env h K' :=
 let ⟨v, h1, h2⟩ := one_spop T op env h K hp
 h2 K' (hk v h1)
theorem pop_mono {P : Program} {T : Tab} {env : Env} {h : List AObj} {K K' : PV → List AObj → Prop} (hk : ∀ v h', K v h' → K' v h') (op : Op) (hp : pop P T op env h K) : pop P T op env h K' := by
 cases op with
 | store t a x =>
  simp only [pop] at hp ⊢
  generalize ev env a = v at hp ⊢
  cases v with
  | optr id gen i off =>
   simp only at hp ⊢
   generalize hget h id = q at hp ⊢
   cases q with
   | row g sz n e f => exact ⟨hp.1, force_mono (fun v h => guardB_mono (fun ⟨c, f', e1, e2, h2⟩ => ⟨c, f', e1, e2, hk _ _ h2⟩) h) hp.2⟩
   | dead => exact hp
  | _ => exact hp
 | box t x =>
  simp only [pop] at hp ⊢
  exact force_mono (fun v h => guardB_mono (hk _ _) h) hp
 | alloc t =>
  simp only [pop] at hp ⊢
  generalize tyZero (T.get t) = q at hp ⊢
  cases q <;> first | exact hp | exact hk _ _ hp
 | makeSlice t l c =>
  simp only [pop] at hp ⊢
  generalize T.get t = q at hp ⊢
  generalize ev env l = u at hp ⊢
  generalize ev env c = v at hp ⊢
  cases q with
  | slice e sz b z => cases u with
   | int k n => cases v with
    | int k' m => (obtain ⟨h, n', f', e1, e2, h2⟩ := hp; exact ⟨h, n', f', e1, e2, hk _ _ h2⟩)
    | _ => exact hp
   | _ => cases v <;> exact hp
  | _ => cases u <;> cases v <;> exact hp
 | buildSlice t len parts =>
  simp only [pop] at hp ⊢
  generalize T.get t = q at hp ⊢
  cases q with
  | slice e sz b z => exact guardB_mono (pparts_mono (fun _ ⟨f', e1, h2⟩ => ⟨f', e1, hk _ _ h2⟩) _ _) hp
  | _ => exact hp
 | convert s d x =>
  simp only [pop] at hp ⊢
  split at hp
  ·split at hp
   ·exact let ⟨f', e1, h2⟩ := hp; ⟨f', e1, hk _ _ h2⟩
   ·exact hp
  ·exact spop_mono (fun v => hk v h) hp
 | binOp bo t x y ty =>
  simp only [pop] at hp ⊢
  split at hp
  ·exact ⟨fun h0 => hk _ _ (hp.1 h0), hk _ _ hp.2⟩
  ·exact spop_mono (fun v => hk v h) hp
 | makeMap t r =>
  cases r with
  | none =>
   simp only [pop] at hp ⊢
   generalize T.get t = q at hp ⊢
   cases q with
   | map k e z => exact let ⟨f', h2⟩ := hp; ⟨f', hk _ _ h2⟩
   | _ => exact hp
  | some r => exact hp
 | mapUpdate t m k x =>
  simp only [pop] at hp ⊢
  generalize T.get t = q at hp ⊢
  generalize ev env m = v at hp ⊢
  cases q with
  | map kt et z => cases v with
   | omp id =>
    simp only at hp ⊢
    generalize hget h id = q2 at hp ⊢
    cases q2 with
    | row g sz n e f => exact force_mono (fun kv h => force_mono (fun vv h => guardB_mono (fun ⟨n', f', e1, h2⟩ => ⟨n', f', e1, hk _ _ h2⟩) h) h) hp
    | dead => exact hp
   | _ => exact hp
  | _ => cases v <;> exact hp
 | call c =>
  obtain ⟨callee, args, ts⟩ := c
  cases callee with
  | value fo =>
   simp only [pop] at hp ⊢
   generalize ev env fo = v at hp ⊢
   cases v with
   | fn f => exact guardB_mono (fun ⟨R, h1, h2⟩ => ⟨R, h1, fun res h' hr => hk _ _ (h2 res h' hr)⟩) hp
   | clo f caps => exact guardB_mono (fun ⟨R, h1, h2⟩ => ⟨R, h1, fun res h' hr => hk _ _ (h2 res h' hr)⟩) hp
   | _ => exact hp
  | builtin b =>
   cases b with
   | append =>
    simp only [pop] at hp ⊢
    split at hp
    ·rename_i s x t tx ha ht
     generalize T.get t = q at hp ⊢
     generalize T.get tx = qx at hp ⊢
     cases q with
     | slice e sz b z => cases qx <;> first | exact hp | exact pappend_mono hk hp
     | _ => cases qx <;> exact hp
    ·exact hp
   | copy =>
    simp only [pop] at hp ⊢
    split at hp
    ·rename_i s x t tx ha ht
     generalize T.get t = q at hp ⊢
     generalize T.get tx = qx at hp ⊢
     cases q with
     | slice e sz b z => cases qx <;> first | exact hp | exact pcopy_mono hk hp
     | _ => cases qx <;> exact hp
    ·exact hp
   | len => (simp only [pop] at hp ⊢; exact spop_mono (fun v => hk v h) hp)
   | _ => exact hp
  | _ => exact hp
 | _ => (simp only [pop] at hp ⊢; exact spop_mono (fun v => hk v h) hp)
theorem args_env {env env' : Env} {args : Array Operand} (hs : ∀ x, x ∈ args.toList → ev env x = ev env' x) : args.toList.map (ev env) = args.toList.map (ev env') :=
 List.map_congr_left hs
theorem all_env {env env' : Env} {l : List Operand} (hs : ∀ x, x ∈ l → ev env x = ev env' x) : l.all (fun x => notTup (ev env x)) = l.all (fun x => notTup (ev env' x)) := by
 induction l with
 | nil => rfl
 | cons a r ih => simp only [List.all_cons, hs a (by simp), ih (fun x hx => hs x (List.mem_cons_of_mem _ hx))]
theorem pop_env {P : Program} {T : Tab} {env env' : Env} {h : List AObj} {K : PV → List AObj → Prop} (op : Op) (hs : OpSame env env' op) : pop P T op env h K = pop P T op env' h K := by
 cases op with
 | store t a x => simp only [pop, hs a (by simp [Op.operands]), hs x (by simp [Op.operands])]
 | box t x => simp only [pop, hs x (by simp [Op.operands])]
 | alloc t => rfl
 | makeSlice t l c => simp only [pop, hs l (by simp [Op.operands]), hs c (by simp [Op.operands])]
 | buildSlice t len parts =>
  have e : ∀ sz (K : List (List PV) → Prop) z, pparts env sz K parts.toList z = pparts env' sz K parts.toList z := fun sz K z => pparts_env _ _ (fun p hp => hs p.2 (by simp [Op.operands]; exact ⟨p.1, by simpa using hp⟩))
  simp only [pop, e]
 | convert s d x => simp only [pop, spop, hs x (by simp [Op.operands])]
 | binOp bo t x y ty => simp only [pop, spop, hs x (by simp [Op.operands]), hs y (by simp [Op.operands])]
 | makeMap t r => cases r <;> rfl
 | mapUpdate t m k x => simp only [pop, hs m (by simp [Op.operands]), hs k (by simp [Op.operands]), hs x (by simp [Op.operands])]
 | call c =>
  obtain ⟨callee, args, ts⟩ := c
  cases callee with
  | value fo =>
   have e0 := hs fo (by simp [Op.operands, Call.operands])
   have e1 : ∀ x, x ∈ args.toList → ev env x = ev env' x := fun x hx => hs x (by simp [Op.operands, Call.operands]; right; simpa using hx)
   simp only [pop, e0, args_env e1, all_env e1]
  | builtin b =>
   have e1 : ∀ x, x ∈ args.toList → ev env x = ev env' x := fun x hx => hs x (by simp [Op.operands, Call.operands]; simpa using hx)
   cases b with
   | append =>
    simp only [pop]
    split
    ·rename_i s x t tx ha ht
     rw [e1 s (by rw [ha]; simp), e1 x (by rw [ha]; simp)]
    ·rfl
   | copy =>
    simp only [pop]
    split
    ·rename_i s x t tx ha ht
     rw [e1 s (by rw [ha]; simp), e1 x (by rw [ha]; simp)]
    ·rfl
   | len => (simp only [pop]; exact spop_env _ hs)
   | _ => rfl
  | _ => rfl
 | _ => (simp only [pop]; exact spop_env _ hs)
end Go.Am
