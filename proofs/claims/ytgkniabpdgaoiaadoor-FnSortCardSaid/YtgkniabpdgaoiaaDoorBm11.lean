/- A function's contract out of its body's condition; contracts over larger heaps. -/
import Derived.Test.YtgkniabpdgaoiaaDoorBm10
set_option linter.unusedVariables false
set_option linter.unusedSimpArgs false
namespace Go.Am
open Go Go.RowKit
section
variable {P : Program} {T : Tab}
def valOf : List Value → Value
 | [v] => v
 | us => .tuple us.toArray
theorem results_run {fn : Func} {tmps : Array Value} {us : List Value} {w : World}
  (hm : (fn.results.toList.mapM (fun | .tmp t => pure (tmps.getD t undef) | .cell ad t => (do loadVar t (← asAddr (tmps.getD ad undef))) : ResultVar → Sem Value)).run P w = .ok us w) :
  (results fn tmps).run P w = .ok (valOf us) w := by
 unfold results
 rw [Array.mapM_eq_mapM_toList]
 simp only [map_eq_pure_bind, bind_assoc, pure_bind, Sem.run_bind]
 have key : ∀ X : Result (List Value), X = .ok us w → (X.andThen fun a w' => Sem.run P (pure (if h : a.toArray.size = 1 then a.toArray[0] else Value.tuple a.toArray)) w') = .ok (valOf us) w := by
  rintro _ rfl
  simp only [Result.andThen_ok, Sem.run_pure]
  congr 1
  match us with
  | [] => rfl
  | [v] => rfl
  | v :: u :: r => simp [valOf]
 exact key _ hm
theorem ACall.of_vc (hT : TabOk P T) (hmix : P.follows .mixedOrders = true) {f : FuncId} {fn : Func} {c : Code} (hf : P.funcs[f]? = some fn) (hb : fn.body = some c) (hname : (fn.name == "runtime.NumGoroutine") = false)
  (args : List PV) (h : List AObj) (R : PV → List AObj → Prop) (hn : Nat.ble args.length fn.ntmps = true) (hok : codeOk fn.ntmps c = true)
  (hv : vc P T h.length c (RetQ T fn.results.toList h.length R) (entryEnv args) h) : ACall P f args h R := by
 refine ⟨⟨fn, c, hf, hb, hname⟩, fun w vs μ S hH hM hsz hargs => ?_⟩
 have hn := Nat.le_of_ble_eq_true hn
 let C : Start := ⟨μ, h, S, w, fn.ntmps⟩
 have hs : Sim C μ h S (entryEnv args) ⟨vs ++ Array.replicate (fn.ntmps - vs.size) undef, []⟩ w := by
  refine ⟨⟨hH, hM⟩, Fr.refl, fun t => ?_, by simp; show _ = fn.ntmps; omega, fun t ht => ?_, rfl⟩
  ·unfold entryEnv
   rw [List.getD_eq_getElem?_getD]
   cases ha : args[t]? with
   | none => trivial
   | some pv =>
    obtain ⟨v, h1, h2⟩ := hargs t pv ha
    have hlt : t < vs.size := (Array.getElem?_eq_some_iff.1 h1).1
    have : (vs ++ Array.replicate (fn.ntmps - vs.size) undef).getD t undef = v := by
     rw [Array.getD_eq_getD_getElem?, Array.getElem?_append_left hlt, h1]; rfl
    simp only [Option.getD_some]
    rw [this]
    exact VRep.of_arep h2
  ·unfold entryEnv
   rw [List.getD_eq_getElem?_getD, List.getElem?_eq_none]
   ·rfl
   ·exact Nat.le_trans hn ht
 refine calls_of_wp hf hb ?_
 refine Code.wp_mono (fun e a' w' hl => ?_) (vc_sound (C := C) hT hmix c _ _ h _ w μ S hv hok hs)
 obtain ⟨μ', h', S', env', hs', hq⟩ := hl
 have fin : retVals T env' h' fn.results.toList (Ends h.length R h') → a'.defers = [] ∧ ∃ v, (results fn a'.tmps).run P w' = .ok v w' ∧
   (∃ (v' : Value) (res : PV) (h'' : List AObj) (μ'' : Mu) (S'' : Nat → Prop), Ending.returned v = .returned v' ∧ R res h'' ∧ VRep μ'' h'' S'' w' res v' ∧ HeapRep μ'' h'' S'' w' ∧ MuOk μ'' h'' S'' w' ∧ Fr μ h S w μ'' h'' S'' w') := fun hr => by
  obtain ⟨vs', us, hE, h1, h2, h3⟩ := retVals_sound hT hs' _ _ hr
  obtain ⟨hnt, k, res, η, hk, hm, hz, hh, hR⟩ := hE
  refine ⟨hs'.defers, _, results_run h3, ?_⟩
  have hvr : VRep μ' h' S' w' (oneOf vs') (valOf us) := by
   have key : (∀ v, vs' ≠ [v]) → VRep μ' h' S' w' (oneOf vs') (valOf us) := fun hne => by
    have e1 : oneOf vs' = .tup vs' := by
     match vs', hne with
     | [], _ => rfl
     | [v], hne => exact (hne v rfl).elim
     | a :: b :: r, _ => rfl
    have e2 : valOf us = .tuple us.toArray := by
     match us, h1 with
     | [], _ => rfl
     | [v], h1 =>
      match vs', h1, hne with
      | [x], _, hne => exact (hne x rfl).elim
     | a :: b :: r, _ => rfl
    rw [e1, e2]
    refine ⟨_, rfl, by simpa using h1, fun j pv hj => ?_⟩
    obtain ⟨u, q1, q2⟩ := h2 j pv hj
    refine ⟨u, by simpa using q1, ?_⟩
    have hp : notTup pv = true := (List.all_eq_true.1 hnt) pv (List.mem_of_getElem? hj)
    cases pv with
    | tup ps => cases hp
    | _ => exact q2
   match vs', us, h1 with
   | [v], [u], _ =>
    obtain ⟨u', q1, q2⟩ := h2 0 v rfl
    simp at q1
    subst q1
    exact q2
   | [], us, _ => exact key (fun v hv => by cases hv)
   | a :: b :: r, us, _ => exact key (fun v hv => by cases hv)
  obtain ⟨hco, _, _⟩ := fz_core hs'.core hh hk
  exact ⟨_, res, η, muFz μ' h' k, sFz μ' h' k S', rfl, hR, (fz_sound hs'.core hh hz).2.2 _ hvr, hco.heap, hco.ok, fz_fr (C := C) hs'.core hs'.fr hh hk hm⟩
 cases e with
 | ret => exact fin hq
 | normal => exact fin hq
 | exit id => exact hq.elim
 | goto l => exact hq.elim
 | panic ch => exact hq.elim
 | outgrown => exact hq.elim
theorem ACall.mono {f : FuncId} {args : List PV} {h : List AObj} {R R' : PV → List AObj → Prop} (hc : ACall P f args h R) (hr : ∀ res h', R res h' → R' res h') : ACall P f args h R' :=
 ⟨hc.1, fun w vs μ S hH hM hsz ha => (hc.2 w vs μ S hH hM hsz ha).mono fun e w' ⟨v, res, h', μ', S', he, hR, rest⟩ => ⟨v, res, h', μ', S', he, hr _ _ hR, rest⟩⟩
end
end Go.Am
