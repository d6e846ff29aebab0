/- Letters and digits. -/
import Derived.Test.YtagfpmbccfghnaaDoorX2
set_option linter.unusedVariables false
set_option linter.unusedSimpArgs false
namespace Go.Am
open Go Go.RowKit Go.Proofs

def dig (c : UInt8) : Bool := decide (48 ≤ c.toNat) && decide (c.toNat ≤ 57)
def let_ (c : UInt8) : Bool := (decide (65 ≤ c.toNat) && decide (c.toNat ≤ 90)) || (decide (97 ≤ c.toNat) && decide (c.toNat ≤ 122))
def nst (c : UInt8) : Bool := let_ c || decide (c.toNat = 95)

theorem ACall.frame0 {P : Program} {f : FuncId} {args : List PV} {r : PV} (hA : ACall P f args [] (fun res h => res = r ∧ h = [])) (h : List AObj) (hp : args.all pureA = true) (hr : ∀ n, shiftV n r = r) :
    ACall P f args h (fun res h' => res = r ∧ h' = h) :=
  (hA.frame h hp).mono (by rintro _ _ ⟨_, _, ⟨rfl, rfl⟩, rfl, rfl⟩; exact ⟨hr _, by simp⟩)

theorem l1In_ok (x lo hi : Int) : ACall Tryd.prog 53 [.int .i64 x, .int .i64 lo, .int .i64 hi] [] (fun res h => res = .bool (decide (lo ≤ x) && decide (x ≤ hi)) ∧ h = []) := by
  refine ACall.of_vc tabL_ok mixed Tryd.func53 rfl (by kernel_rfl) _ _ _ rfl (by kernel_rfl) ?_
  refine splitB.mk (fun h => ?_) (fun h => ?_)
  · have h := of_decide_eq_true h
    repeat first | refine splitB.mk (fun h => absurd h (by decide)) (fun _ => ?_) | refine splitB.mk (fun _ => ?_) (fun h => absurd h (by decide))
    exact ⟨[], _, [], by simp, Nat.zero_le _, .bool _, trivial, by simp [show lo ≤ x from h], rfl⟩
  · have h := of_decide_eq_false h
    repeat first | refine splitB.mk (fun h => absurd h (by decide)) (fun _ => ?_) | refine splitB.mk (fun _ => ?_) (fun h => absurd h (by decide))
    exact ⟨[], _, [], by simp, Nat.zero_le _, .bool _, trivial, by simp [show ¬ lo ≤ x from h], rfl⟩

theorem isDigit_ok (c : UInt8) : ACall Tryd.prog 68 [.int .u8 c.toNat] [] (fun res h => res = .bool (dig c) ∧ h = []) := by
  refine ACall.of_vc tabL_ok mixed Tryd.func68 rfl (by kernel_rfl) _ _ _ rfl (by kernel_rfl) ?_
  repeat' first | refine splitB.mk (fun h => absurd h (by decide)) (fun _ => ?_) | refine splitB.mk (fun _ => ?_) (fun h => absurd h (by decide)) | refine splitB.mk (fun h => ?_) (fun h => ?_)
  all_goals refine ⟨[], _, [], by simp, Nat.zero_le _, .bool _, trivial, ?_, rfl⟩
  all_goals ((try simp [dig] at *) <;> (try (rw [Bool.eq_iff_iff]; simp)) <;> (try omega))

theorem isLetter_ok (c : UInt8) : ACall Tryd.prog 97 [.int .u8 c.toNat] [] (fun res h => res = .bool (let_ c) ∧ h = []) := by
  refine ACall.of_vc tabL_ok mixed Tryd.func97 rfl (by kernel_rfl) _ _ _ rfl (by kernel_rfl) ?_
  repeat' first | refine splitB.mk (fun h => absurd h (by decide)) (fun _ => ?_) | refine splitB.mk (fun _ => ?_) (fun h => absurd h (by decide)) | refine splitB.mk (fun h => ?_) (fun h => ?_)
  all_goals refine ⟨[], _, [], by simp, Nat.zero_le _, .bool _, trivial, ?_, rfl⟩
  all_goals ((try simp [let_] at *) <;> (try (rw [Bool.eq_iff_iff]; simp)) <;> (try omega))

theorem w8 (c : UInt8) : IntKind.i64.wrap (c.toNat : Int) = c.toNat := by have := c.toNat_lt; rw [w64] <;> omega

theorem l14Digit_ok (c : UInt8) : ACall Tryd.prog 60 [.int .u8 c.toNat] [] (fun res h => res = .bool (dig c) ∧ h = []) := by
  refine ACall.of_vc tabL_ok mixed Tryd.func60 rfl (by kernel_rfl) _ _ _ rfl (by kernel_rfl) ?_
  refine ⟨_, (l1In_ok _ _ _).frame0 _ rfl (fun _ => rfl), ?_⟩
  rintro _ _ ⟨rfl, rfl⟩
  refine ⟨[], _, [], by simp, Nat.zero_le _, .bool _, trivial, ?_, rfl⟩
  congr 1
  rw [w8, Bool.eq_iff_iff]
  simp [dig]
  omega

theorem l14Letter_ok (c : UInt8) : ACall Tryd.prog 59 [.int .u8 c.toNat] [] (fun res h => res = .bool (nst c) ∧ h = []) := by
  obtain ⟨b1, hb1⟩ : ∃ b : Bool, b = (decide (97 ≤ c.toNat) && decide (c.toNat ≤ 122)) := ⟨_, rfl⟩
  obtain ⟨b2, hb2⟩ : ∃ b : Bool, b = (decide (65 ≤ c.toNat) && decide (c.toNat ≤ 90)) := ⟨_, rfl⟩
  have e : nst c = (b1 || b2 || decide (c.toNat = 95)) := by rw [hb1, hb2, Bool.eq_iff_iff]; simp [nst, let_]; omega
  have c1 : ACall Tryd.prog 53 [.int .i64 (IntKind.i64.wrap (c.toNat : Int)), .int .i64 97, .int .i64 122] [] (fun res h => res = .bool b1 ∧ h = []) := by
    rw [w8, show PV.bool b1 = .bool (decide ((97 : Int) ≤ c.toNat) && decide ((c.toNat : Int) ≤ 122)) by rw [hb1]; congr 1; rw [Bool.eq_iff_iff]; simp; omega]
    exact l1In_ok _ _ _
  have c2 : ACall Tryd.prog 53 [.int .i64 (IntKind.i64.wrap (c.toNat : Int)), .int .i64 65, .int .i64 90] [] (fun res h => res = .bool b2 ∧ h = []) := by
    rw [w8, show PV.bool b2 = .bool (decide ((65 : Int) ≤ c.toNat) && decide ((c.toNat : Int) ≤ 90)) by rw [hb2]; congr 1; rw [Bool.eq_iff_iff]; simp; omega]
    exact l1In_ok _ _ _
  clear hb1 hb2
  rw [e]
  refine ACall.of_vc tabL_ok mixed Tryd.func59 rfl (by kernel_rfl) _ _ _ rfl (by kernel_rfl) ?_
  refine ⟨_, c1.frame0 _ rfl (fun _ => rfl), ?_⟩
  rintro _ _ ⟨rfl, rfl⟩
  cases b1
  · refine splitB.mk (fun h => absurd h (by decide)) (fun _ => ?_)
    refine splitB.mk (fun h => absurd h (by decide)) (fun _ => ?_)
    refine splitB.mk (fun h => absurd h (by decide)) (fun _ => ?_)
    refine ⟨_, c2.frame0 _ rfl (fun _ => rfl), ?_⟩
    rintro _ _ ⟨rfl, rfl⟩
    refine splitB.mk (fun h => absurd h (by decide)) (fun _ => ?_)
    cases b2
    · iterate 3 refine splitB.mk (fun h => absurd h (by decide)) (fun _ => ?_)
      refine ⟨[], _, [], by simp, Nat.zero_le _, .bool _, trivial, ?_, rfl⟩
      congr 1
      rw [Bool.eq_iff_iff]; simp; omega
    · iterate 3 refine splitB.mk (fun _ => ?_) (fun h => absurd h (by decide))
      exact ⟨[], _, [], by simp, Nat.zero_le _, .bool _, trivial, by simp, rfl⟩
  · iterate 7 refine splitB.mk (fun _ => ?_) (fun h => absurd h (by decide))
    exact ⟨[], _, [], by simp, Nat.zero_le _, .bool _, trivial, by simp, rfl⟩

/-! ### How far a run of bytes goes -/
def cnt (p : Nat → UInt8 → Bool) : List UInt8 → Nat → Nat
  | [], _ => 0
  | c :: r, k => if p k c = true then 1 + cnt p r (k + 1) else 0
theorem cnt_le (p : Nat → UInt8 → Bool) : ∀ (l : List UInt8) (k : Nat), cnt p l k ≤ l.length
  | [], k => Nat.le_refl _
  | c :: r, k => by
    unfold cnt
    have := cnt_le p r (k + 1)
    split
    · simp; omega
    · omega
theorem cnt_lt (p : Nat → UInt8 → Bool) : ∀ (l : List UInt8) (k n : Nat), n ≤ cnt p l k → (n < cnt p l k ↔ n < l.length ∧ p (k + n) (l.getD n 0) = true)
  | [], k, n, h => by simp [cnt] at h ⊢
  | c :: r, k, 0, h => by
    unfold cnt
    by_cases hp : p k c = true
    · simp [hp]; omega
    · simp [hp]
  | c :: r, k, n + 1, h => by
    unfold cnt at h ⊢
    by_cases hp : p k c = true
    · rw [if_pos hp] at h ⊢
      have := cnt_lt p r (k + 1) n (by omega)
      rw [show 1 + cnt p r (k + 1) = cnt p r (k + 1) + 1 by omega, Nat.add_lt_add_iff_right, this]
      simp [show k + 1 + n = k + (n + 1) by omega]
    · rw [if_neg hp] at h; omega

def pName (k : Nat) (c : UInt8) : Bool := nst c || (decide (0 < k) && dig c)
abbrev nameLen (l : List UInt8) : Nat := cnt pName l 0
abbrev digLen (l : List UInt8) : Nat := cnt (fun _ c => dig c) l 0

end Go.Am
