/- The plain law: the table of an array. -/
import Derived.Test.YtgkniabpdgaoiaaDoorQ3
set_option linter.unusedVariables false
set_option linter.unusedSimpArgs false
namespace Go.Am
open Go Go.RowKit Go.Proofs
def iK (i : Nat) : TKey := TKey.mk false (i : Int) []
def plS (l : List TEntry) : List TSlot := l.map fun e => TSlot.mk e.fKey e.fVal true (-1)
def Plain (l : List TEntry) : Prop := ∀ i (hi : i < l.length), l[i].fKey = iK i
inductive St (l : List TEntry) : TTable → Prop
 | flat (h : Plain l) : St l (TTable.mk false [] (plS l) (l.length : Int) (l.length : Int))
 | hashed (n : Nat) (nx : Int) (hp : Pw n) (hl : l.length ≤ n) (h : ¬ Plain l) : St l (TTable.mk true (tb n l).1 (tb n l).2 nx (l.length : Int))
theorem plain_pre {l : List TEntry} {e : TEntry} (h : Plain (l ++ [e])) : Plain l := fun i hi => by
 have := h i (by simp; omega)
 rwa [List.getElem_append_left hi] at this
theorem plain_snoc {l : List TEntry} {e : TEntry} (h : Plain l) (he : e.fKey = iK l.length) : Plain (l ++ [e]) := fun i hi => by
 by_cases q : i < l.length
 ·rw [List.getElem_append_left q]; exact h i q
 ·have : i = l.length := by simp at hi; omega
  subst this
  simpa using he
theorem plain_last {l : List TEntry} {e : TEntry} (h : Plain (l ++ [e])) : e.fKey = iK l.length := by
 have := h l.length (by simp)
 simpa using this
theorem fin_hashed {n : Nat} (hp : Pw n) {l : List TEntry} {e : TEntry} (hlt : l.length < n) (hv : vk e.fKey = true) (hnp : ¬ Plain (l ++ [e])) (nx : Int) :
  ∃ T', (m_i_addSlot (TTable.mk true (tb n l).1 (tb n l).2 nx (l.length : Int)) e.fKey e.fVal >>= fun v33 =>
   (if e.fKey.fText = true then some v33 else m93 v33.fNext (W64 (e.fKey.fNum + 1)) >>= fun v38 => some (TTable.mk v33.fHashed v33.fHeads v33.fSlots v38 v33.fCount))) = some T' ∧ St (l ++ [e]) T' := by
 obtain ⟨b1, b2⟩ := hp.bd
 have e2 := add_hashed (n := n) (by omega) b2 (TF.all (by omega) l) (by omega) hv e.fVal nx l.length (by omega)
 have e4 : TEntry.mk e.fKey e.fVal = e := by cases e; rfl
 have mk : ∀ nx' : Int, St (l ++ [e]) (TTable.mk true (tb n (l ++ [e])).1 (tb n (l ++ [e])).2 nx' ((l.length + 1 : Nat) : Int)) := fun nx' => by
  have := St.hashed (l := l ++ [e]) n nx' hp (by simp; omega) hnp
  simpa using this
 rw [e2, sb, e4, ← tb_snoc]
 by_cases ht : e.fKey.fText = true
 ·rw [if_pos ht]; exact ⟨_, rfl, mk _⟩
 ·rw [if_neg ht, m93_eq, sb]; exact ⟨_, rfl, mk _⟩
theorem slotOf_flat {l : List TEntry} (hp : Plain l) {k : TKey} (hno : ∀ e ∈ l, e.fKey ≠ k) (nx c : Int) : m_i_slotOf (TTable.mk false [] (plS l) nx c) k = some (-1) := by
 have hlen : (plS l).length = l.length := by simp [plS]
 unfold m_i_slotOf
 simp only [if_neg Bool.false_ne_true]
 by_cases h1 : k.fText = true
 ·rw [if_pos h1]
 rw [if_neg h1]
 by_cases h2 : k.fStr = []
 case neg => rw [if_neg h2]
 rw [if_pos h2]
 by_cases h3 : k.fNum < 0
 ·rw [if_pos h3]
 rw [if_neg h3]
 by_cases h4 : k.fNum ≥ ((plS l).length : Int)
 ·rw [if_pos h4]
 exfalso
 obtain ⟨j, hj⟩ : ∃ j : Nat, k.fNum = (j : Int) := ⟨k.fNum.toNat, by omega⟩
 have hjl : j < l.length := by omega
 refine hno l[j] (List.getElem_mem hjl) ?_
 rw [hp j hjl]
 obtain ⟨a, b, c⟩ := k
 simp at h1 h2 hj
 subst h1 h2 hj
 rfl
theorem put_eq {l : List TEntry} {T : TTable} (hT : St l T) (e : TEntry) (hv : ∀ x ∈ l, vk x.fKey = true) (hve : vk e.fKey = true) (hno : ∀ x ∈ l, x.fKey ≠ e.fKey) (hl : l.length ≤ 900) :
  ∃ T', m_i_putSlot T e.fKey e.fVal = some T' ∧ St (l ++ [e]) T' := by
 unfold m_i_putSlot
 cases hT with
 | flat hp =>
  have hlen : (plS l).length = l.length := by simp [plS]
  rw [slotOf_flat hp hno, sb, if_neg (by omega)]
  simp only [if_neg Bool.false_ne_true, hlen]
  by_cases hk : e.fKey = TKey.mk false (l.length : Int) []
  ·have e3 : m_i_addSlot (TTable.mk false [] (plS l) (l.length : Int) (l.length : Int)) e.fKey e.fVal = some (TTable.mk false [] (plS (l ++ [e])) (l.length : Int) ((l.length + 1 : Nat) : Int)) := by
    unfold m_i_addSlot
    simp only [if_neg Bool.false_ne_true, sb]
    rw [lapp_eq (by simp [hlen]; omega), sb, w_succ (by omega)]
    simp [plS]
   have e4 : W64 (e.fKey.fNum + 1) = ((l.length + 1 : Nat) : Int) := by rw [hk]; exact w_succ (by omega)
   rw [if_pos hk, if_neg (by omega), sb]
   simp only [if_neg Bool.false_ne_true, sb]
   rw [e3, sb, if_neg (by rw [hk]; simp), m93_eq, sb]
   refine ⟨_, rfl, ?_⟩
   have := St.flat (l := l ++ [e]) (plain_snoc hp hk)
   rw [e4, if_pos (show ((l.length + 1 : Nat) : Int) > (l.length : Int) by omega)]
   simpa using this
  ·obtain ⟨n, hpw, hlt, er⟩ := rebuilt_eq (TTable.mk false [] (plS l) (l.length : Int) (l.length : Int)) l (by omega) hv ⟨hlen, fun i hi => ⟨-1, by simp [plS, hi]⟩⟩ rfl
   have tf := TF.all (n := n) (by omega) l
   have t1 := tf.hl
   have t2 := tf.len
   rw [if_neg hk, er, sb, sb]
   simp only [if_true]
   rw [if_neg (by omega), sb]
   exact fin_hashed hpw hlt hve (fun h => hk (plain_last h)) _
 | hashed n nx hpw hle hnp =>
  obtain ⟨b1, b2⟩ := hpw.bd
  have tf := TF.all (n := n) (by omega) l
  have t1 := tf.hl
  have t2 := tf.len
  rw [slotOf_hashed (by omega) b2 tf (by omega) hve hno, sb, if_neg (by omega)]
  simp only [if_true, sb]
  by_cases hfull : l.length = n
  ·obtain ⟨n', hpw', hlt', er⟩ := rebuilt_eq (TTable.mk true (tb n l).1 (tb n l).2 nx (l.length : Int)) l (by omega) hv tf.holds rfl
   rw [if_pos (by omega), er, sb, sb]
   exact fin_hashed hpw' hlt' hve (fun h => hnp (plain_pre h)) _
  ·rw [if_neg (by omega), sb]
   exact fin_hashed hpw (by omega) hve (fun h => hnp (plain_pre h)) _
end Go.Am
