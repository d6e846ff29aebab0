/- The plain law: the tables that TableOf makes pass the check. -/
import Derived.Test.YtgkniabpdgaoiaaDoorQ6
set_option linter.unusedVariables false
set_option linter.unusedSimpArgs false
namespace Go.Am
open Go Go.RowKit Go.Proofs
theorem pw_and {n : Nat} (h : Pw n) : bits .and .i64 (n : Int) (W64 ((n : Int) - 1)) = 0 := by
 rcases h with h | h | h | h | h | h | h | h <;> subst h <;> decide +kernel
theorem istable_flat {l : List TEntry} (hp : Plain l) (x : Int) (h0 : 0 ≤ x) (h1 : x ≤ 1000000001) (hl : l.length ≤ 900) (hv : ∀ e ∈ l, vk e.fKey = true ∧ (e.fKey.fText = true ∨ e.fKey.fNum < x)) (hd : (l.map (·.fKey)).Nodup) :
  m_s_IsTable (TTable.mk false [] (plS l) x (l.length : Int)) = some true := by
 have hlen : (plS l).length = l.length := by simp [plS]
 have hx : (l.length : Int) ≤ x := by
  rcases Nat.eq_zero_or_pos l.length with h | h
  ·omega
  ·have q := (hv _ (List.getElem_mem (show l.length - 1 < l.length by omega))).2
   rw [hp (l.length - 1) (by omega)] at q
   rcases q with q | q
   ·cases q
   ·have : ((l.length - 1 : Nat) : Int) < x := q
    omega
 have e1 := fill2_go (TTable.mk false [] (plS l) x (l.length : Int)) 0 (by omega) rfl 0 0 [] (by omega) (by omega) rfl (fun j h => absurd h (by omega))
 have e2 := slots_go (TTable.mk false [] (plS l) x (l.length : Int)) l hl hv hd (fun _ => []) (fun _ => -1) hlen (fun i hi => by simp [plS, hi]) (fun i hi => by
  rw [if_neg (by simp)]; exact ⟨hp i hi, rfl, rfl⟩) l.length 0 (by omega) (by omega)
 have e3 := same_heads (TTable.mk false [] (plS l) x (l.length : Int)) [] rfl (by simp) 0 0 (by simp) (by omega)
 have em : (lmake 8 0 0 : Option (List Int)) = some [] := rfl
 rw [show ((0 : Nat) : Int) = 0 from rfl] at e1 e2 e3
 unfold m_s_IsTable
 simp only [m53_eq, sb, hlen, List.length_nil, if_pos (decide_eq_true (And.intro h0 h1)), if_neg (show ¬ (l.length : Int) > 1024 by omega), if_neg Bool.false_ne_true, if_neg (show ¬ (l.length : Int) > x by omega), if_neg (show ¬ ((0 : Nat) : Int) > 0 by omega), show ((0 : Nat) : Int) = 0 from rfl, em]
 have e1' : m_s_IsTable_L2 (TTable.mk false [] (plS l) x (l.length : Int)) [] 0 = some [] := e1
 rw [e1', sb, e2, sb]
 dsimp only
 rw [e3, sb]
 simp
theorem istable_hashed {n : Nat} (hp : Pw n) {l : List TEntry} (hln : l.length ≤ n) (x : Int) (h0 : 0 ≤ x) (h1 : x ≤ 1000000001) (hl : l.length ≤ 900) (hv : ∀ e ∈ l, vk e.fKey = true ∧ (e.fKey.fText = true ∨ e.fKey.fNum < x)) (hd : (l.map (·.fKey)).Nodup) :
  m_s_IsTable (TTable.mk true (tb n l).1 (tb n l).2 x (l.length : Int)) = some true := by
 obtain ⟨b1, b2⟩ := hp.bd
 have tf := TF.all (n := n) (by omega) l
 have t1 := tf.hl
 have t2 := tf.len
 have e1 := fill2_go (TTable.mk true (tb n l).1 (tb n l).2 x (l.length : Int)) n (by omega) t1 n 0 (List.replicate n default) (by omega) (by omega) (by simp) (fun j h => absurd h (by omega))
 have e2 := slots_go (TTable.mk true (tb n l).1 (tb n l).2 x (l.length : Int)) l hl hv hd (fun i => (tb n (l.take i)).1) (fun i => if h : i < l.length then (tb n (l.take i)).1.getD (bk' n l[i].fKey) 0 else 0) t2 (fun i hi => by
  rw [dif_pos hi]
  have := tb_slot (n := n) (by omega) l l.length (Nat.le_refl _) i hi hi
  rwa [List.take_length] at this) (fun i hi => by
  have ti := TF.tb (n := n) (by omega) l i (by omega)
  have hb := bk_lt (n := n) (by omega) l[i].fKey
  have e : l.take (i + 1) = l.take i ++ [l[i]] := (List.take_append_getElem (by omega)).symm
  rw [if_pos rfl, dif_pos hi]
  refine ⟨by show 0 < (tb n l).1.length; omega, by show (tb n l).1.length ≤ 1024; omega, ?_, ?_⟩
  ·show idx (tb n (l.take i)).1 (bk' (tb n l).1.length l[i].fKey : Int) = _
   rw [t1, idx_nat (by rw [ti.hl]; exact hb), List.getD_eq_getElem?_getD, List.getElem?_eq_getElem (by rw [ti.hl]; exact hb)]; rfl
  ·show (tb n (l.take i)).1.set (bk' (tb n l).1.length l[i].fKey) (i : Int) = (tb n (l.take (i + 1))).1
   rw [t1, e, tb_snoc]
   show _ = (tb n (l.take i)).1.set (bk' n l[i].fKey) ((tb n (l.take i)).2.length : Int)
   rw [ti.len]
   congr 2
   simp; omega) l.length 0 (by omega) (by omega)
 have e3 := same_heads (TTable.mk true (tb n l).1 (tb n l).2 x (l.length : Int)) (tb n l).1 rfl (by omega) (tb n l).1.length 0 (by omega) (by omega)
 have em : (lmake 8 (n : Int) (n : Int) : Option (List Int)) = some (List.replicate n default) := by
  unfold lmake
  rw [if_pos ⟨by omega, by omega, by omega, by omega⟩]; rfl
 rw [show ((0 : Nat) : Int) = 0 from rfl] at e1 e2 e3
 unfold m_s_IsTable
 simp only [m53_eq, sb, t1, t2, if_true, if_pos (decide_eq_true (And.intro h0 h1)), if_neg (show ¬ (l.length : Int) > 1024 by omega), if_pos (decide_eq_true (And.intro (show (8 : Int) ≤ n by omega) (show (n : Int) ≤ 1024 by omega))), if_pos (pw_and hp), if_neg (show ¬ (l.length : Int) > (n : Int) by omega), em, e1]
 have e2' : m_s_IsTable_L24 (TTable.mk true (tb n l).1 (tb n l).2 x (l.length : Int)) 0 (List.replicate n (-1)) 0 = some (.inl ((l.length : Int), (tb n l).1)) := by
  have e2'' := e2
  simp only [List.take_zero, List.take_length] at e2''
  exact e2''
 rw [e2', sb]
 dsimp only
 rw [e3, sb]
 simp
end Go.Am
