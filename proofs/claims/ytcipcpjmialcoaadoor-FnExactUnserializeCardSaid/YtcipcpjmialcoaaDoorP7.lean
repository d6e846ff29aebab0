/- The text of a valid value is read by the reference. -/
import Derived.Test.YtcipcpjmialcoaaDoorP6
set_option linter.unusedVariables false
set_option linter.unusedSimpArgs false
namespace Go.Am
open Go Go.RowKit Go.Proofs
theorem ser_two (v : TValue) : 2 ≤ v.ser.length := by
 rw [ser_eq]
 unfold txt
 split
 ·simp
 split
 ·simp only [List.length_append, List.length_cons, List.length_nil]; omega
 split
 ·simp only [List.length_append, List.length_cons, List.length_nil]; omega
 split
 ·simp only [List.length_append, List.length_cons, List.length_nil]; omega
 ·simp only [List.length_append, List.length_cons, List.length_nil]; omega
theorem kv_key {k : TKey} (h : vk k = true) : 2 ≤ (kvv k).fKind ∧ (kvv k).fKind ≤ 3 ∧ TKey.mk ((kvv k).fKind == 3) (kvv k).fNum (kvv k).fStr = k := by
 unfold kvv
 rcases vk_fields h with ⟨h1, h2, _⟩ | ⟨h1, _, _, h3⟩
 ·rw [if_pos h1]
  refine ⟨by simp, by simp, ?_⟩
  cases k
  simp only at h1 h2
  subst h1 h2
  rfl
 ·rw [if_neg (by rw [h1]; decide)]
  refine ⟨by simp, by simp, ?_⟩
  cases k
  simp only at h1 h3
  subst h1 h3
  rfl
theorem read_ok : ∀ (n : Nat), n ≤ 2000000 → ∀ v : TValue, v.wt ≤ n → v.vok = true → v.plain = true → ∀ (s r : Str) (a d : Nat), s.drop a = v.ser ++ r → d + v.kw ≤ 201 → s.length ≤ 1000000000000 →
  m_s_l11Read s (a : Int) (d : Int) = some (v, ((a + v.ser.length : Nat) : Int))
 | 0, _, v, h, _, _ => by have := wt_pos v; omega
 | n + 1, hn, v, h, hv, hp => by
  intro s r a d hsd hdk hs
  have hlen := wt_len (v := v)
  have hkp := kw_pos v
  have h2 := ser_two v
  have hsl : a + v.ser.length + r.length = s.length := by
   have := congrArg List.length hsd
   rw [List.length_drop, List.length_append] at this
   omega
  have eW : W64 ((s.length : Int) - 1) = (s.length : Int) - 1 := by rw [W64, w64 (by omega) (by omega)]
  have e2 : W64 ((a : Int) + 2) = ((a + 2 : Nat) : Int) := w_of (by simp) (by omega)
  have hh : ∀ (c1 c2 : UInt8) (t : Str), s.drop a = c1 :: c2 :: t → ssub s (a : Int) ((a + 2 : Nat) : Int) = some [c1, c2] := fun c1 c2 t hq => by
   have : s.drop a = [c1, c2] ++ t := hq
   exact ssub_drop this (by simp only [List.length_cons, List.length_nil]; omega)
  have eta : v = .mk v.fKind v.fNum v.fStr v.fNext v.fItems := (TValue.eta v).symm
  unfold m_s_l11Read
  rw [if_neg (Nat.succ_ne_self _), eW, if_neg (by omega), if_neg (by omega), e2]
  rcases vok_fields hv hp with hk | ⟨k0, k1, hl, hx, n0, n1, hsl3, hs3, hn0, hn3⟩
  ·-- an array
   obtain ⟨e1, e3, ⟨x0, x1⟩, ⟨hV, hN⟩⟩ := (vok_arr hk).1 hv
   have hp' := hp
   rw [plain_eq, if_pos hk] at hp'
   have pl := plainL_mem _ hp'
   have ekw : v.kw = 1 + TEntry.kwL v.fItems := by rw [v.kw_eq, if_pos hk]
   have kwl : ∀ l : List TEntry, l.length ≤ TEntry.kwL l := fun l => by
    induction l with
    | nil => simp
    | cons x q ih => rw [kwL_cons]; have := kw_pos x.fVal; simp only [List.length_cons]; omega
   have hkl := kwl v.fItems
   have eser := ser_eq v
   rw [if_neg (by omega), if_neg (by omega), if_neg (by omega), if_neg (by omega)] at eser
   rw [eser] at hsd
   have q0 : s.drop a = 97 :: 58 :: (Lib.itoa (v.fItems.length : Int) ++ 58 :: (Lib.itoa v.fNext ++ 123 :: (TEntry.serL v.fItems ++ 125 :: r))) := by rw [hsd]; simp
   have q1 : s.drop (a + 2) = Lib.itoa (v.fItems.length : Int) ++ 58 :: (Lib.itoa v.fNext ++ 123 :: (TEntry.serL v.fItems ++ 125 :: r)) := drop_next (d := [97, 58]) q0
   have q2 : s.drop (a + 2 + (Lib.itoa (v.fItems.length : Int)).length + 1) = Lib.itoa v.fNext ++ 123 :: (TEntry.serL v.fItems ++ 125 :: r) := by
    have := drop_next (d := Lib.itoa (v.fItems.length : Int) ++ [58]) (r := Lib.itoa v.fNext ++ 123 :: (TEntry.serL v.fItems ++ 125 :: r)) (a := a + 2) (s := s) (by rw [q1]; simp)
    rw [List.length_append] at this
    exact this
   have q3 : s.drop (a + 2 + (Lib.itoa (v.fItems.length : Int)).length + 1 + (Lib.itoa v.fNext).length + 1) = TEntry.serL v.fItems ++ 125 :: r := by
    have := drop_next (d := Lib.itoa v.fNext ++ [123]) (r := TEntry.serL v.fItems ++ 125 :: r) (a := a + 2 + (Lib.itoa (v.fItems.length : Int)).length + 1) (s := s) (by rw [q2]; simp)
    rw [List.length_append] at this
    exact this
   have go : ∀ m i p : Nat, i ≤ v.fItems.length → v.fItems.length - i = m → s.drop p = TEntry.serL (v.fItems.drop i) ++ 125 :: r →
     m_s_l11Read_L2 s (d : Int) v.fNext (v.fItems.length : Int) (p : Int) (v.fItems.take i) (i : Int) = some (.inl (((p + (TEntry.serL (v.fItems.drop i)).length : Nat) : Int), v.fItems)) := by
    intro m
    induction m with
    | zero =>
     intro i p h1 h2 h3
     have : i = v.fItems.length := by omega
     rw [m_s_l11Read_L2, if_neg (by omega), this, List.take_length, List.drop_length, serL_nil]; rfl
    | succ m ihm =>
     intro i p h1 h2 h3
     have hlt : i < v.fItems.length := by omega
     have hit := wt_item (List.getElem_mem hlt)
     have hkd := kwL_drop hlt
     have hkm := kwL_mono v.fItems i
     have hkp2 := kw_pos v.fItems[i].fVal
     obtain ⟨a1, a2, a3⟩ := hV _ (List.getElem_mem hlt)
     obtain ⟨c1, c2⟩ := kv_vok a1
     obtain ⟨z1, z2, z3⟩ := kv_key a1
     rw [List.drop_eq_getElem_cons hlt, serL_cons] at h3
     have t1 : s.drop p = (kvv v.fItems[i].fKey).ser ++ (v.fItems[i].fVal.ser ++ (TEntry.serL (v.fItems.drop (i + 1)) ++ 125 :: r)) := by rw [h3, kv_ser]; simp
     have t2 : s.drop (p + (kvv v.fItems[i].fKey).ser.length) = v.fItems[i].fVal.ser ++ (TEntry.serL (v.fItems.drop (i + 1)) ++ 125 :: r) := drop_next t1
     have t3 : s.drop (p + (kvv v.fItems[i].fKey).ser.length + v.fItems[i].fVal.ser.length) = TEntry.serL (v.fItems.drop (i + 1)) ++ 125 :: r := drop_next t2
     have u1 := read_ok n (by omega) (kvv v.fItems[i].fKey) (by rw [kv_wt]; omega) c1 c2 s _ p (d + 1) t1 (by rw [kv_kw]; omega) hs
     have u2 := read_ok n (by omega) v.fItems[i].fVal (by omega) a3 (pl _ (List.getElem_mem hlt)) s _ _ (d + 1) t2 (by omega) hs
     rw [m_s_l11Read_L2, if_pos (by omega), if_pos (by omega), w_of (x := (d : Int) + 1) (n := d + 1) (by omega) (by omega), u1, sb]
     dsimp only
     rw [if_neg (by omega), m53_eq, sb, if_pos (by simpa using ⟨z1, z2⟩), u2, sb]
     dsimp only
     rw [z3, lapp_eq (by rw [List.length_take]; simp only [List.length_cons, List.length_nil]; omega), sb, TEntry.eta, List.take_append_getElem hlt, w_succ (by omega)]
     have := ihm (i + 1) _ (by omega) (by omega) t3
     rw [this, List.drop_eq_getElem_cons hlt, serL_cons, kv_ser]
     simp only [List.length_append]
     congr 4
     omega
   have g := go v.fItems.length 0 _ (by omega) (by omega) q3
   have hd0 : v.fItems.drop 0 = v.fItems := rfl
   rw [hd0] at g
   replace g : m_s_l11Read_L2 s (d : Int) v.fNext (v.fItems.length : Int) ((a + 2 + (Lib.itoa (v.fItems.length : Int)).length + 1 + (Lib.itoa v.fNext).length + 1 : Nat) : Int) [] 0 = some (.inl (((a + 2 + (Lib.itoa (v.fItems.length : Int)).length + 1 + (Lib.itoa v.fNext).length + 1 + (TEntry.serL v.fItems).length : Nat) : Int), v.fItems)) := g
   have q4 : s.drop (a + 2 + (Lib.itoa (v.fItems.length : Int)).length + 1 + (Lib.itoa v.fNext).length + 1 + (TEntry.serL v.fItems).length) = 125 :: r := drop_next q3
   have q5 := (drop_at q4).1
   have e4 := num_ok (by decide) q2 (by omega) x1 hs
   replace e4 : m_s_l11Num s ((a + 2 + (Lib.itoa (v.fItems.length : Int)).length + 1 : Nat) : Int) 123 = some (v.fNext, ((a + 2 + (Lib.itoa (v.fItems.length : Int)).length + 1 + (Lib.itoa v.fNext).length + 1 : Nat) : Int)) := e4
   have e5 := num_ok (by decide) q1 (by omega) (by omega) hs
   replace e5 : m_s_l11Num s ((a + 2 : Nat) : Int) 58 = some ((v.fItems.length : Int), ((a + 2 + (Lib.itoa (v.fItems.length : Int)).length + 1 : Nat) : Int)) := e5
   rw [hh _ _ _ q0, sb, if_neg (by decide), if_neg (by decide), sb, if_neg (by decide), if_neg (by decide), if_pos (by decide), e5, sb]
   dsimp only
   rw [sb]
   dsimp only
   rw [if_neg (by omega), if_neg (by omega), if_neg (by omega), e4, sb]
   dsimp only
   rw [g, sb]
   dsimp only
   rw [if_neg (by omega), if_neg (by omega), sidx_drop q4, sb, if_pos (by decide), w_succ (by omega)]
   have ev : TValue.mk 4 0 [] v.fNext v.fItems = v := by rw [eta]; simp [hk, e1, e3]
   rw [ev, eser]
   congr 3
   simp only [List.length_append, List.length_cons, List.length_nil]
   omega
  ·have ev : v = .mk v.fKind v.fNum v.fStr 0 [] := by rw [← hx, ← hl]; exact eta
   have hk : v.fKind = 0 ∨ v.fKind = 1 ∨ v.fKind = 2 ∨ v.fKind = 3 := by omega
   rcases hk with hk | hk | hk | hk
   ·have es : v.ser = [78, 59] := by rw [ser_eq, if_pos hk]
    rw [es] at hsd ⊢
    rw [hh 78 59 r hsd, sb, if_pos (by decide)]
    have : v = .mk 0 0 [] 0 [] := by rw [ev, hk, hn0 hk, hs3 (by omega)]
    rw [this]; rfl
   ·have es : v.ser = [98, 58] ++ Lib.itoa v.fNum ++ [59] := by rw [ser_eq, if_neg (by omega), if_pos hk]
    rw [es] at hsd ⊢
    have q0 : s.drop a = 98 :: 58 :: (Lib.itoa v.fNum ++ 59 :: r) := by rw [hsd]; simp
    have q1 : s.drop (a + 2) = Lib.itoa v.fNum ++ 59 :: r := drop_next (d := [98, 58]) q0
    have e4 := num_ok (by decide) q1 n0 (by omega) hs
    replace e4 : m_s_l11Num s ((a + 2 : Nat) : Int) 59 = some (v.fNum, ((a + 2 + (Lib.itoa v.fNum).length + 1 : Nat) : Int)) := e4
    rw [hh _ _ _ q0, sb, if_neg (by decide), if_pos (by decide), sb, if_pos (by decide), e4, sb]
    dsimp only
    rw [if_pos (by decide), sb]
    dsimp only
    have : v = .mk 1 v.fNum [] 0 [] := by rw [← hs3 (by omega), ← hk]; exact ev
    rw [← this]
    congr 3
    simp only [List.length_append, List.length_cons, List.length_nil]
    omega
   ·have es : v.ser = [105, 58] ++ Lib.itoa v.fNum ++ [59] := by rw [ser_eq, if_neg (by omega), if_neg (by omega), if_pos hk]
    rw [es] at hsd ⊢
    have q0 : s.drop a = 105 :: 58 :: (Lib.itoa v.fNum ++ 59 :: r) := by rw [hsd]; simp
    have q1 : s.drop (a + 2) = Lib.itoa v.fNum ++ 59 :: r := drop_next (d := [105, 58]) q0
    have e4 := num_ok (by decide) q1 n0 (by omega) hs
    replace e4 : m_s_l11Num s ((a + 2 : Nat) : Int) 59 = some (v.fNum, ((a + 2 + (Lib.itoa v.fNum).length + 1 : Nat) : Int)) := e4
    rw [hh _ _ _ q0, sb, if_neg (by decide), if_neg (by decide), sb, if_pos (by decide), e4, sb]
    dsimp only
    rw [if_neg (by decide), sb]
    dsimp only
    have : v = .mk 2 v.fNum [] 0 [] := by rw [← hs3 (by omega), ← hk]; exact ev
    rw [← this]
    congr 3
    simp only [List.length_append, List.length_cons, List.length_nil]
    omega
   ·have es : v.ser = txt v.fStr := by rw [ser_eq, if_neg (by omega), if_neg (by omega), if_neg (by omega), if_pos hk]
    rw [es] at hsd ⊢
    unfold txt at hsd ⊢
    have q0 : s.drop a = 115 :: 58 :: (Lib.itoa (v.fStr.length : Int) ++ 58 :: (v.fStr ++ 59 :: r)) := by rw [hsd]; simp
    have q1 : s.drop (a + 2) = Lib.itoa (v.fStr.length : Int) ++ 58 :: (v.fStr ++ 59 :: r) := drop_next (d := [115, 58]) q0
    have q2 : s.drop (a + 2 + (Lib.itoa (v.fStr.length : Int)).length + 1) = v.fStr ++ 59 :: r := by
     have := drop_next (d := Lib.itoa (v.fStr.length : Int) ++ [58]) (r := v.fStr ++ 59 :: r) (a := a + 2) (s := s) (by rw [q1]; simp)
     rw [List.length_append] at this
     exact this
    have q3 : s.drop (a + 2 + (Lib.itoa (v.fStr.length : Int)).length + 1 + v.fStr.length) = 59 :: r := drop_next q2
    have hll := (drop_at q3).1
    have e5 := num_ok (by decide) q1 (by omega) (by omega) hs
    replace e5 : m_s_l11Num s ((a + 2 : Nat) : Int) 58 = some ((v.fStr.length : Int), ((a + 2 + (Lib.itoa (v.fStr.length : Int)).length + 1 : Nat) : Int)) := e5
    have e6 := ssub_drop q2 (by omega)
    have e7 : W64 (((a + 2 + (Lib.itoa (v.fStr.length : Int)).length + 1 : Nat) : Int) + (v.fStr.length : Int)) = ((a + 2 + (Lib.itoa (v.fStr.length : Int)).length + 1 + v.fStr.length : Nat) : Int) := w_of (by simp) (by omega)
    have e8 : W64 ((s.length : Int) - ((a + 2 + (Lib.itoa (v.fStr.length : Int)).length + 1 : Nat) : Int)) = (s.length : Int) - ((a + 2 + (Lib.itoa (v.fStr.length : Int)).length + 1 : Nat) : Int) := by rw [W64, w64 (by omega) (by omega)]
    rw [hh _ _ _ q0, sb, if_neg (by decide), if_neg (by decide), sb, if_neg (by decide), if_pos (by decide), e5, sb]
    dsimp only
    rw [if_neg (by omega), if_neg (by omega), e8, if_neg (by omega), e7, sidx_drop q3, sb, if_pos (by decide), e6, sb, sb]
    dsimp only
    rw [w_succ (by omega)]
    have : v = .mk 3 0 v.fStr 0 [] := by have := ev; rw [hk, hn3 hk] at this; exact this
    rw [← this]
    congr 3
    simp only [List.length_append, List.length_cons, List.length_nil]
    omega
end Go.Am
