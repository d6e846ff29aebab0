/- What is printed is read again. -/
import Derived.Test.YtcipcpjmialcoaaDoorP1
import Derived.Test.YtcipcpjmialcoaaDoorS2
set_option linter.unusedVariables false
set_option linter.unusedSimpArgs false
namespace Go.Am
open Go Go.RowKit Go.Proofs
theorem drop_next {s d r : Str} {a : Nat} (h : s.drop a = d ++ r) : s.drop (a + d.length) = r := by
 rw [← List.drop_drop, h, List.drop_left]
theorem drop_len {s d r : Str} {a : Nat} (h : s.drop a = d ++ r) (hd : 0 < d.length) : a + d.length + r.length = s.length := by
 have := congrArg List.length h
 rw [List.length_drop, List.length_append] at this
 omega
theorem drop_at {s r : Str} {a : Nat} {c : UInt8} (h : s.drop a = c :: r) : a < s.length ∧ s.getD a 0 = c := by
 have h1 := congrArg List.length h
 rw [List.length_drop, List.length_cons] at h1
 have h2 : a < s.length := by omega
 rw [List.drop_eq_getElem_cons h2] at h
 injection h with h3 h4
 exact ⟨h2, by rw [List.getD_eq_getElem?_getD, List.getElem?_eq_getElem h2, Option.getD_some, h3]⟩
theorem sidx_drop {s r : Str} {a : Nat} {c : UInt8} (h : s.drop a = c :: r) : sidx s (a : Int) = some c := by
 obtain ⟨h1, h2⟩ := drop_at h
 rw [sidx_nat h1, h2]
theorem ssub_drop {s d r : Str} {a : Nat} (h : s.drop a = d ++ r) (ha : a + d.length ≤ s.length) : ssub s (a : Int) ((a + d.length : Nat) : Int) = some d := by
 unfold ssub
 rw [if_pos ⟨by omega, by omega, by omega⟩, Int.toNat_natCast, Int.toNat_natCast, List.drop_take, h, show a + d.length - a = d.length by omega, List.take_left]
theorem eat_ok {s d r : Str} {a : Nat} {b : Bool} (h : s.drop a = d ++ r) (hd : 0 < d.length) (hs : s.length ≤ 1000000000000) : m_i_serialReadereat (.mk s (a : Int) b) d = some (.mk s ((a + d.length : Nat) : Int) b) := by
 have hl := drop_len h hd
 unfold m_i_serialReadereat
 have e1 : sfrom s (a : Int) = some (d ++ r) := by unfold sfrom; rw [if_pos ⟨by omega, by omega⟩, Int.toNat_natCast, h]
 have e2 : m66 (d ++ r) d = some true := by
  unfold m66 Lib.hasPrefix
  rw [List.isPrefixOf_iff_prefix.2 (List.prefix_append d r)]
 show (sfrom s (a : Int) >>= _) = _
 rw [e1, sb, e2, sb, if_pos rfl, w_of (n := a + d.length) (by simp) (by omega)]
theorem until_ok {s d r : Str} {a : Nat} {b : Bool} (c : UInt8) (h : s.drop a = d ++ c :: r) (hd : ∀ x ∈ d, x.toNat ≠ c.toNat) (hl : d.length < 20) (hs : s.length ≤ 1000000000000) :
  m_i_serialReaderuntil (.mk s (a : Int) b) (c.toNat : Int) = some (d, .mk s ((a + d.length + 1 : Nat) : Int) b) := by
 have hsl : a + d.length + (r.length + 1) = s.length := by
  have := congrArg List.length h
  rw [List.length_drop, List.length_append, List.length_cons] at this
  omega
 have hat := w_of (x := (a : Int) + 20) (n := a + 20) (by omega) (by omega)
 have go : ∀ m j : Nat, j ≤ d.length → d.length - j = m → m_i_serialReaderuntil_L2 (.mk s (a : Int) b) (c.toNat : Int) ((a + j : Nat) : Int) = some (.inr (d, .mk s ((a + d.length + 1 : Nat) : Int) b)) := by
  intro m
  induction m with
  | zero =>
   intro j h1 h2
   have hj : j = d.length := by omega
   subst hj
   have e1 := drop_next h
   rw [m_i_serialReaderuntil_L2]
   show (if ((a + d.length : Nat) : Int) < (s.length : Int) then _ else _) = _
   rw [if_pos (by omega)]
   show (if ((a + d.length : Nat) : Int) < W64 ((a : Int) + 20) then _ else _) = _
   rw [hat, if_pos (by omega), sidx_drop e1, sb, if_pos rfl]
   show (ssub s (a : Int) ((a + d.length : Nat) : Int) >>= _) = _
   rw [ssub_drop h (by omega), sb, w_succ (by omega)]
  | succ m ihm =>
   intro j h1 h2
   have hj : j < d.length := by omega
   have e1 : s.drop (a + j) = d[j] :: (d.drop (j + 1) ++ c :: r) := by
    rw [← List.drop_drop, h, List.drop_append_of_le_length (by omega), List.drop_eq_getElem_cons hj]; rfl
   have hne := hd _ (List.getElem_mem hj)
   rw [m_i_serialReaderuntil_L2]
   show (if ((a + j : Nat) : Int) < (s.length : Int) then _ else _) = _
   rw [if_pos (by omega)]
   show (if ((a + j : Nat) : Int) < W64 ((a : Int) + 20) then _ else _) = _
   rw [hat, if_pos (by omega), sidx_drop e1, sb, if_neg (by omega), w_succ (by omega)]
   exact ihm (j + 1) (by omega) (by omega)
 have e := go d.length 0 (by omega) (by omega)
 unfold m_i_serialReaderuntil
 show (m_i_serialReaderuntil_L2 (.mk s (a : Int) b) (c.toNat : Int) (a : Int) >>= _) = _
 replace e : m_i_serialReaderuntil_L2 (.mk s (a : Int) b) (c.toNat : Int) (a : Int) = some (.inr (d, .mk s ((a + d.length + 1 : Nat) : Int) b)) := e
 rw [e, sb]
theorem itoa_free {n : Int} {c : UInt8} (hc : 58 ≤ c.toNat) : ∀ x ∈ Lib.itoa n, x.toNat ≠ c.toNat := fun x hx => by have := itoa_mem n x hx; omega
theorem parseInt_ok {n : Int} (h0 : 0 ≤ n) (h1 : n ≤ 1000000000000) : m_i_ParseInt (Lib.itoa n) = some (n, true) := by
 unfold m_i_ParseInt
 rw [m98_itoa (by omega) h1 h0 h1, sb]
theorem signed_ok {n : Int} (h0 : -1000000000 ≤ n) (h1 : n ≤ 1000000000) : m69 (Lib.itoa n) = some (n, true) := by
 unfold m69
 rw [m98_itoa (by omega) (by omega) h0 h1, sb]
theorem count_ok {s r : Str} {a : Nat} {n : Int} (h : s.drop a = Lib.itoa n ++ 58 :: r) (h0 : 0 ≤ n) (h1 : n ≤ 1000000000000) (hs : s.length ≤ 1000000000000) :
  m_i_serialReadercount (.mk s (a : Int) false) = some (n, .mk s ((a + (Lib.itoa n).length + 1 : Nat) : Int) false) := by
 have hl := itoa_len (n := n) (by omega) h1
 unfold m_i_serialReadercount
 have e := until_ok (b := false) 58 h (itoa_free (by decide)) (by omega) hs
 replace e : m_i_serialReaderuntil (.mk s (a : Int) false) 58 = some (Lib.itoa n, .mk s ((a + (Lib.itoa n).length + 1 : Nat) : Int) false) := e
 rw [e, sb]
 show (m_i_ParseInt (Lib.itoa n) >>= _) = _
 rw [parseInt_ok h0 h1, sb]
 rfl
theorem keyOf_ok {k : TKey} (h : vk k = true) : m_i_KeyOf (kvv k) = some (k, true) := by
 rcases vk_fields h with ⟨h1, h2, _, h3⟩ | ⟨h1, h2, h3, h4⟩
 ·have ek : kvv k = .mk 3 0 k.fStr 0 [] := by unfold kvv; rw [if_pos h1]
  rw [ek]
  unfold m_i_KeyOf
  show (m_i_TextKey k.fStr >>= fun v9 => some (v9, true)) = _
  unfold m_i_TextKey m69
  have e : m98 k.fStr (-1000000000) 1000000000 = some (nbi (sp k.fStr)) := m98_eq _
  rw [e, sb]
  have e2 : nbi (sp k.fStr) = ((nbi (sp k.fStr)).1, false) := by rw [← h3]
  rw [e2]
  have e3 := TKey.eta k
  rw [h1, h2] at e3
  show some (TKey.mk true 0 k.fStr, true) = _
  rw [e3]
 ·have ek : kvv k = .mk 2 k.fNum [] 0 [] := by unfold kvv; rw [if_neg (by rw [h1]; decide)]
  rw [ek]
  have e3 := TKey.eta k
  rw [h1, h4] at e3
  show some (TKey.mk false k.fNum [], true) = _
  rw [e3]
theorem rd_ok : ∀ (n : Nat), n ≤ 2000000 → ∀ v : TValue, v.wt ≤ n → v.vok = true → v.plain = true → ∀ (s r : Str) (a d : Nat), s.drop a = v.ser ++ r → d + v.kw ≤ 201 → s.length ≤ 1000000000000 →
  m_i_serialReadervalue (.mk s (a : Int) false) (d : Int) = some (v, .mk s ((a + v.ser.length : Nat) : Int) false)
 | 0, _, v, h, _, _ => by have := wt_pos v; omega
 | n + 1, hn, v, h, hv, hp => by
  intro s r a d hsd hdk hs
  have hkp := kw_pos v
  have hwt := wt_pos v
  have hlen := wt_len (v := v)
  have open2 : ∀ (c : UInt8) (t : Str), s.drop a = c :: 58 :: t → c.toNat ≠ 78 → m_i_serialReadervalue (.mk s (a : Int) false) (d : Int) =
    ((if (c.toNat : Int) = 98 then some ((c.toNat : Int) == 98) else some ((c.toNat : Int) == 105) : Option Bool) >>= fun b11 =>
     (if b11 = true then
      m_i_serialReaderuntil (.mk s ((a + 2 : Nat) : Int) false) 59 >>= fun (v17, v18) =>
      m69 v17 >>= fun (v20, v21) =>
      (if v18.fBad = true then
       (if (c.toNat : Int) = 98 then
        some ((TValue.mk 1 v20 [] 0 []), (TSerialReader.mk v18.fS v18.fAt true))
       else
        some ((TValue.mk 2 v20 [] 0 []), (TSerialReader.mk v18.fS v18.fAt true)))
      else
       (if (c.toNat : Int) = 98 then
        some ((TValue.mk 1 v20 [] 0 []), (TSerialReader.mk v18.fS v18.fAt (!v21)))
       else
        some ((TValue.mk 2 v20 [] 0 []), (TSerialReader.mk v18.fS v18.fAt (!v21)))))
     else
      (if (c.toNat : Int) = 115 then
       m_i_serialReadercount (.mk s ((a + 2 : Nat) : Int) false) >>= fun (v27, v28) =>
       (if v28.fBad = true then
        some ((TValue.mk 0 0 [] 0 []), (TSerialReader.mk v28.fS v28.fAt true))
       else
        (if v27 > (W64 ((v28.fS.length : Int) - v28.fAt)) then
         some ((TValue.mk 0 0 [] 0 []), (TSerialReader.mk v28.fS v28.fAt true))
        else
         (
          ssub v28.fS v28.fAt (W64 (v28.fAt + v27)) >>= fun s36 =>
          some s36
          : Option (Str)) >>= fun s32 =>
         m_i_serialReadereat (TSerialReader.mk v28.fS (W64 (v28.fAt + v27)) v28.fBad) [59] >>= fun v38 =>
         some ((TValue.mk 3 0 s32 0 []), v38)))
      else
       (if (c.toNat : Int) = 97 then
        m_i_serialReaderarray (.mk s ((a + 2 : Nat) : Int) false) (d : Int) >>= fun (v41, v42) =>
        some (v41, v42)
       else
        some ((TValue.mk 0 0 [] 0 []), (TSerialReader.mk s ((a + 2 : Nat) : Int) true)))))) := by
   intro c t hc h78
   have hlt := (drop_at hc).1
   have e1 : m_i_serialReadereat (.mk s (a : Int) false) [c, 58] = some (.mk s ((a + 2 : Nat) : Int) false) := eat_ok (d := [c, 58]) (r := t) hc (by simp) hs
   rw [m_i_serialReadervalue]
   show (if (a : Int) ≥ (s.length : Int) then _ else _) = _
   rw [if_neg (by omega), if_neg (by omega)]
   show (sidx s (a : Int) >>= _) = _
   rw [sidx_drop hc, sb, if_neg (by omega), e1, sb]
   rfl
  have eta : v = .mk v.fKind v.fNum v.fStr v.fNext v.fItems := (TValue.eta v).symm
  rcases vok_fields hv hp with hk | ⟨k0, k1, hl, hx, n0, n1, hsl, hs3, hn0, hn3⟩
  ·-- an array
   obtain ⟨e1, e2, ⟨x0, x1⟩, ⟨hV, hN⟩⟩ := (vok_arr hk).1 hv
   have hp' := hp
   rw [plain_eq, if_pos hk] at hp'
   have pl := plainL_mem _ hp'
   have ekw : v.kw = 1 + TEntry.kwL v.fItems := by rw [v.kw_eq, if_pos hk]
   have kwl : ∀ l : List TEntry, l.length ≤ TEntry.kwL l := fun l => by
    induction l with
    | nil => simp
    | cons x q ih => rw [kwL_cons]; have := kw_pos x.fVal; simp only [List.length_cons]; omega
   have hkl := kwl v.fItems
   have eser := ser_eq v
   rw [if_neg (by omega), if_neg (by omega), if_neg (by omega), if_neg (by omega)] at eser
   rw [eser] at hsd
   have q0 : s.drop a = 97 :: 58 :: (Lib.itoa (v.fItems.length : Int) ++ 58 :: (Lib.itoa v.fNext ++ 123 :: (TEntry.serL v.fItems ++ 125 :: r))) := by rw [hsd]; simp
   have q1 : s.drop (a + 2) = Lib.itoa (v.fItems.length : Int) ++ 58 :: (Lib.itoa v.fNext ++ 123 :: (TEntry.serL v.fItems ++ 125 :: r)) := drop_next (d := [97, 58]) q0
   have q2 : s.drop (a + 2 + (Lib.itoa (v.fItems.length : Int)).length + 1) = Lib.itoa v.fNext ++ 123 :: (TEntry.serL v.fItems ++ 125 :: r) := by
    have := drop_next (d := Lib.itoa (v.fItems.length : Int) ++ [58]) (r := Lib.itoa v.fNext ++ 123 :: (TEntry.serL v.fItems ++ 125 :: r)) (a := a + 2) (s := s) (by rw [q1]; simp)
    rw [List.length_append] at this
    exact this
   have q3 : s.drop (a + 2 + (Lib.itoa (v.fItems.length : Int)).length + 1 + (Lib.itoa v.fNext).length + 1) = TEntry.serL v.fItems ++ 125 :: r := by
    have := drop_next (d := Lib.itoa v.fNext ++ [123]) (r := TEntry.serL v.fItems ++ 125 :: r) (a := a + 2 + (Lib.itoa (v.fItems.length : Int)).length + 1) (s := s) (by rw [q2]; simp)
    rw [List.length_append] at this
    exact this
   have go : ∀ m i p : Nat, i ≤ v.fItems.length → v.fItems.length - i = m → s.drop p = TEntry.serL (v.fItems.drop i) ++ 125 :: r →
     m_i_serialReaderarray_L2 (d : Int) (v.fItems.length : Int) v.fNext s (p : Int) false (v.fItems.take i) (i : Int) = some (.inl (s, ((p + (TEntry.serL (v.fItems.drop i)).length : Nat) : Int), false, v.fItems)) := by
    intro m
    induction m with
    | zero =>
     intro i p h1 h2 h3
     have : i = v.fItems.length := by omega
     rw [m_i_serialReaderarray_L2, if_neg (by omega), this, List.take_length, List.drop_length, serL_nil]; rfl
    | succ m ihm =>
     intro i p h1 h2 h3
     have hlt : i < v.fItems.length := by omega
     have hit := wt_item (List.getElem_mem hlt)
     have hkd := kwL_drop hlt
     have hkm := kwL_mono v.fItems i
     have hkp2 := kw_pos v.fItems[i].fVal
     obtain ⟨a1, a2, a3⟩ := hV _ (List.getElem_mem hlt)
     obtain ⟨c1, c2⟩ := kv_vok a1
     rw [List.drop_eq_getElem_cons hlt, serL_cons] at h3
     have t1 : s.drop p = (kvv v.fItems[i].fKey).ser ++ (v.fItems[i].fVal.ser ++ (TEntry.serL (v.fItems.drop (i + 1)) ++ 125 :: r)) := by rw [h3, kv_ser]; simp
     have t2 : s.drop (p + (kvv v.fItems[i].fKey).ser.length) = v.fItems[i].fVal.ser ++ (TEntry.serL (v.fItems.drop (i + 1)) ++ 125 :: r) := drop_next t1
     have t3 : s.drop (p + (kvv v.fItems[i].fKey).ser.length + v.fItems[i].fVal.ser.length) = TEntry.serL (v.fItems.drop (i + 1)) ++ 125 :: r := drop_next t2
     have u1 := rd_ok n (by omega) (kvv v.fItems[i].fKey) (by rw [kv_wt]; omega) c1 c2 s _ p (d + 1) t1 (by rw [kv_kw]; omega) hs
     have u2 := rd_ok n (by omega) v.fItems[i].fVal (by omega) a3 (pl _ (List.getElem_mem hlt)) s _ _ (d + 1) t2 (by omega) hs
     rw [m_i_serialReaderarray_L2, if_pos (by omega), if_neg (by decide), w_of (x := (d : Int) + 1) (n := d + 1) (by omega) (by omega), u1, sb]
     show (m_i_KeyOf (kvv v.fItems[i].fKey) >>= _) = _
     rw [keyOf_ok a1, sb]
     show (if true = true then _ else _) = _
     rw [if_pos rfl, u2, sb]
     show (lapp 96 (v.fItems.take i) [TEntry.mk v.fItems[i].fKey v.fItems[i].fVal] >>= _) = _
     rw [lapp_eq (by rw [List.length_take]; simp only [List.length_cons, List.length_nil]; omega), sb, TEntry.eta, List.take_append_getElem hlt, w_succ (by omega)]
     have := ihm (i + 1) _ (by omega) (by omega) t3
     show m_i_serialReaderarray_L2 (d : Int) (v.fItems.length : Int) v.fNext s ((p + (kvv v.fItems[i].fKey).ser.length + v.fItems[i].fVal.ser.length : Nat) : Int) false (v.fItems.take (i + 1)) ((i + 1 : Nat) : Int) = _
     rw [this, List.drop_eq_getElem_cons hlt, serL_cons, kv_ser]
     simp only [List.length_append]
     congr 5
     omega
   have g := go v.fItems.length 0 _ (by omega) (by omega) q3
   have hd0 : v.fItems.drop 0 = v.fItems := rfl
   rw [hd0] at g
   replace g : m_i_serialReaderarray_L2 (d : Int) (v.fItems.length : Int) v.fNext s ((a + 2 + (Lib.itoa (v.fItems.length : Int)).length + 1 + (Lib.itoa v.fNext).length + 1 : Nat) : Int) false [] 0 = some (.inl (s, ((a + 2 + (Lib.itoa (v.fItems.length : Int)).length + 1 + (Lib.itoa v.fNext).length + 1 + (TEntry.serL v.fItems).length : Nat) : Int), false, v.fItems)) := g
   have q4 : s.drop (a + 2 + (Lib.itoa (v.fItems.length : Int)).length + 1 + (Lib.itoa v.fNext).length + 1 + (TEntry.serL v.fItems).length) = [125] ++ r := drop_next q3
   have e3 := eat_ok (b := false) q4 (by simp) hs
   have il := itoa_len (n := v.fNext) (by omega) (by omega)
   have e4 := until_ok (b := false) 123 q2 (itoa_free (by decide)) (by omega) hs
   replace e4 : m_i_serialReaderuntil (.mk s ((a + 2 + (Lib.itoa (v.fItems.length : Int)).length + 1 : Nat) : Int) false) 123 = some (Lib.itoa v.fNext, .mk s ((a + 2 + (Lib.itoa (v.fItems.length : Int)).length + 1 + (Lib.itoa v.fNext).length + 1 : Nat) : Int) false) := e4
   have e5 := count_ok q1 (by omega) (by omega) hs
   rw [open2 97 _ q0 (by decide)]
   show (m_i_serialReaderarray (.mk s ((a + 2 : Nat) : Int) false) (d : Int) >>= fun (v41, v42) => some (v41, v42)) = _
   rw [m_i_serialReaderarray, e5, sb]
   show ((m_i_serialReaderuntil (.mk s ((a + 2 + (Lib.itoa (v.fItems.length : Int)).length + 1 : Nat) : Int) false) 123 >>= _) >>= _) = _
   rw [e4, sb]
   show ((m_i_ParseInt (Lib.itoa v.fNext) >>= _) >>= _) = _
   rw [parseInt_ok x0 (by omega), sb]
   show (((if (v.fItems.length : Int) > 200 then some true else some false : Option Bool) >>= _) >>= _) = _
   rw [if_neg (by omega), sb]
   show ((m_i_serialReaderarray_L2 (d : Int) (v.fItems.length : Int) v.fNext s ((a + 2 + (Lib.itoa (v.fItems.length : Int)).length + 1 + (Lib.itoa v.fNext).length + 1 : Nat) : Int) false [] 0 >>= _) >>= _) = _
   rw [g, sb]
   show ((m_i_serialReadereat (.mk s ((a + 2 + (Lib.itoa (v.fItems.length : Int)).length + 1 + (Lib.itoa v.fNext).length + 1 + (TEntry.serL v.fItems).length : Nat) : Int) false) [125] >>= _) >>= _) = _
   rw [e3, sb, sb]
   show some (TValue.mk 4 0 [] v.fNext v.fItems, _) = _
   rw [eser]
   have ev : TValue.mk 4 0 [] v.fNext v.fItems = v := by rw [eta]; simp [hk, e1, e2]
   rw [ev]
   congr 3
   simp only [List.length_append, List.length_cons, List.length_nil]
   omega
  ·have ev : v = .mk v.fKind v.fNum v.fStr 0 [] := by rw [← hx, ← hl]; exact eta
   have hk : v.fKind = 0 ∨ v.fKind = 1 ∨ v.fKind = 2 ∨ v.fKind = 3 := by omega
   have il := itoa_len (n := v.fNum) (by omega) (by omega)
   rcases hk with hk | hk | hk | hk
   ·have es : v.ser = [78, 59] := by rw [ser_eq, if_pos hk]
    rw [es] at hsd ⊢
    have hlt := (drop_at (c := 78) (r := 59 :: r) hsd).1
    have e1 : m_i_serialReadereat (.mk s (a : Int) false) [78, 59] = some (.mk s ((a + 2 : Nat) : Int) false) := eat_ok (d := [78, 59]) (r := r) hsd (by simp) hs
    rw [m_i_serialReadervalue]
    show (if (a : Int) ≥ (s.length : Int) then _ else _) = _
    rw [if_neg (by omega), if_neg (by omega)]
    show (sidx s (a : Int) >>= _) = _
    rw [sidx_drop (c := 78) (r := 59 :: r) hsd, sb, if_pos (by decide), e1, sb]
    have : v = .mk 0 0 [] 0 [] := by rw [ev, hk, hn0 hk, hs3 (by omega)]
    rw [this]; rfl
   ·have es : v.ser = [98, 58] ++ Lib.itoa v.fNum ++ [59] := by rw [ser_eq, if_neg (by omega), if_pos hk]
    rw [es] at hsd ⊢
    have q0 : s.drop a = 98 :: 58 :: (Lib.itoa v.fNum ++ 59 :: r) := by rw [hsd]; simp
    have q1 : s.drop (a + 2) = Lib.itoa v.fNum ++ 59 :: r := drop_next (d := [98, 58]) q0
    have e4 := until_ok (b := false) 59 q1 (itoa_free (by decide)) (by omega) hs
    replace e4 : m_i_serialReaderuntil (.mk s ((a + 2 : Nat) : Int) false) 59 = some (Lib.itoa v.fNum, .mk s ((a + 2 + (Lib.itoa v.fNum).length + 1 : Nat) : Int) false) := e4
    rw [open2 98 _ q0 (by decide)]
    show (m_i_serialReaderuntil (.mk s ((a + 2 : Nat) : Int) false) 59 >>= _) = _
    rw [e4, sb]
    show (m69 (Lib.itoa v.fNum) >>= _) = _
    rw [signed_ok n0 n1, sb]
    show some (TValue.mk 1 v.fNum [] 0 [], _) = _
    have : v = .mk 1 v.fNum [] 0 [] := by rw [← hs3 (by omega), ← hk]; exact ev
    rw [← this]
    congr 3
    simp only [List.length_append, List.length_cons, List.length_nil]
    omega
   ·have es : v.ser = [105, 58] ++ Lib.itoa v.fNum ++ [59] := by rw [ser_eq, if_neg (by omega), if_neg (by omega), if_pos hk]
    rw [es] at hsd ⊢
    have q0 : s.drop a = 105 :: 58 :: (Lib.itoa v.fNum ++ 59 :: r) := by rw [hsd]; simp
    have q1 : s.drop (a + 2) = Lib.itoa v.fNum ++ 59 :: r := drop_next (d := [105, 58]) q0
    have e4 := until_ok (b := false) 59 q1 (itoa_free (by decide)) (by omega) hs
    replace e4 : m_i_serialReaderuntil (.mk s ((a + 2 : Nat) : Int) false) 59 = some (Lib.itoa v.fNum, .mk s ((a + 2 + (Lib.itoa v.fNum).length + 1 : Nat) : Int) false) := e4
    rw [open2 105 _ q0 (by decide)]
    show (m_i_serialReaderuntil (.mk s ((a + 2 : Nat) : Int) false) 59 >>= _) = _
    rw [e4, sb]
    show (m69 (Lib.itoa v.fNum) >>= _) = _
    rw [signed_ok n0 n1, sb]
    show some (TValue.mk 2 v.fNum [] 0 [], _) = _
    have : v = .mk 2 v.fNum [] 0 [] := by rw [← hs3 (by omega), ← hk]; exact ev
    rw [← this]
    congr 3
    simp only [List.length_append, List.length_cons, List.length_nil]
    omega
   ·have es : v.ser = txt v.fStr := by rw [ser_eq, if_neg (by omega), if_neg (by omega), if_neg (by omega), if_pos hk]
    rw [es] at hsd ⊢
    unfold txt at hsd ⊢
    have sl := itoa_len (n := (v.fStr.length : Int)) (by omega) (by omega)
    have q0 : s.drop a = 115 :: 58 :: (Lib.itoa (v.fStr.length : Int) ++ 58 :: (v.fStr ++ 59 :: r)) := by rw [hsd]; simp
    have q1 : s.drop (a + 2) = Lib.itoa (v.fStr.length : Int) ++ 58 :: (v.fStr ++ 59 :: r) := drop_next (d := [115, 58]) q0
    have q2 : s.drop (a + 2 + (Lib.itoa (v.fStr.length : Int)).length + 1) = v.fStr ++ 59 :: r := by
     have := drop_next (d := Lib.itoa (v.fStr.length : Int) ++ [58]) (r := v.fStr ++ 59 :: r) (a := a + 2) (s := s) (by rw [q1]; simp)
     rw [List.length_append] at this
     exact this
    have q3 : s.drop (a + 2 + (Lib.itoa (v.fStr.length : Int)).length + 1 + v.fStr.length) = [59] ++ r := drop_next q2
    have hll := drop_len q3 (by simp)
    simp only [List.length_cons, List.length_nil] at hll
    have e3 := eat_ok (b := false) q3 (by simp) hs
    have e5 := count_ok q1 (by omega) (by omega) hs
    have e6 := ssub_drop q2 (by omega)
    have e7 : W64 (((a + 2 + (Lib.itoa (v.fStr.length : Int)).length + 1 : Nat) : Int) + (v.fStr.length : Int)) = ((a + 2 + (Lib.itoa (v.fStr.length : Int)).length + 1 + v.fStr.length : Nat) : Int) := w_of (by simp) (by omega)
    have e8 : W64 ((s.length : Int) - ((a + 2 + (Lib.itoa (v.fStr.length : Int)).length + 1 : Nat) : Int)) = (s.length : Int) - ((a + 2 + (Lib.itoa (v.fStr.length : Int)).length + 1 : Nat) : Int) := by rw [W64, w64 (by omega) (by omega)]
    rw [open2 115 _ q0 (by decide)]
    show (m_i_serialReadercount (.mk s ((a + 2 : Nat) : Int) false) >>= _) = _
    rw [e5, sb]
    show (if (v.fStr.length : Int) > W64 ((s.length : Int) - ((a + 2 + (Lib.itoa (v.fStr.length : Int)).length + 1 : Nat) : Int)) then _ else _) = _
    rw [e8, if_neg (by omega)]
    show ((ssub s ((a + 2 + (Lib.itoa (v.fStr.length : Int)).length + 1 : Nat) : Int) (W64 (((a + 2 + (Lib.itoa (v.fStr.length : Int)).length + 1 : Nat) : Int) + (v.fStr.length : Int))) >>= fun s36 => some s36) >>= fun s32 =>
     m_i_serialReadereat (TSerialReader.mk s (W64 (((a + 2 + (Lib.itoa (v.fStr.length : Int)).length + 1 : Nat) : Int) + (v.fStr.length : Int))) false) [59] >>= fun v38 => some ((TValue.mk 3 0 s32 0 []), v38)) = _
    rw [e7, e6, sb, sb, e3, sb]
    have : v = .mk 3 0 v.fStr 0 [] := by have := ev; rw [hk, hn3 hk] at this; exact this
    rw [← this]
    congr 3
    simp only [List.length_append, List.length_cons, List.length_nil]
    omega
end Go.Am
