/- The reader, over any text: it ends, and what it reads is no larger than its text. -/
import Derived.Test.YtcipcpjmialcoaaDoorP2
set_option linter.unusedVariables false
set_option linter.unusedSimpArgs false
namespace Go.Am
open Go Go.RowKit Go.Proofs
def Rd (s : Str) (a : Nat) (b : Bool) (r : TSerialReader) (q : Nat) : Prop := r.fS = s ∧ ∃ a' : Nat, r.fAt = (a' : Int) ∧ a ≤ a' ∧ a' ≤ s.length ∧ (r.fBad = false → b = false ∧ a + q ≤ a')
theorem Rd.bad {s : Str} {a : Nat} {b : Bool} (h : a ≤ s.length) (q : Nat) : Rd s a b (.mk s (a : Int) true) q := ⟨rfl, a, rfl, Nat.le_refl _, h, fun h => Bool.noConfusion h⟩
theorem eat_tot {s d : Str} {a : Nat} {b : Bool} (h : a ≤ s.length) (hs : s.length ≤ 1000000000000) : ∃ r, m_i_serialReadereat (.mk s (a : Int) b) d = some r ∧ Rd s a b r d.length := by
 unfold m_i_serialReadereat
 have e1 : sfrom s (a : Int) = some (s.drop a) := by unfold sfrom; rw [if_pos ⟨by omega, by omega⟩, Int.toNat_natCast]
 show ∃ r, (sfrom s (a : Int) >>= _) = some r ∧ _
 rw [e1, sb]
 unfold m66
 rw [sb]
 by_cases hp : Lib.hasPrefix (s.drop a) d = true
 ·have hpre : d <+: s.drop a := List.isPrefixOf_iff_prefix.1 hp
  have hl := hpre.length_le
  rw [List.length_drop] at hl
  rw [if_pos hp]
  by_cases hd : d.length = 0
  ·exact ⟨_, rfl, rfl, a, by show W64 ((a : Int) + (d.length : Int)) = _; rw [hd]; exact w_of (by simp) (by omega), Nat.le_refl _, h, fun hb => ⟨hb, by omega⟩⟩
  ·exact ⟨_, rfl, rfl, a + d.length, w_of (by simp) (by omega), by omega, by omega, fun hb => ⟨hb, by omega⟩⟩
 ·rw [if_neg hp]
  exact ⟨_, rfl, Rd.bad h _⟩
theorem until_tot {s : Str} {a : Nat} {b : Bool} (c : Int) (h : a ≤ s.length) (hs : s.length ≤ 1000000000000) : ∃ d r, m_i_serialReaderuntil (.mk s (a : Int) b) c = some (d, r) ∧ Rd s a b r 1 := by
 have hat := w_of (x := (a : Int) + 20) (n := a + 20) (by omega) (by omega)
 have go : ∀ m j : Nat, j ≤ 20 → 20 - j = m → a + j ≤ s.length + 20 → ∃ o, m_i_serialReaderuntil_L2 (.mk s (a : Int) b) c ((a + j : Nat) : Int) = some o ∧ (o = .inl () ∨ ∃ d r, o = .inr (d, r) ∧ Rd s a b r 1) := by
  intro m
  induction m with
  | zero =>
   intro j h1 h2 h3
   rw [m_i_serialReaderuntil_L2]
   show ∃ o, (if ((a + j : Nat) : Int) < (s.length : Int) then (if ((a + j : Nat) : Int) < W64 ((a : Int) + 20) then _ else _) else _) = some o ∧ _
   rw [hat]
   split
   ·rw [if_neg (by omega)]; exact ⟨_, rfl, .inl rfl⟩
   ·exact ⟨_, rfl, .inl rfl⟩
  | succ m ihm =>
   intro j h1 h2 h3
   rw [m_i_serialReaderuntil_L2]
   show ∃ o, (if ((a + j : Nat) : Int) < (s.length : Int) then (if ((a + j : Nat) : Int) < W64 ((a : Int) + 20) then _ else _) else _) = some o ∧ _
   rw [hat]
   split
   ·rename_i hlt
    rw [if_pos (by omega), sidx_nat (show a + j < s.length by omega), sb]
    split
    ·have e : ssub s (a : Int) ((a + j : Nat) : Int) = some ((s.take (a + j)).drop a) := by unfold ssub; rw [if_pos ⟨by omega, by omega, by omega⟩]; rfl
     show ∃ o, (ssub s (a : Int) ((a + j : Nat) : Int) >>= _) = some o ∧ _
     rw [e, sb, w_succ (by omega)]
     exact ⟨_, rfl, .inr ⟨_, _, rfl, rfl, a + j + 1, rfl, by omega, by omega, fun hb => ⟨hb, by omega⟩⟩⟩
    ·rw [w_succ (by omega)]
     exact ihm (j + 1) (by omega) (by omega) (by omega)
   ·exact ⟨_, rfl, .inl rfl⟩
 obtain ⟨o, e, ho⟩ := go 20 0 (by omega) (by omega) (by omega)
 replace e : m_i_serialReaderuntil_L2 (.mk s (a : Int) b) c (a : Int) = some o := e
 unfold m_i_serialReaderuntil
 show ∃ d r, (m_i_serialReaderuntil_L2 (.mk s (a : Int) b) c (a : Int) >>= _) = some (d, r) ∧ _
 rw [e, sb]
 rcases ho with rfl | ⟨d, r, rfl, hr⟩
 ·exact ⟨_, _, rfl, Rd.bad h _⟩
 ·exact ⟨_, _, rfl, hr⟩
theorem parse_tot (s : Str) : ∃ n b, m_i_ParseInt s = some (n, b) ∧ 0 ≤ n ∧ n ≤ 1000000000000 := by
 obtain ⟨n, b, e, h1, h2⟩ := m98_some s 0 1000000000000
 unfold m_i_ParseInt
 rw [e, sb]
 refine ⟨n, b, rfl, ?_⟩
 cases b with
 | true => exact h1 rfl
 | false => rw [h2 rfl]; omega
theorem count_tot {s : Str} {a : Nat} {b : Bool} (h : a ≤ s.length) (hs : s.length ≤ 1000000000000) : ∃ n r, m_i_serialReadercount (.mk s (a : Int) b) = some (n, r) ∧ 0 ≤ n ∧ n ≤ 1000000000000 ∧ Rd s a b r 1 := by
 obtain ⟨d, r, e, hr⟩ := until_tot (b := b) 58 h hs
 obtain ⟨n, g, e2, h0, h1⟩ := parse_tot d
 obtain ⟨r1, a', r2, r3, r4, r5⟩ := hr
 unfold m_i_serialReadercount
 rw [e, sb]
 show ∃ n r, (m_i_ParseInt d >>= _) = some (n, r) ∧ _
 rw [e2, sb]
 show ∃ n' r', (if r.fBad = true then _ else _) = some (n', r') ∧ _
 by_cases hb : r.fBad = true
 ·rw [if_pos hb]
  exact ⟨_, _, rfl, h0, h1, r1, a', r2, r3, r4, fun hb => Bool.noConfusion hb⟩
 ·rw [if_neg hb]
  exact ⟨_, _, rfl, h0, h1, r1, a', r2, r3, r4, fun _ => r5 (by simpa using hb)⟩
theorem signed_tot (s : Str) : ∃ n b, m69 s = some (n, b) := by
 obtain ⟨n, b, e, _⟩ := m98_some s (-1000000000) 1000000000
 unfold m69
 rw [e, sb]
 exact ⟨n, b, rfl⟩
theorem keyOf_tot (v : TValue) : ∃ k b, m_i_KeyOf v = some (k, b) := by
 have ht : ∃ k, m_i_TextKey v.fStr = some k := by
  obtain ⟨n, b, e⟩ := signed_tot v.fStr
  unfold m_i_TextKey
  rw [e, sb]
  cases b with
  | true => exact ⟨_, rfl⟩
  | false => exact ⟨_, rfl⟩
 obtain ⟨k, ek⟩ := ht
 unfold m_i_KeyOf
 split
 ·exact ⟨_, _, rfl⟩
 ·have tail : ∀ b2 : Bool, ∃ k b, (if b2 = true then some ((TKey.mk false v.fNum []), true) else (if v.fKind = 3 then m_i_TextKey v.fStr >>= fun v9 => some (v9, true) else some ((TKey.mk false 0 []), false))) = some (k, b) := fun b2 => by
   split
   ·exact ⟨_, _, rfl⟩
   split
   ·rw [ek, sb]; exact ⟨_, _, rfl⟩
   ·exact ⟨_, _, rfl⟩
  split
  ·rw [sb]; exact tail _
  ·rw [sb]; exact tail _
def Rv (s : Str) (a : Nat) (b : Bool) (v : TValue) (r : TSerialReader) : Prop := Rd s a b r v.wt
theorem wt_scal (k n : Int) (s : Str) (x : Int) : (TValue.mk k n s x []).wt = 1 := by rw [TValue.wt_eq]; rfl
theorem items_tot {s : Str} {d : Nat} (hd : d ≤ 1000) (hs : s.length ≤ 1000000000000) (hv : ∀ (a : Nat) (b : Bool), a ≤ s.length → ∃ v r, m_i_serialReadervalue (.mk s (a : Int) b) ((d + 1 : Nat) : Int) = some (v, r) ∧ Rv s a b v r) (n : Nat) (hn : n ≤ 200) (x : Int) :
  ∀ m i : Nat, i ≤ n → n - i = m → ∀ (p : Nat) (b : Bool) (l : List TEntry), p ≤ s.length → l.length = i → ∃ o, m_i_serialReaderarray_L2 (d : Int) (n : Int) x s (p : Int) b l (i : Int) = some o ∧
   ((∃ (p' : Nat) (b' : Bool) (l' : List TEntry), o = .inl (s, (p' : Int), b', l') ∧ p ≤ p' ∧ p' ≤ s.length ∧ (b' = false → b = false ∧ TEntry.wtL l' + p ≤ TEntry.wtL l + p')) ∨ ∃ v r, o = .inr (v, r) ∧ r.fBad = true ∧ Rd s p b r 0) := by
 intro m
 induction m with
 | zero =>
  intro i h1 h2 p b l hp hl
  rw [m_i_serialReaderarray_L2, if_neg (by omega)]
  exact ⟨_, rfl, .inl ⟨p, b, l, rfl, Nat.le_refl _, hp, fun h => ⟨h, Nat.le_refl _⟩⟩⟩
 | succ m ihm =>
  intro i h1 h2 p b l hp hl
  rw [m_i_serialReaderarray_L2, if_pos (by omega)]
  cases b with
  | true => rw [if_pos rfl]; exact ⟨_, rfl, .inl ⟨p, true, l, rfl, Nat.le_refl _, hp, fun h => Bool.noConfusion h⟩⟩
  | false =>
   obtain ⟨v1, r1, e1, s1, p1, t1, u1, w1, g1⟩ := hv p false hp
   obtain ⟨k, kb, ek⟩ := keyOf_tot v1
   rw [if_neg (by decide), w_of (x := (d : Int) + 1) (n := d + 1) (by omega) (by omega), e1, sb]
   show ∃ o, (m_i_KeyOf v1 >>= _) = some o ∧ _
   rw [ek, sb]
   show ∃ o, (if kb = true then _ else _) = some o ∧ _
   cases kb with
   | false =>
    rw [if_neg (by decide)]
    exact ⟨_, rfl, .inr ⟨_, _, rfl, rfl, s1, p1, t1, u1, w1, fun h => Bool.noConfusion h⟩⟩
   | true =>
    have er1 : r1 = .mk s (p1 : Int) r1.fBad := by cases r1; simp only at s1 t1; subst s1 t1; rfl
    obtain ⟨v2, r2, e2, s2, p2, t2, u2, w2, g2⟩ := hv p1 r1.fBad w1
    rw [if_pos rfl, er1, e2, sb]
    show ∃ o, (lapp 96 l [TEntry.mk k v2] >>= _) = some o ∧ _
    rw [lapp_eq (by simp only [List.length_cons, List.length_nil]; omega), sb, w_succ (by omega)]
    show ∃ o, m_i_serialReaderarray_L2 (d : Int) (n : Int) x r2.fS r2.fAt r2.fBad (l ++ [TEntry.mk k v2]) ((i + 1 : Nat) : Int) = some o ∧ _
    rw [s2, t2]
    obtain ⟨o, e3, h3⟩ := ihm (i + 1) (by omega) (by omega) p2 r2.fBad (l ++ [TEntry.mk k v2]) w2 (by rw [List.length_append, hl]; rfl)
    refine ⟨o, e3, ?_⟩
    rcases h3 with ⟨p', b', l', rfl, a1, a2, a3⟩ | ⟨v, r, rfl, a1, a2⟩
    ·refine .inl ⟨p', b', l', rfl, by omega, a2, fun hb => ?_⟩
     obtain ⟨c1, c2⟩ := a3 hb
     obtain ⟨c3, c4⟩ := g2 c1
     rw [wtL_app, wtL_cons, wtL_nil] at c2
     have e : (TEntry.mk k v2).fVal.wt = v2.wt := rfl
     exact ⟨rfl, by omega⟩
    ·obtain ⟨z1, z2, z3, z4, z5, z6⟩ := a2
     exact .inr ⟨v, r, rfl, a1, z1, z2, z3, by omega, z5, fun hb => by rw [a1] at hb; cases hb⟩
theorem array_tot {s : Str} {d : Nat} (hd : d ≤ 1000) (hs : s.length ≤ 1000000000000) (hv : ∀ (a : Nat) (b : Bool), a ≤ s.length → ∃ v r, m_i_serialReadervalue (.mk s (a : Int) b) ((d + 1 : Nat) : Int) = some (v, r) ∧ Rv s a b v r)
  {a : Nat} {b : Bool} (ha : a ≤ s.length) : ∃ v r, m_i_serialReaderarray (.mk s (a : Int) b) (d : Int) = some (v, r) ∧ Rv s a b v r := by
 obtain ⟨n, r1, e1, n0, n1, s1, p1, t1, u1, w1, g1⟩ := count_tot (b := b) ha hs
 have er1 : r1 = .mk s (p1 : Int) r1.fBad := by cases r1; simp only at s1 t1; subst s1 t1; rfl
 obtain ⟨q, r2, e2, s2, p2, t2, u2, w2, g2⟩ := until_tot (b := r1.fBad) 123 w1 hs
 obtain ⟨x, xb, e3, _, _⟩ := parse_tot q
 rw [← er1] at e2
 rw [m_i_serialReaderarray, e1, sb]
 show ∃ v r, (m_i_serialReaderuntil r1 123 >>= _) = some (v, r) ∧ _
 rw [e2, sb]
 show ∃ v r, (m_i_ParseInt q >>= _) = some (v, r) ∧ _
 rw [e3, sb]
 obtain ⟨N, rfl⟩ : ∃ N : Nat, n = (N : Int) := ⟨n.toNat, by omega⟩
 have tail : ∀ b53 : Bool, (b53 = false → N ≤ 200 ∧ r2.fBad = false) → ∃ v r, ((m_i_serialReaderarray_L2 (d : Int) (N : Int) x r2.fS r2.fAt b53 ([] : List TEntry) 0 : Option ((Str × Int × Bool × (List TEntry)) ⊕ (TValue × TSerialReader))) >>= fun o64 => match o64 with
  | .inr r => some r
  | .inl (s60, y61, b62, l63) =>
   (if b62 = true then
    some ((TValue.mk 4 0 [] x l63), (TSerialReader.mk s60 y61 b62))
   else
    m_i_serialReadereat (TSerialReader.mk s60 y61 b62) [125] >>= fun v100 =>
    some ((TValue.mk 4 0 [] x l63), v100))) = some (v, r) ∧ Rv s a b v r := fun b53 hb53 => by
  rw [s2, t2]
  have hbad : ∀ l : List TEntry, Rv s a b (TValue.mk 4 0 [] x l) (.mk s (p2 : Int) true) := fun l => ⟨rfl, p2, rfl, by omega, w2, fun h => Bool.noConfusion h⟩
  cases b53 with
  | true =>
   rw [m_i_serialReaderarray_L2]
   split
   ·rw [if_pos rfl, sb]
    exact ⟨_, _, rfl, hbad _⟩
   ·rw [sb]
    exact ⟨_, _, rfl, hbad _⟩
  | false =>
   obtain ⟨hN, hr2⟩ := hb53 rfl
   obtain ⟨h5, h6⟩ := g2 hr2
   obtain ⟨h7, h8⟩ := g1 h5
   obtain ⟨o, e4, ho⟩ := items_tot hd hs hv N hN x N 0 (by omega) (by omega) p2 false [] w2 rfl
   replace e4 : m_i_serialReaderarray_L2 (d : Int) (N : Int) x s (p2 : Int) false [] 0 = some o := e4
   rw [e4, sb]
   rcases ho with ⟨p', b', l', rfl, a1, a2, a3⟩ | ⟨v, r, rfl, a1, z1, z2, z3, z4, z5, z6⟩
   ·show ∃ v r, (if b' = true then _ else _) = some (v, r) ∧ _
    cases b' with
    | true => rw [if_pos rfl]; exact ⟨_, _, rfl, rfl, p', rfl, by omega, a2, fun h => Bool.noConfusion h⟩
    | false =>
     obtain ⟨_, c2⟩ := a3 rfl
     obtain ⟨r3, e5, s3, p3, t3, u3, w3, g3⟩ := eat_tot (d := [125]) (b := false) a2 hs
     rw [if_neg (by decide), e5, sb]
     refine ⟨_, _, rfl, s3, p3, t3, by omega, w3, fun h => ⟨h7, ?_⟩⟩
     have := (g3 h).2
     rw [wtL_nil] at c2
     rw [TValue.wt_eq, TValue.fItems_mk]
     simp only [List.length_cons, List.length_nil] at this
     omega
   ·exact ⟨_, _, rfl, z1, z2, z3, by omega, z5, fun h => by rw [a1] at h; cases h⟩
 show ∃ v r, ((if xb = true then (if (N : Int) > 200 then some true else some r2.fBad) else some true : Option Bool) >>= _) = some (v, r) ∧ _
 cases xb with
 | false => rw [if_neg (by decide), sb]; exact tail true (fun h => Bool.noConfusion h)
 | true =>
  rw [if_pos rfl]
  by_cases hN : (N : Int) > 200
  ·rw [if_pos hN, sb]; exact tail true (fun h => Bool.noConfusion h)
  ·rw [if_neg hN, sb]; exact tail r2.fBad (fun h => ⟨by omega, h⟩)
theorem value_tot {s : Str} (hs : s.length ≤ 1000000000000) : ∀ (k d : Nat), d + k = 202 → ∀ (a : Nat) (b : Bool), a ≤ s.length → ∃ v r, m_i_serialReadervalue (.mk s (a : Int) b) (d : Int) = some (v, r) ∧ Rv s a b v r := by
 intro k
 induction k with
 | zero =>
  intro d hd a b ha
  rw [m_i_serialReadervalue]
  show ∃ v r, (if (a : Int) ≥ (s.length : Int) then _ else _) = some (v, r) ∧ _
  split
  ·exact ⟨_, _, rfl, Rd.bad ha _⟩
  ·rw [if_pos (by omega)]; exact ⟨_, _, rfl, Rd.bad ha _⟩
 | succ k ihk =>
  intro d hd a b ha
  rw [m_i_serialReadervalue]
  show ∃ v r, (if (a : Int) ≥ (s.length : Int) then _ else _) = some (v, r) ∧ _
  split
  ·exact ⟨_, _, rfl, Rd.bad ha _⟩
  rename_i hlt
  split
  ·exact ⟨_, _, rfl, Rd.bad ha _⟩
  show ∃ v r, (sidx s (a : Int) >>= _) = some (v, r) ∧ _
  rw [sidx_nat (show a < s.length by omega), sb]
  generalize s.getD a 0 = c
  split
  ·obtain ⟨r1, e1, s1, p1, t1, u1, w1, g1⟩ := eat_tot (d := [78, 59]) (b := b) ha hs
   rw [e1, sb]
   refine ⟨_, _, rfl, s1, p1, t1, u1, w1, fun h => ⟨(g1 h).1, ?_⟩⟩
   have := (g1 h).2
   rw [wt_scal]
   simp only [List.length_cons, List.length_nil] at this
   omega
  ·obtain ⟨r1, e1, s1, p1, t1, u1, w1, g1⟩ := eat_tot (d := [c, 58]) (b := b) ha hs
   have er1 : r1 = .mk s (p1 : Int) r1.fBad := by cases r1; simp only at s1 t1; subst s1 t1; rfl
   rw [e1, sb]
   by_cases hb1 : r1.fBad = true
   ·rw [if_pos hb1]
    exact ⟨_, _, rfl, s1, p1, t1, u1, w1, fun h => by rw [hb1] at h; cases h⟩
   rw [if_neg hb1]
   have hb1 : r1.fBad = false := by simpa using hb1
   obtain ⟨hb, hp1⟩ := g1 hb1
   simp only [List.length_cons, List.length_nil] at hp1
   rw [er1, hb1]
   have bad : ∀ (v : TValue) (q : Nat), a ≤ q → q ≤ s.length → Rv s a b v (.mk s (q : Int) true) := fun v q h1 h2 => ⟨rfl, q, rfl, h1, h2, fun h => Bool.noConfusion h⟩
   have t2 : ∃ v r, ((if (c.toNat : Int) = 115 then
       m_i_serialReadercount (.mk s (p1 : Int) false) >>= fun (v27, v28) =>
       (if v28.fBad = true then
        some ((TValue.mk 0 0 [] 0 []), (TSerialReader.mk v28.fS v28.fAt true))
       else
        (if v27 > (W64 ((v28.fS.length : Int) - v28.fAt)) then
         some ((TValue.mk 0 0 [] 0 []), (TSerialReader.mk v28.fS v28.fAt true))
        else
         (
          ssub v28.fS v28.fAt (W64 (v28.fAt + v27)) >>= fun s36 =>
          some s36
          : Option (Str)) >>= fun s32 =>
         m_i_serialReadereat (TSerialReader.mk v28.fS (W64 (v28.fAt + v27)) v28.fBad) [59] >>= fun v38 =>
         some ((TValue.mk 3 0 s32 0 []), v38)))
      else
       (if (c.toNat : Int) = 97 then
        m_i_serialReaderarray (.mk s (p1 : Int) false) (d : Int) >>= fun (v41, v42) =>
        some (v41, v42)
       else
        some ((TValue.mk 0 0 [] 0 []), (TSerialReader.mk s (p1 : Int) true))) : Option (TValue × TSerialReader)) = some (v, r)) ∧ Rv s a b v r := by
    split
    ·obtain ⟨n, r3, e3, n0, n1, s3, p3, t3, u3, w3, g3⟩ := count_tot (b := false) w1 hs
     obtain ⟨N, rfl⟩ : ∃ N : Nat, n = (N : Int) := ⟨n.toNat, by omega⟩
     rw [e3, sb]
     show ∃ v r, (if r3.fBad = true then _ else _) = some (v, r) ∧ _
     by_cases hb3 : r3.fBad = true
     ·rw [if_pos hb3, s3, t3]; exact ⟨_, _, rfl, bad _ _ (by omega) w3⟩
     rw [if_neg hb3, s3, t3]
     have hb3 : r3.fBad = false := by simpa using hb3
     have e8 : W64 ((s.length : Int) - (p3 : Int)) = (s.length : Int) - (p3 : Int) := by rw [W64, w64 (by omega) (by omega)]
     rw [e8]
     split
     ·exact ⟨_, _, rfl, bad _ _ (by omega) w3⟩
     ·rename_i hN
      have e7 : W64 ((p3 : Int) + (N : Int)) = ((p3 + N : Nat) : Int) := w_of (by simp) (by omega)
      have e6 : ssub s (p3 : Int) ((p3 + N : Nat) : Int) = some ((s.take (p3 + N)).drop p3) := by unfold ssub; rw [if_pos ⟨by omega, by omega, by omega⟩]; rfl
      obtain ⟨r4, e4, s4, p4, t4, u4, w4, g4⟩ := eat_tot (s := s) (a := p3 + N) (d := [59]) (b := r3.fBad) (by omega) hs
      rw [e7, e6, sb, sb, e4, sb]
      refine ⟨_, _, rfl, s4, p4, t4, by omega, w4, fun h => ⟨hb, ?_⟩⟩
      have := (g4 h).2
      rw [wt_scal]
      omega
    ·split
     ·obtain ⟨v, r, e, he⟩ := array_tot (d := d) (by omega) hs (fun a b ha => ihk (d + 1) (by omega) a b ha) (b := false) w1
      obtain ⟨s5, p5, t5, u5, w5, g5⟩ := he
      rw [e, sb]
      exact ⟨_, _, rfl, s5, p5, t5, by omega, w5, fun h => ⟨hb, by have := (g5 h).2; omega⟩⟩
     ·exact ⟨_, _, rfl, bad _ _ (by omega) w1⟩
   have t1' : ∃ v r, (m_i_serialReaderuntil (.mk s (p1 : Int) false) 59 >>= fun (v17, v18) =>
      m69 v17 >>= fun (v20, v21) =>
      (if v18.fBad = true then
       (if (c.toNat : Int) = 98 then
        some ((TValue.mk 1 v20 [] 0 []), (TSerialReader.mk v18.fS v18.fAt true))
       else
        some ((TValue.mk 2 v20 [] 0 []), (TSerialReader.mk v18.fS v18.fAt true)))
      else
       (if (c.toNat : Int) = 98 then
        some ((TValue.mk 1 v20 [] 0 []), (TSerialReader.mk v18.fS v18.fAt (!v21)))
       else
        some ((TValue.mk 2 v20 [] 0 []), (TSerialReader.mk v18.fS v18.fAt (!v21)))))) = some (v, r) ∧ Rv s a b v r := by
    obtain ⟨q, r3, e3, s3, p3, t3, u3, w3, g3⟩ := until_tot (b := false) 59 w1 hs
    obtain ⟨n, nbW, e4⟩ := signed_tot q
    rw [e3, sb]
    show ∃ v r, (m69 q >>= _) = some (v, r) ∧ _
    rw [e4, sb]
    show ∃ v r, (if r3.fBad = true then _ else _) = some (v, r) ∧ _
    rw [s3, t3]
    have fin : ∀ (k : Int) (g : Bool), r3.fBad = false → Rv s a b (.mk k n [] 0 []) (.mk s (p3 : Int) g) := fun k g h => ⟨rfl, p3, rfl, by omega, w3, fun _ => ⟨hb, by rw [wt_scal]; have := (g3 h).2; omega⟩⟩
    by_cases hb3 : r3.fBad = true
    ·rw [if_pos hb3]
     split
     ·exact ⟨_, _, rfl, bad _ _ (by omega) w3⟩
     ·exact ⟨_, _, rfl, bad _ _ (by omega) w3⟩
    ·rw [if_neg hb3]
     have hb3 : r3.fBad = false := by simpa using hb3
     split
     ·exact ⟨_, _, rfl, fin _ _ hb3⟩
     ·exact ⟨_, _, rfl, fin _ _ hb3⟩
   split
   ·rename_i h98
    rw [sb]
    show ∃ v r, (if ((c.toNat : Int) == 98) = true then _ else _) = some (v, r) ∧ _
    simp only [if_pos h98] at t1'
    split
    ·exact t1'
    ·exact t2
   ·rename_i h98
    rw [sb]
    show ∃ v r, (if ((c.toNat : Int) == 105) = true then _ else _) = some (v, r) ∧ _
    simp only [if_neg h98] at t1'
    split
    ·exact t1'
    ·exact t2
theorem unser_tot {s : Str} (hs : s.length ≤ 2000000) : ∃ v b, m_i_Unserialize s = some (v, b) ∧ v.wt ≤ 2000000 ∧ (b = true → m_i_Serialize v = some (s, true)) := by
 obtain ⟨v, r, e, s1, p1, t1, u1, w1, g1⟩ := value_tot (s := s) (by omega) 202 0 rfl 0 false (Nat.zero_le _)
 replace e : m_i_serialReadervalue (.mk s 0 false) 0 = some (v, r) := e
 unfold m_i_Unserialize
 rw [e, sb]
 show ∃ v' b, (if r.fBad = true then _ else _) = some (v', b) ∧ _
 have nul : (TValue.mk 0 0 [] 0 []).wt ≤ 2000000 := by rw [wt_scal]; omega
 by_cases hb : r.fBad = true
 ·rw [if_pos hb]; exact ⟨_, _, rfl, nul, fun h => Bool.noConfusion h⟩
 rw [if_neg hb]
 have hb : r.fBad = false := by simpa using hb
 have hw : v.wt ≤ 2000000 := by have := (g1 hb).2; omega
 split
 ·obtain ⟨g, hg⟩ : ∃ g, g = (if (decide (v.kw ≤ 200) && v.vok) && v.plain then (v.ser, true) else (([] : Str), false)) := ⟨_, rfl⟩
  have e2 := serialize_eq hw
  rw [← hg] at e2
  obtain ⟨t, f⟩ := g
  rw [e2, sb]
  show ∃ v' b, (if f = true then _ else _) = some (v', b) ∧ _
  cases f with
  | false => rw [if_neg (by decide)]; exact ⟨_, _, rfl, nul, fun h => Bool.noConfusion h⟩
  | true =>
   rw [if_pos rfl]
   by_cases ht : t = s
   ·rw [if_pos ht]; exact ⟨_, _, rfl, hw, fun _ => by rw [e2, ht]⟩
   ·rw [if_neg ht]; exact ⟨_, _, rfl, nul, fun h => Bool.noConfusion h⟩
 ·exact ⟨_, _, rfl, nul, fun h => Bool.noConfusion h⟩
end Go.Am
