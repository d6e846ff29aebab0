/- The law on tokens. -/
import Derived.Test.YtbdanphebcjmmaaDoorK2
import Derived.Test.YtbdanphebcjmmaaDoorE1
set_option linter.unusedVariables false
set_option linter.unusedSimpArgs false
namespace Go.Am
open Go Go.RowKit Go.Proofs

/-! ### The tokens stand where they say -/
theorem tag_some (c : UInt8) (d : Str) : ∃ g : Bool, (if (c.toNat : Int) = 63 then
            (if d = ([59] : Str) then
              some true
            else
              (some c : Option UInt8) >>= fun c49 =>
              (if (c49.toNat : Int) = 60 then
                some (d == ([101, 99, 104, 111] : Str))
              else
                some false))
          else
            (some c : Option UInt8) >>= fun c52 =>
            (if (c52.toNat : Int) = 60 then
              some (d == ([101, 99, 104, 111] : Str))
            else
              some false)) = some g ∧ (c = 63 ∧ d = [59] → g = true) ∧ (c = 60 ∧ d = [101, 99, 104, 111] → g = true) := by
  by_cases h1 : c = 63
  · subst h1
    rw [if_pos (by decide)]
    by_cases h2 : d = ([59] : Str)
    · rw [if_pos h2]; exact ⟨true, rfl, fun _ => rfl, fun _ => rfl⟩
    · rw [if_neg h2, sb, if_neg (by decide)]
      exact ⟨false, rfl, fun h => absurd h.2 h2, fun h => absurd h.1 (by decide)⟩
  · have hn : ¬ (c.toNat : Int) = 63 := fun h => h1 (UInt8.toNat_inj.1 (show c.toNat = 63 by omega))
    rw [if_neg hn, sb]
    by_cases h2 : c = 60
    · subst h2
      rw [if_pos (by decide)]
      exact ⟨_, rfl, fun h => absurd h.1 h1, fun h => by simp [h.2]⟩
    · have hn2 : ¬ (c.toNat : Int) = 60 := fun h => h2 (UInt8.toNat_inj.1 (show c.toNat = 60 by omega))
      rw [if_neg hn2]
      exact ⟨false, rfl, fun h => absurd h.1 h1, fun h => absurd h.1 h2⟩
theorem law_loop {s : Str} {l : List TToken} {a : Nat} (hs : s.length ≤ 100000) (h : TOK s l a) (ha : a ≤ 100000) : ∀ m i : Nat, i ≤ l.length → l.length - i = m → m_l_FnLexed_L2 l s (i : Int) = some (.inl ()) := by
  have hll := h.len
  intro m
  induction m with
  | zero => intro i h1 h2; rw [m_l_FnLexed_L2, if_neg (by omega)]
  | succ m ihm =>
    intro i h1 h2
    have hlt : i < l.length := by omega
    have ih := ihm (i + 1) (by omega) (by omega)
    obtain ⟨p, hp, hpl, d, hd, hfit⟩ := h.good _ (List.getElem_mem hlt)
    obtain ⟨g, eg, g1, g2⟩ := tag_some (s.getD p 0) d
    rw [m_l_FnLexed_L2, if_pos (by omega), idx_nat hlt, sb, hd, sb, sb, sb, hp]
    -- the order
    have hord : ∃ b, (if (p : Int) < 0 then
        some (.inr (.inr false))
      else
        (if (p : Int) ≥ (s.length : Int) then
          some (.inr (.inr false))
        else
          (if (i : Int) > 0 then
            idx l (W64 ((i : Int) - 1)) >>= fun x38 =>
            (if x38.fAt ≥ (p : Int) then
              some (.inr (.inr false))
            else
              some (.inl (true, (decide (x38.fAt ≥ (p : Int))))))
          else
            some (.inl (false, false)))) : Option ((Bool × Bool) ⊕ ((Unit) ⊕ Bool))) = some (.inl b) := by
      rw [if_neg (by omega), if_neg (by omega)]
      by_cases hi : (i : Int) > 0
      · obtain ⟨j, rfl⟩ : ∃ j : Nat, i = j + 1 := ⟨i - 1, by omega⟩
        have hj : j < l.length := by omega
        have w : W64 (((j + 1 : Nat) : Int) - 1) = (j : Int) := w_of (by omega) (by omega)
        have := List.pairwise_iff_getElem.1 h.inc j (j + 1) hj hlt (by omega)
        rw [if_pos hi, w, idx_nat hj, sb, if_neg (by rw [← hp]; omega)]
        exact ⟨_, rfl⟩
      · rw [if_neg hi]; exact ⟨_, rfl⟩
    obtain ⟨⟨b1, b2⟩, eb⟩ := hord
    rw [eb, sb, sidx_nat hpl, sb]
    show ((_ : Option Bool) >>= _) = _
    rw [eg, sb, sb, w_succ (by omega), ih]
    by_cases hk : l[i].fKind = 5
    · rw [if_pos hk]
    rw [if_neg hk]
    by_cases hg : g = true
    · rw [if_pos hg]
    rw [if_neg hg]
    rcases hfit with hf | ⟨hf1, hf2⟩ | ⟨hf1, hf2⟩ | hf
    · exact absurd hf hk
    · exact absurd (g1 ⟨hf1, hf2⟩) hg
    · exact absurd (g2 ⟨hf1, hf2⟩) hg
    · have hl := hf.length_le
      rw [List.length_drop] at hl
      obtain ⟨r, hr⟩ := hf
      have w1 : W64 ((s.length : Int) - (p : Int)) = (s.length : Int) - (p : Int) := by rw [W64, w64 (by omega) (by omega)]
      have w2 : W64 ((p : Int) + (d.length : Int)) = ((p + d.length : Nat) : Int) := w_of (by simp) (by omega)
      rw [w1, if_neg (by omega), w2, ssub_drop hr.symm (by omega), sb, if_pos rfl]

/-! ### A quoted text is one token -/
def qt1 (c : UInt8) : Str := if c = 39 ∨ c = 92 then [92, c] else [c]
def qt (q : Str) : Str := q.flatMap qt1
theorem qt_cons (c : UInt8) (q : Str) : qt (c :: q) = qt1 c ++ qt q := by unfold qt; rw [List.flatMap_cons]
theorem qt1_len (c : UInt8) : 1 ≤ (qt1 c).length ∧ (qt1 c).length ≤ 2 := by unfold qt1; split <;> simp
theorem qt_len : ∀ q : Str, (qt q).length ≤ 2 * q.length
  | [] => by simp [qt]
  | c :: q => by rw [qt_cons, List.length_append, List.length_cons]; have := qt_len q; have := (qt1_len c).2; omega
theorem quote_eq (q : Str) (hq : q.length ≤ 1000) : m_i_QuoteText q = some (39 :: qt q ++ [39]) := by
  have go : ∀ m i : Nat, i ≤ q.length → q.length - i = m → ∀ l : Str, l.length ≤ 1 + 2 * i → m_i_QuoteText_L2 q l (i : Int) = some (l ++ qt (q.drop i)) := by
    intro m
    induction m with
    | zero => intro i h1 h2 l hl; rw [m_i_QuoteText_L2, if_neg (by omega), List.drop_of_length_le (by omega)]; simp [qt]
    | succ m ihm =>
      intro i h1 h2 l hl
      have hlt : i < q.length := by omega
      have ih := fun l hl => ihm (i + 1) (by omega) (by omega) l hl
      have hg : q.getD i 0 = q[i] := by rw [List.getD_eq_getElem?_getD, List.getElem?_eq_getElem hlt]; rfl
      rw [m_i_QuoteText_L2, if_pos (by omega), sidx_nat hlt, sb, w_succ (by omega), hg, List.drop_eq_getElem_cons hlt, qt_cons]
      generalize q[i] = c
      by_cases h39 : c = 39
      · subst h39
        rw [if_pos (by decide), lapp_eq (by simp only [List.length_cons, List.length_nil]; omega), sb, sb, lapp_eq (by simp only [List.length_append, List.length_cons, List.length_nil]; omega), sb, ih _ (by simp only [List.length_append, List.length_cons, List.length_nil]; omega)]
        simp [qt1]
      · have hn : ¬ (c.toNat : Int) = 39 := fun h => h39 (UInt8.toNat_inj.1 (show c.toNat = 39 by omega))
        rw [if_neg hn, sb]
        by_cases h92 : c = 92
        · subst h92
          rw [if_pos (by decide), lapp_eq (by simp only [List.length_cons, List.length_nil]; omega), sb, sb, lapp_eq (by simp only [List.length_append, List.length_cons, List.length_nil]; omega), sb, ih _ (by simp only [List.length_append, List.length_cons, List.length_nil]; omega)]
          simp [qt1]
        · have hn2 : ¬ (c.toNat : Int) = 92 := fun h => h92 (UInt8.toNat_inj.1 (show c.toNat = 92 by omega))
          rw [if_neg hn2, sb, lapp_eq (by simp only [List.length_cons, List.length_nil]; omega), sb, ih _ (by simp only [List.length_append, List.length_cons, List.length_nil]; omega)]
          simp [qt1, h39, h92]
  have e := go q.length 0 (by omega) (by omega) [39] (by simp)
  replace e : m_i_QuoteText_L2 q [39] 0 = some ([39] ++ qt q) := e
  have hl := qt_len q
  unfold m_i_QuoteText
  rw [e, sb, lapp_eq (by simp only [List.length_append, List.length_cons, List.length_nil]; omega), sb]
  rfl
theorem text_back {s : Str} {a : Nat} {l : List TToken} (hl : l.length ≤ 1000) (q : Str) (hq : q.length ≤ 400) (ha : a ≤ 1000) :
    m_i_lexertext (.mk s (a : Int) l 0) (39 :: qt q ++ [39]) = some (.mk s ((a + (39 :: qt q ++ [39]).length : Nat) : Int) (l ++ [.mk 5 0 q (a : Int)]) 0) := by
  have hql := qt_len q
  have hlen : (39 :: qt q ++ [39] : Str).length = (qt q).length + 2 := by simp
  have go : ∀ m j : Nat, j ≤ q.length → q.length - j = m → ∀ i : Nat, (39 :: qt q ++ [39] : Str).drop i = qt (q.drop j) ++ [39] → m_i_lexertext_L2 (.mk s (a : Int) l 0) (39 :: qt q ++ [39]) (q.take j) (i : Int) =
      some (.inr (.mk s ((a + (39 :: qt q ++ [39] : Str).length : Nat) : Int) (l ++ [.mk 5 0 q (a : Int)]) 0)) := by
    generalize hR : (39 :: qt q ++ [39] : Str) = R at hlen ⊢
    intro m
    induction m with
    | zero =>
      intro j h1 h2 i h3
      have : j = q.length := by omega
      subst this
      rw [List.drop_length] at h3
      have h3' : R.drop i = 39 :: [] := h3
      obtain ⟨hi, _⟩ := drop_at h3'
      have hend := congrArg List.length h3'
      rw [List.length_drop] at hend
      simp only [List.length_cons, List.length_nil] at hend
      rw [List.take_length, m_i_lexertext_L2, if_pos (by omega), sidx_drop h3', sb, if_pos (by decide), if_neg (by omega), w_succ (by omega), add_ok (by omega) 5 0 q (by omega), sb]
      congr 6
      omega
    | succ m ihm =>
      intro j h1 h2 i h3
      have hlt : j < q.length := by omega
      have htk := List.take_append_getElem hlt
      have htl : (q.take j).length ≤ 400 := by rw [List.length_take]; omega
      rw [List.drop_eq_getElem_cons hlt, qt_cons] at h3
      generalize q[j] = c at h3 htk
      by_cases hsp : c = 39 ∨ c = 92
      · have e1 : qt1 c = [92, c] := by unfold qt1; rw [if_pos hsp]
        rw [e1] at h3
        have h3' : R.drop i = 92 :: (c :: (qt (q.drop (j + 1)) ++ [39])) := by rw [h3]; rfl
        have h4 : R.drop (i + 1) = c :: (qt (q.drop (j + 1)) ++ [39]) := drop_next (d := [92]) h3'
        have h5 : R.drop (i + 1 + 1) = qt (q.drop (j + 1)) ++ [39] := drop_next (d := [c]) h4
        obtain ⟨hi, _⟩ := drop_at h3'
        obtain ⟨hi2, _⟩ := drop_at h4
        have ih := ihm (j + 1) (by omega) (by omega) _ h5
        have s2 := sidx_drop h4
        rw [m_i_lexertext_L2, if_pos (by omega), sidx_drop h3', sb, if_neg (by decide), sb, if_pos (by decide), w_succ (by omega), if_pos (by omega), s2, sb, w_succ (by omega)]
        rcases hsp with rfl | rfl
        · rw [if_pos (by decide), sb, lapp_eq (by simp only [List.length_cons, List.length_nil]; omega), sb, htk]
          exact ih
        · rw [if_neg (by decide), sb, if_pos (by decide), sb, lapp_eq (by simp only [List.length_cons, List.length_nil]; omega), sb, htk]
          exact ih
      · have e1 : qt1 c = [c] := by unfold qt1; rw [if_neg hsp]
        rw [e1] at h3
        have h3' : R.drop i = c :: (qt (q.drop (j + 1)) ++ [39]) := by rw [h3]; rfl
        have h5 : R.drop (i + 1) = qt (q.drop (j + 1)) ++ [39] := drop_next (d := [c]) h3'
        obtain ⟨hi, _⟩ := drop_at h3'
        have ih := ihm (j + 1) (by omega) (by omega) _ h5
        have n39 : ¬ (c.toNat : Int) = 39 := fun h => hsp (.inl (UInt8.toNat_inj.1 (show c.toNat = 39 by omega)))
        have n92 : ¬ (c.toNat : Int) = 92 := fun h => hsp (.inr (UInt8.toNat_inj.1 (show c.toNat = 92 by omega)))
        rw [m_i_lexertext_L2, if_pos (by omega), sidx_drop h3', sb, if_neg n39, sb, if_neg n92, sb, lapp_eq (by simp only [List.length_cons, List.length_nil]; omega), sb, htk, w_succ (by omega)]
        exact ih
  have e := go q.length 0 (by omega) (by omega) 1 rfl
  replace e : m_i_lexertext_L2 (.mk s (a : Int) l 0) (39 :: qt q ++ [39]) [] 1 = _ := e
  unfold m_i_lexertext
  rw [e, sb]
theorem sfrom_nat {s : Str} {a : Nat} (h : a ≤ s.length) : sfrom s (a : Int) = some (s.drop a) := by unfold sfrom; rw [if_pos ⟨by omega, by omega⟩, Int.toNat_natCast]
theorem lex_quote (q : Str) (hq : q.length ≤ 400) : m_i_Lex ([60, 63, 32] ++ (39 :: qt q ++ [39])) = some ([.mk 5 0 q 3], 0, 0) := by
  have hql := qt_len q
  have hQ : ((39 :: qt q ++ [39]) : Str).length = (qt q).length + 2 := by simp
  have hsl : ([60, 63, 32] ++ (39 :: qt q ++ [39]) : Str).length = (qt q).length + 5 := by simp
  have d2 : ([60, 63, 32] ++ (39 :: qt q ++ [39]) : Str).drop 2 = 32 :: 39 :: (qt q ++ [39]) := rfl
  have d3 : ([60, 63, 32] ++ (39 :: qt q ++ [39]) : Str).drop 3 = 39 :: (qt q ++ [39]) := rfl
  have hp3 : Lib.hasPrefix ([60, 63, 32] ++ (39 :: qt q ++ [39]) : Str) [60, 63, 61] = false := rfl
  have hix : Lib.index ([60, 63, 32] ++ (39 :: qt q ++ [39]) : Str) [60, 63] = 0 := by
    show Lib.index (60 :: ([63, 32] ++ (39 :: qt q ++ [39]))) [60, 63] = 0
    unfold Lib.index
    rw [if_pos (by rfl)]
  have tb := text_back (s := [60, 63, 32] ++ (39 :: qt q ++ [39])) (a := 3) (l := []) (by simp) q hq (by omega)
  generalize hS : ([60, 63, 32] ++ (39 :: qt q ++ [39]) : Str) = S at hsl d2 d3 hp3 hix tb ⊢
  -- the head
  have ei : m_i_lexerinline (.mk S 0 [] 0) = some (.mk S 2 [] 0) := by
    have e1 : sfrom S 0 = some S := sfrom_nat (a := 0) (by omega)
    have e2 : m64 S [60, 63] = some (Lib.index S [60, 63]) := by unfold m64; rw [if_pos (by omega)]
    unfold m_i_lexerinline
    dsimp only
    rw [e1, sb, e2, sb, hix, if_neg (by decide), sb, if_neg (by decide), sb]
    show (if (0 : Int) = (S.length : Int) then _ else _) = _
    rw [if_neg (by omega), e1, sb, m66_some, sb, hp3, if_neg (by decide)]
    rfl
  -- the space
  have et2 : m_i_lexertoken (.mk S 2 [] 0) = some (.mk S 3 [] 0) := by
    have e1 : sfrom S 2 = some (32 :: 39 :: (qt q ++ [39])) := by rw [← d2]; exact sfrom_nat (a := 2) (by omega)
    have e2 : sidx (32 :: 39 :: (qt q ++ [39])) 0 = some 32 := sidx_nat (i := 0) (by simp)
    unfold m_i_lexertoken
    dsimp only
    rw [e1, sb, e2, sb, if_pos (by decide), sb, if_pos rfl]
    rfl
  -- the text
  have et3 : m_i_lexertoken (.mk S 3 [] 0) = some (.mk S (S.length : Int) [.mk 5 0 q 3] 0) := by
    have e1 : sfrom S 3 = some (39 :: (qt q ++ [39])) := by rw [← d3]; exact sfrom_nat (a := 3) (by omega)
    have e2 : sidx (39 :: (qt q ++ [39])) 0 = some 39 := sidx_nat (i := 0) (by simp)
    have e3 : m_i_nameLength (39 :: (qt q ++ [39])) = some 0 := by
      unfold m_i_nameLength
      rw [m_i_nameLength_L2, if_pos (by simp; omega), e2, sb]
      rfl
    have e4 : m_i_isDigit ((39 : UInt8).toNat : Int) = some false := rfl
    unfold m_i_lexertoken
    dsimp only
    rw [e1, sb, e2, sb, if_neg (by decide), if_neg (by decide), if_neg (by decide), sb]
    rw [if_neg (by decide), m66_some, sb, if_neg (show ¬ Lib.hasPrefix (39 :: (qt q ++ [39])) [63, 62] = true by intro h; cases h), m66_some, sb, if_neg (show ¬ Lib.hasPrefix (39 :: (qt q ++ [39])) [47, 47] = true by intro h; cases h),
      if_neg (by decide), e3, sb, if_neg (by decide), e4, sb, sb, if_neg (by decide), if_pos (by decide)]
    have tb' : m_i_lexertext (.mk S 3 [] 0) (39 :: (qt q ++ [39])) = some (.mk S ((3 + (39 :: qt q ++ [39] : Str).length : Nat) : Int) [.mk 5 0 q 3] 0) := tb
    rw [tb', sb, hQ, hsl]
    congr 3
    omega
  have e2 : m_i_Lex_L2 S S 2 0 [] = some (S, (S.length : Int), 0, [.mk 5 0 q 3]) := by
    rw [m_i_Lex_L2, if_pos rfl, if_pos (by omega), sb]
    show (m_i_lexertoken (.mk S 2 [] 0) >>= _) = _
    rw [et2, sb]
    show m_i_Lex_L2 S S 3 0 [] = _
    rw [m_i_Lex_L2, if_pos rfl, if_pos (by omega), sb]
    show (m_i_lexertoken (.mk S 3 [] 0) >>= _) = _
    rw [et3, sb]
    show m_i_Lex_L2 S S (S.length : Int) 0 [.mk 5 0 q 3] = _
    rw [m_i_Lex_L2, if_pos rfl, if_neg (by omega), sb]
  unfold m_i_Lex
  rw [sb, if_neg (by omega), sb, sb, ei, sb]
  show (m_i_Lex_L2 S S 2 0 [] >>= _) = _
  rw [e2, sb]
  rfl

theorem law_lexed (code : List UInt8) : m_l_FnLexed code = some true := by
  unfold m_l_FnLexed
  by_cases hb : (code.length : Int) > 1048576
  · rw [if_pos hb]
  rw [if_neg hb]
  obtain ⟨s, e, hs⟩ := drawLex_ok (b := code) (by omega)
  obtain ⟨q, eq, hq⟩ := drawQuote_ok (b := code) (by omega)
  obtain ⟨l, k, y, el, hk, ht⟩ := lex_ok (s := s) (by omega)
  have lp := law_loop (by omega) ht (by omega) l.length 0 (by omega) (by omega)
  replace lp : m_l_FnLexed_L2 l s 0 = some (.inl ()) := lp
  have hql := qt_len q
  rw [e, sb]
  show ((m_i_Lex s >>= _) >>= _) = _
  rw [el, sb, sb]
  show (m_l_FnLexed_L2 l s 0 >>= _) = _
  rw [lp, sb, eq, sb, quote_eq q (by omega), sb, scat_eq (by simp only [List.length_append, List.length_cons, List.length_nil]; omega), sb, lex_quote q (by omega), sb, sb]
  show (if k = 0 then _ else _) = _
  have e5 : idx [TToken.mk 5 0 q 3] 0 = some (TToken.mk 5 0 q 3) := rfl
  have fin : (if (0 : Int) = 0 then
            (if ((([TToken.mk 5 0 q 3] : List TToken).length : Nat) : Int) = 1 then
              idx [TToken.mk 5 0 q 3] 0 >>= fun x85 =>
              (if x85.fKind = 5 then
                idx [TToken.mk 5 0 q 3] 0 >>= fun x88 =>
                some (x88.fText == q)
              else
                some false)
            else
              some false)
          else
            some false) = some true := by
    rw [if_pos rfl, if_pos (show ((([TToken.mk 5 0 q 3] : List TToken).length : Nat) : Int) = 1 from rfl), e5, sb, if_pos rfl, sb]
    simp
  by_cases hk0 : k = 0
  · rw [if_pos hk0]; exact fin
  · have hl : l = [] := hk.resolve_left hk0
    rw [if_neg hk0, if_pos (by rw [hl]; rfl)]; exact fin
theorem lawLexed (code : List UInt8) : ACall Tryd.prog 3 [sl 1 cB code] [] (fun res _ => res = .bool true) :=
  (ok_l_FnLexed (law_lexed code)).mono (fun _ _ h => h.1)

end Go.Am
