/- The lexer: its tokens stand where they say. -/
import Derived.Test.YtbdanphebcjmmaaDoorK1
import Derived.Lib.IndexMore
set_option linter.unusedVariables false
set_option linter.unusedSimpArgs false
namespace Go.Am
open Go Go.RowKit Go.Proofs

/-- A token that stands where it says. -/
def Good (s : Str) (t : TToken) : Prop := ∃ p : Nat, t.fAt = (p : Int) ∧ p < s.length ∧ ∃ d, m_i_TokenText t = some d ∧ (t.fKind = 5 ∨ (s.getD p 0 = 63 ∧ d = [59]) ∨ (s.getD p 0 = 60 ∧ d = [101, 99, 104, 111]) ∨ d <+: s.drop p)
structure TOK (s : Str) (l : List TToken) (a : Nat) : Prop where
  good : ∀ t ∈ l, Good s t
  lt : ∀ t ∈ l, t.fAt < (a : Int)
  inc : l.Pairwise (fun t u => t.fAt < u.fAt)
  len : l.length ≤ a
theorem TOK.mono {s : Str} {l : List TToken} {a b : Nat} (h : TOK s l a) (hab : a ≤ b) : TOK s l b := ⟨h.good, fun t ht => by have := h.lt t ht; omega, h.inc, by have := h.len; omega⟩
theorem TOK.push {s : Str} {l : List TToken} {a b : Nat} (h : TOK s l a) {t : TToken} (hg : Good s t) (ht : t.fAt = (a : Int)) (hab : a < b) : TOK s (l ++ [t]) b := by
  refine ⟨fun u hu => ?_, fun u hu => ?_, ?_, ?_⟩
  · rcases List.mem_append.1 hu with h1 | h1
    · exact h.good u h1
    · rw [List.mem_singleton] at h1; subst h1; exact hg
  · rcases List.mem_append.1 hu with h1 | h1
    · have := h.lt u h1; omega
    · rw [List.mem_singleton] at h1; subst h1; omega
  · rw [List.pairwise_append]
    refine ⟨h.inc, by simp, fun u hu v hv => ?_⟩
    rw [List.mem_singleton] at hv
    subst hv
    rw [ht]; exact h.lt u hu
  · rw [List.length_append]; have := h.len; simp only [List.length_cons, List.length_nil]; omega
theorem add_ok {s : Str} {a z : Nat} {l : List TToken} {c : Int} (hl : l.length ≤ 1000000) (k n : Int) (x : Str) (hz : a + z ≤ 1000000) :
    m_i_lexeradd (.mk s (a : Int) l c) k n x (z : Int) = some (.mk s ((a + z : Nat) : Int) (l ++ [.mk k n x (a : Int)]) c) := by
  unfold m_i_lexeradd
  show (lapp 40 l [TToken.mk k n x (a : Int)] >>= _) = _
  rw [lapp_eq (by simp only [List.length_cons, List.length_nil]; omega), sb]
  show some (TLexer.mk s (W64 ((a : Int) + (z : Int))) _ c) = _
  rw [w_of (n := a + z) (by simp) (by omega)]
theorem pre_len {d : Str} {s : Str} {a : Nat} (h : d <+: s.drop a) (hd : 0 < d.length) : a + d.length ≤ s.length := by
  have := h.length_le
  rw [List.length_drop] at this
  omega
theorem pre_of {s d : Str} (h : m66 s d = some true) : d <+: s := by
  unfold m66 Lib.hasPrefix at h
  exact List.isPrefixOf_iff_prefix.1 (Option.some.inj h)
theorem m66_some (s d : Str) : m66 s d = some (Lib.hasPrefix s d) := rfl
theorem pre_hp {s d : Str} (h : Lib.hasPrefix s d = true) : d <+: s := List.isPrefixOf_iff_prefix.1 h
theorem pre_head {s : Str} {a : Nat} {c : UInt8} {d : Str} (h : (c :: d) <+: s.drop a) : a < s.length ∧ s.getD a 0 = c := by
  obtain ⟨r, hr⟩ := h
  exact drop_at (r := d ++ r) (by rw [← hr]; rfl)
theorem take_pre (s : Str) (n : Nat) : s.take n <+: s := List.take_prefix n s

theorem inline_ok {s : Str} {a : Nat} {l : List TToken} {c : Int} (h : TOK s l a) (ha : a ≤ s.length) (hs : s.length ≤ 100000) : ∃ (b : Nat) (l' : List TToken), m_i_lexerinline (.mk s (a : Int) l c) = some (.mk s (b : Int) l' c) ∧ a ≤ b ∧ b ≤ s.length ∧ TOK s l' b := by
  have hll := h.len
  have e1 : sfrom s (a : Int) = some (s.drop a) := by unfold sfrom; rw [if_pos ⟨by omega, by omega⟩, Int.toNat_natCast]
  have e2 : m64 (s.drop a) [60, 63] = some (Lib.index (s.drop a) [60, 63]) := by unfold m64; rw [if_pos (by rw [List.length_drop]; omega)]
  have hlen : (s.drop a).length = s.length - a := List.length_drop
  -- where the inline text ends
  obtain ⟨n, hn, hn1, hn2⟩ : ∃ n : Nat, (if Lib.index (s.drop a) [60, 63] < 0 then some ((s.drop a).length : Int) else some (Lib.index (s.drop a) [60, 63])) = some (n : Int) ∧ a + n ≤ s.length ∧ (a + n < s.length → a + n + 2 ≤ s.length) := by
    by_cases hi : Lib.index (s.drop a) [60, 63] < 0
    · rw [if_pos hi]; exact ⟨_, rfl, by omega, fun h => by omega⟩
    · have hr := Lib.index_room (s.drop a) [60, 63] (by omega)
      simp only [List.length_cons, List.length_nil] at hr
      rw [if_neg hi]
      exact ⟨(Lib.index (s.drop a) [60, 63]).toNat, by congr 1; omega, by omega, fun _ => by omega⟩
  unfold m_i_lexerinline
  show ∃ (b : Nat) (l' : List TToken), (sfrom s (a : Int) >>= _) = some (TLexer.mk s (b : Int) l' c) ∧ _
  rw [e1, sb, e2, sb, hn, sb]
  -- behind the inline text
  have tail : ∀ l2 : List TToken, TOK s l2 (a + n) → ∃ (b : Nat) (l' : List TToken), (if ((a + n : Nat) : Int) = (s.length : Int) then
        some (TLexer.mk s ((a + n : Nat) : Int) l2 c)
      else
        sfrom s ((a + n : Nat) : Int) >>= fun s25 =>
        m66 s25 [60, 63, 61] >>= fun v27 =>
        (if v27 = true then
          m_i_lexeradd (TLexer.mk s ((a + n : Nat) : Int) l2 c) 3 0 [101, 99, 104, 111] 3 >>= fun v30 =>
          some v30
        else
          some (TLexer.mk s (W64 (((a + n : Nat) : Int) + 2)) l2 c))) = some (.mk s (b : Int) l' c) ∧ a ≤ b ∧ b ≤ s.length ∧ TOK s l' b := fun l2 h2 => by
    have hl2 := h2.len
    split
    · exact ⟨_, _, rfl, by omega, by omega, h2⟩
    · rename_i hne
      have hlt : a + n < s.length := by omega
      have e3 : sfrom s ((a + n : Nat) : Int) = some (s.drop (a + n)) := by unfold sfrom; rw [if_pos ⟨by omega, by omega⟩, Int.toNat_natCast]
      rw [e3, sb, m66_some, sb]
      split
      · rename_i hp
        have hp := pre_hp hp
        have hpl := pre_len hp (by simp)
        simp only [List.length_cons, List.length_nil] at hpl
        obtain ⟨_, hc⟩ := pre_head hp
        have e4 := add_ok (s := s) (a := a + n) (z := 3) (l := l2) (c := c) (by omega) 3 0 [101, 99, 104, 111] (by omega)
        replace e4 : m_i_lexeradd (TLexer.mk s ((a + n : Nat) : Int) l2 c) 3 0 [101, 99, 104, 111] 3 = some (.mk s ((a + n + 3 : Nat) : Int) (l2 ++ [.mk 3 0 [101, 99, 104, 111] ((a + n : Nat) : Int)]) c) := e4
        rw [e4, sb]
        refine ⟨_, _, rfl, by omega, by omega, h2.push ⟨a + n, rfl, hlt, [101, 99, 104, 111], rfl, .inr (.inr (.inl ⟨hc, rfl⟩))⟩ rfl (by omega)⟩
      · rw [w_of (n := a + n + 2) (by simp) (by omega)]
        exact ⟨_, _, rfl, by omega, hn2 hlt, h2.mono (by omega)⟩
  by_cases hz : n = 0
  · subst hz
    rw [if_neg (by omega)]
    exact tail l h
  · have e5 : sto (s.drop a) (n : Int) = some ((s.drop a).take n) := by unfold sto; rw [if_pos ⟨by omega, by omega⟩]; rfl
    have e6 := add_ok (s := s) (a := a) (z := n) (l := l) (c := c) (by omega) 1 0 ((s.drop a).take n) (by omega)
    rw [if_pos (by omega), e5, sb, e6, sb]
    exact tail _ (h.push ⟨a, rfl, by omega, (s.drop a).take n, rfl, .inr (.inr (.inr (take_pre _ _)))⟩ rfl (by omega))

/-! ### Names, digits, texts, marks -/
theorem letter_some (c : Int) : ∃ b, m_i_isLetter c = some b := by
  unfold m_i_isLetter
  repeat (first | exact ⟨_, rfl⟩ | split)
theorem digit_some (c : Int) : ∃ b, m_i_isDigit c = some b := by
  unfold m_i_isDigit
  repeat (first | exact ⟨_, rfl⟩ | split)
theorem nameLen_ok (s : Str) (hs : s.length ≤ 100000) : ∃ n : Nat, m_i_nameLength s = some (n : Int) ∧ n ≤ s.length := by
  have go : ∀ m i : Nat, i ≤ s.length → s.length - i = m → ∃ n : Nat, m_i_nameLength_L2 s (i : Int) = some (n : Int) ∧ n ≤ s.length := by
    intro m
    induction m with
    | zero => intro i h1 h2; rw [m_i_nameLength_L2, if_neg (by omega)]; exact ⟨_, rfl, h1⟩
    | succ m ihm =>
      intro i h1 h2
      have hlt : i < s.length := by omega
      have ih := ihm (i + 1) (by omega) (by omega)
      rw [m_i_nameLength_L2, if_pos (by omega), sidx_nat hlt, sb, w_succ (by omega)]
      obtain ⟨b, eb⟩ := letter_some ((s.getD i 0).toNat : Int)
      obtain ⟨g, eg⟩ := digit_some ((s.getD i 0).toNat : Int)
      rw [eb, sb]
      split
      · exact ih
      rw [sb]
      split
      · exact ih
      split
      · rw [sb, eg, sb]
        split
        · exact ih
        · exact ⟨_, rfl, h1⟩
      · exact ⟨_, rfl, h1⟩
  obtain ⟨n, e, h⟩ := go s.length 0 (by omega) (by omega)
  replace e : m_i_nameLength_L2 s 0 = some (n : Int) := e
  unfold m_i_nameLength
  rw [e, sb]
  exact ⟨n, rfl, h⟩
theorem digits_ok (s : Str) (hs : s.length ≤ 100000) (c : UInt8) (hc : s.head? = some c) (hd : m_i_isDigit (c.toNat : Int) = some true) : ∃ n : Nat, m_i_lexertoken_L3 s 0 = some (n : Int) ∧ n ≤ s.length ∧ 1 ≤ n := by
  have go : ∀ m i : Nat, i ≤ s.length → s.length - i = m → ∃ n : Nat, m_i_lexertoken_L3 s (i : Int) = some (n : Int) ∧ n ≤ s.length ∧ i ≤ n := by
    intro m
    induction m with
    | zero => intro i h1 h2; rw [m_i_lexertoken_L3, if_neg (by omega)]; exact ⟨_, rfl, h1, Nat.le_refl _⟩
    | succ m ihm =>
      intro i h1 h2
      have hlt : i < s.length := by omega
      obtain ⟨n, e, h3, h4⟩ := ihm (i + 1) (by omega) (by omega)
      obtain ⟨g, eg⟩ := digit_some ((s.getD i 0).toNat : Int)
      rw [m_i_lexertoken_L3, if_pos (by omega), sidx_nat hlt, sb, w_succ (by omega), eg, sb]
      split
      · exact ⟨n, e, h3, by omega⟩
      · exact ⟨_, rfl, h1, Nat.le_refl _⟩
  cases s with
  | nil => cases hc
  | cons x r =>
    obtain rfl : x = c := Option.some.inj hc
    obtain ⟨n, e, h3, h4⟩ := go _ 1 (by simp) rfl
    refine ⟨n, ?_, h3, h4⟩
    rw [m_i_lexertoken_L3, if_pos (by simp)]
    show (sidx (x :: r) ((0 : Nat) : Int) >>= _) = _
    rw [sidx_nat (by simp), sb]
    show (m_i_isDigit (x.toNat : Int) >>= _) = _
    rw [hd, sb, if_pos rfl]
    exact e
theorem quote_some (s : Str) (hs : s.length ≤ 100000) : ∃ t, m_i_QuoteText s = some t := by
  have go : ∀ m i : Nat, i ≤ s.length → s.length - i = m → ∀ l : Str, l.length ≤ 1 + 2 * i → ∃ t, m_i_QuoteText_L2 s l (i : Int) = some t ∧ t.length ≤ 1 + 2 * s.length := by
    intro m
    induction m with
    | zero => intro i h1 h2 l hl; rw [m_i_QuoteText_L2, if_neg (by omega)]; exact ⟨_, rfl, by omega⟩
    | succ m ihm =>
      intro i h1 h2 l hl
      have hlt : i < s.length := by omega
      have ih := fun l hl => ihm (i + 1) (by omega) (by omega) l hl
      rw [m_i_QuoteText_L2, if_pos (by omega), sidx_nat hlt, sb, w_succ (by omega)]
      split
      · rw [lapp_eq (by simp only [List.length_cons, List.length_nil]; omega), sb, sb, lapp_eq (by simp only [List.length_append, List.length_cons, List.length_nil]; omega), sb]
        exact ih _ (by simp only [List.length_append, List.length_cons, List.length_nil]; omega)
      rw [sb]
      split
      · rw [lapp_eq (by simp only [List.length_cons, List.length_nil]; omega), sb, sb, lapp_eq (by simp only [List.length_append, List.length_cons, List.length_nil]; omega), sb]
        exact ih _ (by simp only [List.length_append, List.length_cons, List.length_nil]; omega)
      · rw [sb, lapp_eq (by simp only [List.length_cons, List.length_nil]; omega), sb]
        exact ih _ (by simp only [List.length_append, List.length_cons, List.length_nil]; omega)
  obtain ⟨t, e, h⟩ := go s.length 0 (by omega) (by omega) [39] (by simp)
  replace e : m_i_QuoteText_L2 s [39] 0 = some t := e
  unfold m_i_QuoteText
  rw [e, sb, lapp_eq (by simp only [List.length_cons, List.length_nil]; omega), sb]
  exact ⟨_, rfl⟩

/-- What a step of the lexer leaves. -/
def Step (s : Str) (a : Nat) (x : TLexer) : Prop := x.fS = s ∧ (x.fCode ≠ 0 ∨ ∃ b : Nat, x.fAt = (b : Int) ∧ x.fCode = 0 ∧ a < b ∧ b ≤ s.length ∧ TOK s x.fOut b)
theorem text_ok {s : Str} {a : Nat} {l : List TToken} (h : TOK s l a) (ha : a < s.length) (hs : s.length ≤ 100000) : ∃ x, m_i_lexertext (.mk s (a : Int) l 0) (s.drop a) = some x ∧ Step s a x := by
  have hll := h.len
  have hlen : (s.drop a).length = s.length - a := List.length_drop
  have go : ∀ m i : Nat, (s.drop a).length + 2 - i = m → i ≤ (s.drop a).length + 1 → 1 ≤ i → ∀ t : Str, t.length ≤ i → ∃ o, m_i_lexertext_L2 (.mk s (a : Int) l 0) (s.drop a) t (i : Int) = some o ∧ (o = .inl () ∨ ∃ x, o = .inr x ∧ Step s a x) := by
    intro m
    induction m using Nat.strongRecOn with
    | _ m ih =>
      intro i hm hi hi1 t ht
      rw [m_i_lexertext_L2]
      by_cases hlt : i < (s.drop a).length
      · have nxt := ih _ (by omega) (i + 1) rfl (by omega) (by omega)
        have nxt2 := fun h2 : i + 1 < (s.drop a).length => ih _ (by omega) (i + 1 + 1) rfl (by omega) (by omega)
        rw [if_pos (by omega), sidx_nat hlt, sb, w_succ (by omega)]
        split
        · split
          · exact ⟨_, rfl, .inl rfl⟩
          · rename_i hc h400
            have e := add_ok (s := s) (a := a) (z := i + 1) (l := l) (c := 0) (by omega) 5 0 t (by omega)
            rw [e, sb]
            obtain ⟨q, hq⟩ := quote_some t (by omega)
            refine ⟨_, rfl, .inr ⟨_, rfl, rfl, .inr ⟨a + (i + 1), rfl, rfl, by omega, by omega, h.push ⟨a, rfl, ha, q, ?_, .inl rfl⟩ rfl (by omega)⟩⟩⟩
            unfold m_i_TokenText
            show (m_i_QuoteText t >>= fun v8 => some v8) = _
            rw [hq, sb]
        rw [sb]
        split
        · split
          · rename_i h2
            have h2' : i + 1 < (s.drop a).length := by omega
            rw [sidx_nat h2', sb, w_succ (by omega)]
            split
            · rw [sb, lapp_eq (by simp only [List.length_cons, List.length_nil]; omega), sb]
              exact nxt2 h2' _ (by simp only [List.length_append, List.length_cons, List.length_nil]; omega)
            rw [sb]
            split
            · rw [sb, lapp_eq (by simp only [List.length_cons, List.length_nil]; omega), sb]
              exact nxt2 h2' _ (by simp only [List.length_append, List.length_cons, List.length_nil]; omega)
            · rw [sb, lapp_eq (by simp only [List.length_cons, List.length_nil]; omega), sb]
              exact nxt _ (by simp only [List.length_append, List.length_cons, List.length_nil]; omega)
          · rw [sb, lapp_eq (by simp only [List.length_cons, List.length_nil]; omega), sb]
            exact nxt _ (by simp only [List.length_append, List.length_cons, List.length_nil]; omega)
        · rw [sb, lapp_eq (by simp only [List.length_cons, List.length_nil]; omega), sb]
          exact nxt _ (by simp only [List.length_append, List.length_cons, List.length_nil]; omega)
      · rw [if_neg (by omega)]; exact ⟨_, rfl, .inl rfl⟩
  obtain ⟨o, e, ho⟩ := go _ 1 rfl (by omega) (by omega) [] (by simp)
  replace e : m_i_lexertext_L2 (.mk s (a : Int) l 0) (s.drop a) [] 1 = some o := e
  unfold m_i_lexertext
  rw [e, sb]
  rcases ho with rfl | ⟨x, rfl, hx⟩
  · exact ⟨_, rfl, rfl, .inl (show (3 : Int) ≠ 0 by decide)⟩
  · exact ⟨_, rfl, hx⟩
theorem mark_ok {s : Str} {a : Nat} {l : List TToken} (h : TOK s l a) (ha : a < s.length) (hs : s.length ≤ 100000) : ∃ x, m_i_lexermark (.mk s (a : Int) l 0) (s.drop a) = some x ∧ Step s a x := by
  have hll := h.len
  have go : ∀ m i : Nat, i ≤ 34 → 34 - i = m → ∃ o, m_i_lexermark_L2 (.mk s (a : Int) l 0) (s.drop a) (i : Int) = some o ∧ (o = .inl () ∨ ∃ x, o = .inr x ∧ Step s a x) := by
    intro m
    induction m with
    | zero =>
      intro i h1 h2
      rw [m_i_lexermark_L2, if_neg (by simp only [List.length_cons, List.length_nil]; omega)]; exact ⟨_, rfl, .inl rfl⟩
    | succ m ihm =>
      intro i h1 h2
      rw [m_i_lexermark_L2]
      generalize hML : ([[61, 61, 61], [33, 61, 61], [60, 61, 62], [61, 61], [33, 61], [60, 61], [62, 61], [61, 62], [45, 62], [58, 58], [38, 38], [124, 124], [63, 63], [43], [45], [42], [47], [37], [46], [61], [33], [60], [62], [40], [41], [91], [93], [123], [125], [44], [59], [63], [58], [38]] : List Str) = ML
      have hlen : ML.length = 34 := by subst hML; rfl
      have hmem : ∀ x ∈ ML, 1 ≤ x.length ∧ x.length ≤ 10 := fun x hx => by
        subst hML
        exact of_decide_eq_true (all_mem (p := fun x : Str => decide (1 ≤ x.length ∧ x.length ≤ 10)) (by decide) x hx)
      have hlt : i < ML.length := by omega
      obtain ⟨m1, m2⟩ := hmem _ (List.getElem_mem hlt)
      have ih := ihm (i + 1) (by omega) (by omega)
      rw [if_pos (by omega), idx_nat hlt, sb, m66_some, sb, w_succ (by omega)]
      split
      · rename_i hp
        have hp := pre_hp hp
        have hpl := pre_len hp (by omega)
        have e := add_ok (s := s) (a := a) (z := ML[i].length) (l := l) (c := 0) (by omega) 6 0 ML[i] (by omega)
        rw [e, sb]
        exact ⟨_, rfl, .inr ⟨_, rfl, rfl, .inr ⟨_, rfl, rfl, by omega, hpl, h.push ⟨a, rfl, ha, ML[i], rfl, .inr (.inr (.inr hp))⟩ rfl (by omega)⟩⟩⟩
      · exact ih
  obtain ⟨o, e, ho⟩ := go 34 0 (by omega) (by omega)
  replace e : m_i_lexermark_L2 (.mk s (a : Int) l 0) (s.drop a) 0 = some o := e
  unfold m_i_lexermark
  rw [e, sb]
  rcases ho with rfl | ⟨x, rfl, hx⟩
  · exact ⟨_, rfl, rfl, .inl (show (2 : Int) ≠ 0 by decide)⟩
  · exact ⟨_, rfl, hx⟩
theorem comment_ok {s : Str} {l : List TToken} {q : Int} (hs : s.length ≤ 100000) : ∀ m i : Nat, i ≤ s.length → s.length - i = m → ∃ b : Nat, m_i_lexertoken_L1 (.mk s q l 0) (i : Int) = some (.mk s (b : Int) l 0) ∧ i ≤ b ∧ b ≤ s.length := by
  intro m
  induction m with
  | zero =>
    intro i h1 h2
    rw [m_i_lexertoken_L1]
    dsimp only
    rw [if_neg (by omega), sb]
    exact ⟨i, rfl, Nat.le_refl _, h1⟩
  | succ m ihm =>
    intro i h1 h2
    have hlt : i < s.length := by omega
    obtain ⟨b, e, h3, h4⟩ := ihm (i + 1) (by omega) (by omega)
    have e1 : sfrom s (i : Int) = some (s.drop i) := by unfold sfrom; rw [if_pos ⟨by omega, by omega⟩, Int.toNat_natCast]
    rw [m_i_lexertoken_L1]
    dsimp only
    rw [if_pos (by omega), sidx_nat hlt, sb]
    split
    · rw [sb]; exact ⟨i, rfl, Nat.le_refl _, h1⟩
    · rw [e1, sb, m66_some, sb]
      split
      · rw [sb]; exact ⟨i, rfl, Nat.le_refl _, h1⟩
      · rw [sb, w_succ (by omega)]
        exact ⟨b, e, by omega, h4⟩
theorem comment_on {s : Str} {l : List TToken} {q : Int} {a : Nat} (hs : s.length ≤ 100000) (ha : a < s.length) (hp : [47, 47] <+: s.drop a) : ∃ b : Nat, m_i_lexertoken_L1 (.mk s q l 0) (a : Int) = some (.mk s (b : Int) l 0) ∧ a < b ∧ b ≤ s.length := by
  obtain ⟨b, e, h3, h4⟩ := comment_ok (l := l) (q := q) hs _ (a + 1) (by omega) rfl
  obtain ⟨_, hc⟩ := pre_head hp
  have e1 : sfrom s (a : Int) = some (s.drop a) := by unfold sfrom; rw [if_pos ⟨by omega, by omega⟩, Int.toNat_natCast]
  have e2 : Lib.hasPrefix (s.drop a) [63, 62] = false := by
    obtain ⟨r, hr⟩ := hp
    rw [← hr]; rfl
  rw [m_i_lexertoken_L1]
  dsimp only
  rw [if_pos (by omega), sidx_nat ha, hc, sb]
  rw [if_neg (by decide), e1, sb, m66_some, sb, e2, if_neg (by decide), sb, w_succ (by omega)]
  exact ⟨b, e, by omega, h4⟩
theorem num_ok {s : Str} {n : Int} (h : m69 s = some (n, true)) : Lib.itoa n = s ∧ -1000000000 ≤ n ∧ n ≤ 1000000000 := by
  unfold m69 m98 at h
  cases hp : pw s (-1000000000) 1000000000 with
  | none => rw [hp] at h; cases h
  | some v =>
    rw [hp] at h
    obtain rfl : v = n := by cases h; rfl
    unfold pw at hp
    split at hp
    · cases hp
    · split at hp
      · split at hp
        · rename_i h1
          cases hp
          exact h1
        · cases hp
      · cases hp
theorem num_some (s : Str) : ∃ n b, m69 s = some (n, b) := by
  unfold m69 m98
  cases pw s (-1000000000) 1000000000 with
  | none => exact ⟨_, _, rfl⟩
  | some n => exact ⟨_, _, rfl⟩

/-- One step. -/
theorem token_ok {s : Str} {a : Nat} {l : List TToken} (h : TOK s l a) (ha : a < s.length) (hs : s.length ≤ 100000) : ∃ x, m_i_lexertoken (.mk s (a : Int) l 0) = some x ∧ Step s a x := by
  have hll := h.len
  have hlen : (s.drop a).length = s.length - a := List.length_drop
  have e1 : sfrom s (a : Int) = some (s.drop a) := by unfold sfrom; rw [if_pos ⟨by omega, by omega⟩, Int.toNat_natCast]
  have hd := List.drop_eq_getElem_cons ha
  generalize hc : s[a] = c at hd
  have hgc : s.getD a 0 = c := (drop_at hd).2
  have e2 : sidx (s.drop a) 0 = some c := by
    have := sidx_nat (s := s.drop a) (i := 0) (by omega)
    rw [hd] at this ⊢
    exact this
  have bad : ∀ k : Int, k ≠ 0 → Step s a (.mk s (a : Int) l k) := fun k hk => ⟨rfl, .inl hk⟩
  unfold m_i_lexertoken
  show ∃ x, (sfrom s (a : Int) >>= _) = some x ∧ _
  rw [e1, sb, e2, sb]
  have hws : ∃ g : Bool, (if (c.toNat : Int) = 32 then some true else if (c.toNat : Int) = 9 then some true else if (c.toNat : Int) = 10 then some true else some ((c.toNat : Int) == 13) : Option Bool) = some g := by
    repeat (first | exact ⟨_, rfl⟩ | split)
  obtain ⟨g, eg⟩ := hws
  rw [eg, sb]
  split
  · refine ⟨_, rfl, rfl, .inr ⟨a + 1, ?_, rfl, by omega, by omega, h.mono (by omega)⟩⟩
    show W64 ((a : Int) + 1) = _
    rw [w_succ (by omega)]
  rw [m66_some, sb]
  split
  · rename_i hp
    have hp := pre_hp hp
    have hpl := pre_len hp (by simp)
    simp only [List.length_cons, List.length_nil] at hpl
    obtain ⟨_, hq⟩ := pre_head hp
    have e3 := add_ok (s := s) (a := a) (z := 2) (l := l) (c := 0) (by omega) 6 0 [59] (by omega)
    replace e3 : m_i_lexeradd (.mk s (a : Int) l 0) 6 0 [59] 2 = some (.mk s ((a + 2 : Nat) : Int) (l ++ [.mk 6 0 [59] (a : Int)]) 0) := e3
    have h2 : TOK s (l ++ [.mk 6 0 [59] (a : Int)]) (a + 2) := h.push ⟨a, rfl, ha, [59], rfl, .inr (.inl ⟨hq, rfl⟩)⟩ rfl (by omega)
    rw [e3, sb]
    dsimp only
    have fin : ∀ b : Nat, a < b → b ≤ s.length → TOK s (l ++ [.mk 6 0 [59] (a : Int)]) b → ∃ x, (m_i_lexerinline (.mk s (b : Int) (l ++ [.mk 6 0 [59] (a : Int)]) 0) >>= fun v27 => some v27) = some x ∧ Step s a x := fun b hb hb2 hT => by
      obtain ⟨b', l', e4, h3, h4, h5⟩ := inline_ok (c := 0) hT hb2 hs
      rw [e4, sb]
      exact ⟨_, rfl, rfl, .inr ⟨b', rfl, rfl, by omega, h4, h5⟩⟩
    by_cases hlt : a + 2 < s.length
    · rw [if_pos (by omega), sidx_nat hlt, sb, sb]
      generalize (((s.getD (a + 2) 0).toNat : Int) == 10) = gg
      cases gg with
      | true =>
        rw [if_pos rfl, w_succ (by omega)]
        exact fin (a + 2 + 1) (by omega) (by omega) (h2.mono (by omega))
      | false =>
        rw [if_neg (by decide)]
        exact fin (a + 2) (by omega) (by omega) h2
    · rw [if_neg (by omega), sb, if_neg (by decide)]
      exact fin (a + 2) (by omega) (by omega) h2
  rw [m66_some, sb]
  split
  · rename_i hp
    obtain ⟨b, e3, h3, h4⟩ := comment_on (l := l) (q := (a : Int)) hs ha (pre_hp hp)
    exact ⟨_, e3, rfl, .inr ⟨b, rfl, rfl, h3, h4, h.mono (by omega)⟩⟩
  split
  · rename_i h36
    have hc36 : c = 36 := by
      have : c.toNat = (36 : UInt8).toNat := by show c.toNat = 36; omega
      exact UInt8.toNat_inj.1 this
    have e3 : sfrom (s.drop a) 1 = some (s.drop (a + 1)) := by
      unfold sfrom
      rw [if_pos ⟨by omega, by omega⟩]
      show some ((s.drop a).drop 1) = _
      rw [List.drop_drop]
    obtain ⟨n, e4, hn⟩ := nameLen_ok (s.drop (a + 1)) (by rw [List.length_drop]; omega)
    rw [List.length_drop] at hn
    rw [e3, sb, e4, sb, sb]
    by_cases hz : n = 0
    · subst hz
      exact ⟨_, rfl, bad 2 (by decide)⟩
    · rw [if_neg (by omega), sb]
      have w1 : W64 (1 + (n : Int)) = ((1 + n : Nat) : Int) := w_of (by simp) (by omega)
      have e5 : ssub (s.drop a) 1 ((1 + n : Nat) : Int) = some ((s.drop (a + 1)).take n) := by
        unfold ssub
        rw [if_pos ⟨by omega, by omega, by omega⟩]
        show some (((s.drop a).take (1 + n)).drop 1) = _
        rw [List.drop_take, List.drop_drop, show 1 + n - 1 = n by omega]
      have e6 := add_ok (s := s) (a := a) (z := 1 + n) (l := l) (c := 0) (by omega) 2 0 ((s.drop (a + 1)).take n) (by omega)
      show ∃ x, (ssub (s.drop a) 1 (W64 (1 + (n : Int))) >>= _) = some x ∧ _
      rw [w1, e5, sb, e6, sb]
      refine ⟨_, rfl, rfl, .inr ⟨a + (1 + n), rfl, rfl, by omega, by omega, h.push ⟨a, rfl, ha, 36 :: (s.drop (a + 1)).take n, ?_, .inr (.inr (.inr ?_))⟩ rfl (by omega)⟩⟩
      · unfold m_i_TokenText
        show (scat [36] ((s.drop (a + 1)).take n) >>= fun s2 => some s2) = _
        rw [scat_eq (by rw [List.length_take]; simp only [List.length_cons, List.length_nil]; omega), sb]
        rfl
      · rw [hd, hc36]
        exact List.cons_prefix_cons.2 ⟨rfl, take_pre _ _⟩
  obtain ⟨n, e3, hn⟩ := nameLen_ok (s.drop a) (by omega)
  rw [e3, sb]
  split
  · rename_i hpos
    have e4 : sto (s.drop a) (n : Int) = some ((s.drop a).take n) := by unfold sto; rw [if_pos ⟨by omega, by omega⟩]; rfl
    have e5 := add_ok (s := s) (a := a) (z := n) (l := l) (c := 0) (by omega) 3 0 ((s.drop a).take n) (by omega)
    rw [sb, sb, e4, sb, e5, sb]
    exact ⟨_, rfl, rfl, .inr ⟨a + n, rfl, rfl, by omega, by omega, h.push ⟨a, rfl, ha, (s.drop a).take n, rfl, .inr (.inr (.inr (take_pre _ _)))⟩ rfl (by omega)⟩⟩
  obtain ⟨dg, ed⟩ := digit_some (c.toNat : Int)
  rw [ed, sb, sb]
  split
  · rename_i hdg
    rw [hdg] at ed
    obtain ⟨k, e4, hk, hk1⟩ := digits_ok (s.drop a) (by omega) c (by rw [hd]; rfl) ed
    have e5 : sto (s.drop a) (k : Int) = some ((s.drop a).take k) := by unfold sto; rw [if_pos ⟨by omega, by omega⟩]; rfl
    obtain ⟨v, vb, e6⟩ := num_some ((s.drop a).take k)
    rw [e4, sb, e5, sb, e6, sb]
    show ∃ x, ((if vb = true then _ else _) >>= _) = some x ∧ _
    cases vb with
    | false => rw [if_neg (by decide), sb]; exact ⟨_, rfl, bad 4 (by decide)⟩
    | true =>
      obtain ⟨i1, i2, i3⟩ := num_ok e6
      have e7 := add_ok (s := s) (a := a) (z := k) (l := l) (c := 0) (by omega) 4 v [] (by omega)
      rw [if_pos rfl, sb]
      show ∃ x, (m_i_lexeradd (.mk s (a : Int) l 0) 4 v [] (k : Int) >>= _) = some x ∧ _
      rw [e7, sb]
      refine ⟨_, rfl, rfl, .inr ⟨a + k, rfl, rfl, by omega, by omega, h.push ⟨a, rfl, ha, (s.drop a).take k, ?_, .inr (.inr (.inr (take_pre _ _)))⟩ rfl (by omega)⟩⟩
      unfold m_i_TokenText m_i_FormatInt
      show ((m73 v >>= fun v1 => some v1) >>= fun v5 => some v5) = _
      rw [m73_eq (by omega) (by omega), sb, sb, i1]
  split
  · obtain ⟨x, e4, hx⟩ := text_ok h ha hs
    rw [e4, sb]
    exact ⟨_, rfl, hx⟩
  · obtain ⟨x, e4, hx⟩ := mark_ok h ha hs
    rw [e4, sb]
    exact ⟨_, rfl, hx⟩

/-- The whole lexer. -/
theorem lex_loop {s : Str} (hs : s.length ≤ 100000) : ∀ m a : Nat, a ≤ s.length → s.length - a = m → ∀ l : List TToken, TOK s l a → ∃ (y k : Int) (l' : List TToken), m_i_Lex_L2 s s (a : Int) 0 l = some (s, y, k, l') ∧ (k ≠ 0 ∨ TOK s l' s.length) := by
  intro m
  induction m using Nat.strongRecOn with
  | _ m ih =>
    intro a ha hm l h
    rw [m_i_Lex_L2, if_pos rfl]
    by_cases hlt : (a : Int) < (s.length : Int)
    · rw [if_pos hlt, sb]
      obtain ⟨x, e, h1, h2⟩ := token_ok h (by omega) hs
      show ∃ y k l', (m_i_lexertoken (.mk s (a : Int) l 0) >>= _) = some (s, y, k, l') ∧ _
      rw [e, sb, h1]
      rcases h2 with h2 | ⟨b, h3, h4, h5, h6, h7⟩
      · rw [m_i_Lex_L2, if_neg h2, sb]
        exact ⟨_, _, _, rfl, .inl h2⟩
      · rw [h3, h4]
        exact ih _ (by omega) b h6 rfl x.fOut h7
    · rw [if_neg hlt, sb]
      have : a = s.length := by omega
      subst this
      exact ⟨_, _, _, rfl, .inr h⟩
theorem lex_ok {s : Str} (hs : s.length ≤ 100000) : ∃ l k y, m_i_Lex s = some (l, k, y) ∧ (k = 0 ∨ l = []) ∧ TOK s l s.length := by
  have nil : TOK s [] s.length := ⟨by simp, by simp, by simp, by simp⟩
  unfold m_i_Lex
  rw [sb]
  by_cases h4 : (s.length : Int) > 4000
  · rw [if_pos h4, sb]
    exact ⟨_, _, _, rfl, .inr rfl, nil⟩
  · rw [if_neg h4, sb, sb]
    obtain ⟨b, l, e, _, h1, h2⟩ := inline_ok (c := 0) (a := 0) (l := []) ⟨by simp, by simp, by simp, by simp⟩ (Nat.zero_le _) hs
    replace e : m_i_lexerinline (.mk s 0 [] 0) = some (.mk s (b : Int) l 0) := e
    rw [e, sb]
    obtain ⟨y, k, l', e2, h3⟩ := lex_loop hs _ b h1 rfl l h2
    show ∃ l2 k2 y2, (m_i_Lex_L2 s s (b : Int) 0 l >>= _) = some (l2, k2, y2) ∧ _
    rw [e2, sb]
    show ∃ l2 k2 y2, (if k = 0 then _ else _) = some (l2, k2, y2) ∧ _
    by_cases hk : k = 0
    · rw [if_pos hk]
      exact ⟨_, _, _, rfl, .inl rfl, h3.resolve_left (fun h => h hk)⟩
    · rw [if_neg hk]
      exact ⟨_, _, _, rfl, .inr rfl, nil⟩

end Go.Am
