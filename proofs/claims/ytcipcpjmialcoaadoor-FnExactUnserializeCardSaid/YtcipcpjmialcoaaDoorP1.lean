/- The text of a value, and that both printers print it. -/
import Derived.Test.YtcipcpjmialcoaaDoorN1
import Derived.Test.YtcipcpjmialcoaaDoorV2
import Derived.Test.YtcipcpjmialcoaaDoorS1
set_option linter.unusedVariables false
set_option linter.unusedSimpArgs false
namespace Go.Am
open Go Go.RowKit Go.Proofs
mutual
def TValue.plain : TValue → Bool | .mk k _ _ _ l => if k = 4 then TEntry.plainL l else decide (0 ≤ k ∧ k ≤ 3)
def TEntry.plainE : TEntry → Bool | .mk _ v => v.plain
def TEntry.plainL : List TEntry → Bool | [] => true | x :: r => x.plainE && TEntry.plainL r
end
theorem plain_eq (v : TValue) : v.plain = if v.fKind = 4 then TEntry.plainL v.fItems else decide (0 ≤ v.fKind ∧ v.fKind ≤ 3) := by cases v; unfold TValue.plain; rfl
theorem plainL_cons (x : TEntry) (r : List TEntry) : TEntry.plainL (x :: r) = (x.fVal.plain && TEntry.plainL r) := by cases x; simp [TEntry.plainL, TEntry.plainE]
theorem plainL_nil : TEntry.plainL [] = true := by simp [TEntry.plainL]
theorem plainL_mem : ∀ (l : List TEntry), TEntry.plainL l = true → ∀ e ∈ l, e.fVal.plain = true
 | x :: r, h, e, he => by
  rw [plainL_cons, Bool.and_eq_true] at h
  rcases List.mem_cons.1 he with rfl | he
  ·exact h.1
  ·exact plainL_mem r h.2 e he
theorem plainL_drop {l : List TEntry} {i : Nat} (h : i < l.length) : TEntry.plainL (l.drop i) = (l[i].fVal.plain && TEntry.plainL (l.drop (i + 1))) := by rw [List.drop_eq_getElem_cons h, plainL_cons]
theorem in_eq (a b c : Int) : m92 a b c = some (decide (b ≤ a ∧ a ≤ c)) := by
 unfold m92
 by_cases h1 : b ≤ a
 ·rw [if_pos (by omega)]
  by_cases h2 : a ≤ c
  ·simp [h1, h2]
  ·simp [h2]
 ·rw [if_neg (by omega)]
  simp [h1]
theorem isPlain_eq : ∀ (n : Nat), n ≤ 2000000 → ∀ v : TValue, v.wt ≤ n → m_i_IsPlain v = some v.plain
 | 0, _, v, h => by have := wt_pos v; omega
 | n + 1, hn, v, h => by
  have hlen := wt_len (v := v)
  have loop : m_i_IsPlain_L4 v 0 = some (restO (TEntry.plainL v.fItems)) := by
   have go : ∀ m i : Nat, i ≤ v.fItems.length → v.fItems.length - i = m → m_i_IsPlain_L4 v (i : Int) = some (restO (TEntry.plainL (v.fItems.drop i))) := by
    intro m
    induction m with
    | zero =>
     intro i h1 h2
     rw [m_i_IsPlain_L4, if_neg (by omega), List.drop_of_length_le (by omega), plainL_nil]; rfl
    | succ m ihm =>
     intro i h1 h2
     have hlt : i < v.fItems.length := by omega
     have hit := wt_item (List.getElem_mem hlt)
     rw [m_i_IsPlain_L4, if_pos (by omega), idx_nat hlt, sb, isPlain_eq n (by omega) _ (by omega), sb, w_succ (by omega), ihm (i + 1) (by omega) (by omega), plainL_drop hlt]
     cases v.fItems[i].fVal.plain <;> rfl
   exact go v.fItems.length 0 (by omega) (by omega)
  rw [m_i_IsPlain, plain_eq, loop, in_eq]
  by_cases hk : v.fKind = 4
  ·rw [if_pos hk, if_pos hk]
   cases TEntry.plainL v.fItems <;> rfl
  ·rw [if_neg hk, if_neg hk]; rfl
def kvv (k : TKey) : TValue := if k.fText = true then .mk 3 0 k.fStr 0 [] else .mk 2 k.fNum [] 0 []
def txt (s : Str) : Str := [115, 58] ++ Lib.itoa (s.length : Int) ++ [58] ++ s ++ [59]
def keyText (k : TKey) : Str := if k.fText = true then txt k.fStr else [105, 58] ++ Lib.itoa k.fNum ++ [59]
mutual
def TValue.ser : TValue → Str
 | .mk k n s x l => if k = 0 then [78, 59] else if k = 1 then [98, 58] ++ Lib.itoa n ++ [59] else if k = 2 then [105, 58] ++ Lib.itoa n ++ [59] else if k = 3 then txt s
   else [97, 58] ++ Lib.itoa (l.length : Int) ++ [58] ++ Lib.itoa x ++ [123] ++ TEntry.serL l ++ [125]
def TEntry.serE : TEntry → Str | .mk k v => keyText k ++ v.ser
def TEntry.serL : List TEntry → Str | [] => [] | x :: r => x.serE ++ TEntry.serL r
end
theorem serL_nil : TEntry.serL [] = [] := by simp [TEntry.serL]
theorem serL_cons (x : TEntry) (r : List TEntry) : TEntry.serL (x :: r) = keyText x.fKey ++ x.fVal.ser ++ TEntry.serL r := by cases x; simp [TEntry.serL, TEntry.serE]
theorem serL_app : ∀ a b : List TEntry, TEntry.serL (a ++ b) = TEntry.serL a ++ TEntry.serL b
 | [], b => by rw [serL_nil]; rfl
 | x :: r, b => by rw [List.cons_append, serL_cons, serL_cons, serL_app r b]; simp
theorem ser_eq (v : TValue) : v.ser = if v.fKind = 0 then [78, 59] else if v.fKind = 1 then [98, 58] ++ Lib.itoa v.fNum ++ [59] else if v.fKind = 2 then [105, 58] ++ Lib.itoa v.fNum ++ [59] else if v.fKind = 3 then txt v.fStr
   else [97, 58] ++ Lib.itoa (v.fItems.length : Int) ++ [58] ++ Lib.itoa v.fNext ++ [123] ++ TEntry.serL v.fItems ++ [125] := by cases v; unfold TValue.ser; rfl
theorem serL_take {l : List TEntry} {i : Nat} (h : i < l.length) : TEntry.serL (l.take (i + 1)) = TEntry.serL (l.take i) ++ keyText l[i].fKey ++ l[i].fVal.ser := by
 rw [← List.take_append_getElem h, serL_app, serL_cons, serL_nil]; simp
theorem kv_ser (k : TKey) : (kvv k).ser = keyText k := by
 unfold kvv keyText
 split <;> · rw [ser_eq]; rfl
theorem vok_fields {v : TValue} (h : v.vok = true) (hp : v.plain = true) : (v.fKind = 4 ∨ (0 ≤ v.fKind ∧ v.fKind ≤ 3 ∧ v.fItems = [] ∧ v.fNext = 0 ∧ -1000000000 ≤ v.fNum ∧ v.fNum ≤ 1000000000 ∧ v.fStr.length ≤ 400 ∧ (v.fKind ≠ 3 → v.fStr = []) ∧ (v.fKind = 0 → v.fNum = 0) ∧ (v.fKind = 3 → v.fNum = 0))) := by
 cases v with
 | mk k n s x l =>
  simp only [TValue.fKind_mk, TValue.fNum_mk, TValue.fStr_mk, TValue.fNext_mk, TValue.fItems_mk]
  by_cases h4 : k = 4
  ·exact .inl h4
  rw [plain_eq] at hp
  rw [if_neg (show ¬ (TValue.mk k n s x l).fKind = 4 from h4), decide_eq_true_eq] at hp
  simp only [TValue.fKind_mk] at hp
  rw [vok_eq] at h
  simp only [Bool.and_eq_true, Bool.or_eq_true, decide_eq_true_eq, beq_iff_eq, List.isEmpty_iff] at h
  obtain ⟨⟨h1, h2⟩, h3⟩ := h
  obtain ⟨hx, hl⟩ := h2.resolve_left h4
  refine .inr ⟨hp.1, hp.2, hl, hx, ?_⟩
  have hk : k = 0 ∨ k = 1 ∨ k = 2 ∨ k = 3 := by omega
  rcases hk with rfl | rfl | rfl | rfl
  ·have hs := h1.resolve_left (by decide)
   simp at h3
   subst h3 hs
   exact ⟨by omega, by omega, by simp, fun _ => rfl, fun _ => rfl, fun h => absurd h (by decide)⟩
  ·have hs := h1.resolve_left (by decide)
   simp at h3
   subst hs
   exact ⟨by omega, by omega, by simp, fun _ => rfl, fun h => absurd h (by decide), fun h => absurd h (by decide)⟩
  ·have hs := h1.resolve_left (by decide)
   simp at h3
   subst hs
   exact ⟨by omega, by omega, by simp, fun _ => rfl, fun h => absurd h (by decide), fun h => absurd h (by decide)⟩
  ·simp at h3
   exact ⟨by omega, by omega, by omega, fun h => absurd rfl h, fun h => absurd h (by decide), fun _ => h3.1⟩
theorem vk_fields {k : TKey} (h : vk k = true) : (k.fText = true ∧ k.fNum = 0 ∧ k.fStr.length ≤ 400 ∧ (nbi (sp k.fStr)).2 = false) ∨ (k.fText = false ∧ -1000000000 ≤ k.fNum ∧ k.fNum ≤ 1000000000 ∧ k.fStr = []) := by
 unfold vk at h
 split at h
 ·rename_i ht
  split at h
  ·rename_i hn
   split at h
   ·rename_i hl
    exact .inl ⟨ht, hn, by omega, by simpa using h⟩
   ·cases h
  ·cases h
 ·rename_i ht
  split at h
  ·rename_i hn
   have hn := of_decide_eq_true hn
   exact .inr ⟨by simpa using ht, hn.1, hn.2, by simpa using h⟩
  ·cases h
theorem txt_len {s : Str} (h : s.length ≤ 400) : (txt s).length ≤ 420 := by
 have := itoa_len (n := (s.length : Int)) (by omega) (by omega)
 unfold txt
 simp only [List.length_append, List.length_cons, List.length_nil]
 omega
theorem keyText_len {k : TKey} (h : vk k = true) : (keyText k).length ≤ 420 := by
 unfold keyText
 rcases vk_fields h with ⟨h1, _, h2, _⟩ | ⟨h1, h2, h3, _⟩
 ·rw [if_pos h1]; exact txt_len h2
 ·have := itoa_len (n := k.fNum) (by omega) (by omega)
  rw [if_neg (by rw [h1]; decide)]
  simp only [List.length_append, List.length_cons, List.length_nil]
  omega
theorem ser_len : ∀ (n : Nat), n ≤ 2000000 → ∀ v : TValue, v.wt ≤ n → v.vok = true → v.plain = true → v.ser.length + 420 ≤ 840 * v.wt
 | 0, _, v, h, _, _ => by have := wt_pos v; omega
 | n + 1, hn, v, h, hv, hp => by
  have hw := wt_pos v
  have hlen := wt_len (v := v)
  rw [ser_eq]
  rcases vok_fields hv hp with hk | ⟨k0, k1, hl, hx, n0, n1, hs, _⟩
  ·obtain ⟨e1, e2, ⟨x0, x1⟩, ⟨hV, hN⟩⟩ := (vok_arr hk).1 hv
   rw [plain_eq, if_pos hk] at hp
   have pl := plainL_mem _ hp
   have gl : ∀ l : List TEntry, (∀ e ∈ l, e.fVal.wt ≤ n ∧ vk e.fKey = true ∧ e.fVal.vok = true ∧ e.fVal.plain = true) → (TEntry.serL l).length ≤ 840 * TEntry.wtL l := by
    intro l
    induction l with
    | nil => intro _; rw [serL_nil]; simp
    | cons e r ih =>
     intro hall
     obtain ⟨a1, a2, a3, a4⟩ := hall e (by simp)
     have h1 := keyText_len a2
     have h2 := ser_len n (by omega) e.fVal a1 a3 a4
     have h3 := ih (fun e he => hall e (List.mem_cons_of_mem _ he))
     rw [serL_cons, wtL_cons]
     simp only [List.length_append]
     omega
   have h1 := gl v.fItems (fun e he => ⟨by have := wt_item he; omega, (hV e he).1, (hV e he).2.2, pl e he⟩)
   have h2 := itoa_len (n := (v.fItems.length : Int)) (by omega) (by omega)
   have h3 := itoa_len (n := v.fNext) (by omega) (by omega)
   rw [if_neg (by omega), if_neg (by omega), if_neg (by omega), if_neg (by omega), v.wt_eq]
   simp only [List.length_append, List.length_cons, List.length_nil]
   omega
  ·have h1 := itoa_len (n := v.fNum) (by omega) (by omega)
   have h2 := txt_len hs
   split
   ·simp; omega
   split
   ·simp only [List.length_append, List.length_cons, List.length_nil]; omega
   split
   ·simp only [List.length_append, List.length_cons, List.length_nil]; omega
   split
   ·omega
   ·omega
theorem fmt_eq {n : Int} (h0 : -1000000000000 ≤ n) (h1 : n ≤ 1000000000000) : m_i_FormatInt n = some (Lib.itoa n) := by
 unfold m_i_FormatInt; rw [m73_eq (by omega) (by omega), sb]
theorem kvI_eq (k : TKey) : m_i_KeyValue k = some (kvv k) := by unfold m_i_KeyValue kvv; split <;> rfl
theorem kv_wt (k : TKey) : (kvv k).wt = 1 := by unfold kvv; split <;> (rw [TValue.wt_eq]; rfl)
theorem kv_kw (k : TKey) : (kvv k).kw = 1 := by unfold kvv; split <;> (rw [TValue.kw_eq]; rfl)
theorem kv_vok {k : TKey} (h : vk k = true) : (kvv k).vok = true ∧ (kvv k).plain = true := by
 unfold kvv
 rcases vk_fields h with ⟨h1, _, h2, _⟩ | ⟨h1, h2, h3, _⟩
 ·rw [if_pos h1, vok_eq, plain_eq]
  simp
  omega
 ·rw [if_neg (by rw [h1]; decide), vok_eq, plain_eq]
  simp
  omega
theorem app_ok : ∀ (n : Nat), n ≤ 2000000 → ∀ v : TValue, v.wt ≤ n → v.vok = true → v.plain = true → ∀ b : Str, b.length + v.ser.length ≤ 1000000000000 → m_i_appendSerial b v = some (b ++ v.ser)
 | 0, _, v, h, _, _ => by have := wt_pos v; omega
 | n + 1, hn, v, h, hv, hp => by
  intro b hb
  have hw := wt_pos v
  have hlen := wt_len (v := v)
  have hsl := ser_len _ hn v h hv hp
  rcases vok_fields hv hp with hk | ⟨k0, k1, hl, hx, n0, n1, hs, _⟩
  ·obtain ⟨e1, e2, ⟨x0, x1⟩, ⟨hV, hN⟩⟩ := (vok_arr hk).1 hv
   have hp' := hp
   rw [plain_eq, if_pos hk] at hp'
   have pl := plainL_mem _ hp'
   have go : ∀ m i : Nat, i ≤ v.fItems.length → v.fItems.length - i = m → ∀ b : Str, b.length + (TEntry.serL (v.fItems.drop i)).length ≤ 1000000000000 → m_i_appendSerial_L2 v b (i : Int) = some (b ++ TEntry.serL (v.fItems.drop i)) := by
    intro m
    induction m with
    | zero =>
     intro i h1 h2 b hb
     rw [m_i_appendSerial_L2, if_neg (by omega), List.drop_of_length_le (by omega), serL_nil, List.append_nil]
    | succ m ihm =>
     intro i h1 h2 b hb
     have hlt : i < v.fItems.length := by omega
     have hit := wt_item (List.getElem_mem hlt)
     obtain ⟨a1, a2, a3⟩ := hV _ (List.getElem_mem hlt)
     obtain ⟨c1, c2⟩ := kv_vok a1
     have hkl := keyText_len a1
     have hwp := wt_pos v.fItems[i].fVal
     have hvl := ser_len n (by omega) v.fItems[i].fVal (by omega) a3 (pl _ (List.getElem_mem hlt))
     rw [List.drop_eq_getElem_cons hlt, serL_cons] at hb
     simp only [List.length_append] at hb
     rw [m_i_appendSerial_L2, if_pos (by omega), idx_nat hlt, sb, kvI_eq, sb]
     cases n with
     | zero => omega
     | succ n =>
      rw [app_ok (n + 1) (by omega) (kvv v.fItems[i].fKey) (by rw [kv_wt]; omega) c1 c2 b (by rw [kv_ser]; omega), sb, kv_ser,
       app_ok (n + 1) (by omega) v.fItems[i].fVal (by omega) a3 (pl _ (List.getElem_mem hlt)) (b ++ keyText v.fItems[i].fKey) (by rw [List.length_append]; omega), sb, w_succ (by omega),
       ihm (i + 1) (by omega) (by omega) _ (by simp only [List.length_append]; omega), List.drop_eq_getElem_cons hlt, serL_cons]
      simp
   have h2 := itoa_len (n := (v.fItems.length : Int)) (by omega) (by omega)
   have h3 := itoa_len (n := v.fNext) (by omega) (by omega)
   have hwe := v.wt_eq
   have hd : v.fItems.drop 0 = v.fItems := rfl
   rw [ser_eq, if_neg (by omega), if_neg (by omega), if_neg (by omega), if_neg (by omega)] at hb hsl
   simp only [List.length_append, List.length_cons, List.length_nil] at hb hsl
   have e := go v.fItems.length 0 (by omega) (by omega) (b ++ ([97, 58] ++ Lib.itoa (v.fItems.length : Int) ++ [58] ++ Lib.itoa v.fNext ++ [123])) (by
    rw [hd]; simp only [List.length_append, List.length_cons, List.length_nil]; omega)
   replace e : m_i_appendSerial_L2 v (b ++ ([97, 58] ++ Lib.itoa (v.fItems.length : Int) ++ [58] ++ Lib.itoa v.fNext ++ [123])) 0 = some ((b ++ ([97, 58] ++ Lib.itoa (v.fItems.length : Int) ++ [58] ++ Lib.itoa v.fNext ++ [123])) ++ TEntry.serL v.fItems) := e
   rw [m_i_appendSerial, if_neg (by omega), if_neg (by omega), if_neg (by omega), if_neg (by omega), fmt_eq (by omega) (by omega), sb,
    scat_eq (by simp only [List.length_cons, List.length_nil]; omega), sb, scat_eq (by simp only [List.length_append, List.length_cons, List.length_nil]; omega), sb, fmt_eq (by omega) (by omega), sb,
    scat_eq (by simp only [List.length_append, List.length_cons, List.length_nil]; omega), sb, scat_eq (by simp only [List.length_append, List.length_cons, List.length_nil]; omega), sb,
    lapp_eq (by simp only [List.length_append, List.length_cons, List.length_nil]; omega), sb, e, sb, lapp_eq (by simp only [List.length_append, List.length_cons, List.length_nil]; omega), sb, ser_eq,
    if_neg (by omega), if_neg (by omega), if_neg (by omega), if_neg (by omega)]
   simp
  ·have h1 := itoa_len (n := v.fNum) (by omega) (by omega)
   have h2 := itoa_len (n := (v.fStr.length : Int)) (by omega) (by omega)
   rw [m_i_appendSerial, ser_eq]
   by_cases z0 : v.fKind = 0
   ·rw [if_pos z0, if_pos z0, lapp_eq (by simp only [List.length_cons, List.length_nil]; omega), sb]
   rw [if_neg z0, if_neg z0]
   by_cases z1 : v.fKind = 1
   ·rw [if_pos z1, if_pos z1, fmt_eq (by omega) (by omega), sb, scat_eq (by simp only [List.length_cons, List.length_nil]; omega), sb, scat_eq (by simp only [List.length_append, List.length_cons, List.length_nil]; omega), sb,
     lapp_eq (by simp only [List.length_append, List.length_cons, List.length_nil]; omega), sb]
   rw [if_neg z1, if_neg z1]
   by_cases z2 : v.fKind = 2
   ·rw [if_pos z2, if_pos z2, fmt_eq (by omega) (by omega), sb, scat_eq (by simp only [List.length_cons, List.length_nil]; omega), sb, scat_eq (by simp only [List.length_append, List.length_cons, List.length_nil]; omega), sb,
     lapp_eq (by simp only [List.length_append, List.length_cons, List.length_nil]; omega), sb]
   rw [if_neg z2, if_neg z2, if_pos (by omega), if_pos (by omega), fmt_eq (by omega) (by omega), sb, scat_eq (by simp only [List.length_cons, List.length_nil]; omega), sb, scat_eq (by simp only [List.length_append, List.length_cons, List.length_nil]; omega), sb,
    scat_eq (by simp only [List.length_append, List.length_cons, List.length_nil]; omega), sb, scat_eq (by simp only [List.length_append, List.length_cons, List.length_nil]; omega), sb,
    lapp_eq (by simp only [List.length_append, List.length_cons, List.length_nil]; omega), sb]
   rfl
theorem serialize_eq {v : TValue} (h : v.wt ≤ 2000000) : m_i_Serialize v = some (if (decide (v.kw ≤ 200) && v.vok) && v.plain then (v.ser, true) else ([], false)) := by
 unfold m_i_Serialize
 have e : m_i_IsValue v = some (decide (v.kw ≤ 200) && v.vok) := by
  unfold m_i_IsValue
  rw [weight_eq _ (Nat.le_refl _) v h, sb, wellFormed_eq _ (Nat.le_refl _) v h]
  by_cases h : v.kw ≤ 200
  ·rw [if_pos (by omega), sb, decide_eq_true h]; rfl
  ·rw [if_neg (by omega), decide_eq_false h]; rfl
 rw [e, sb]
 cases h1 : (decide (v.kw ≤ 200) && v.vok) with
 | false => rfl
 | true =>
  simp only [Bool.and_eq_true] at h1
  rw [if_pos rfl, isPlain_eq _ (Nat.le_refl _) v h, sb]
  cases h2 : v.plain with
  | false => rfl
  | true => rw [if_pos rfl, app_ok _ (Nat.le_refl _) v h h1.2 h2 [] (by have := ser_len _ (Nat.le_refl _) v h h1.2 h2; simp only [List.length_nil]; omega), sb]; rfl
end Go.Am
