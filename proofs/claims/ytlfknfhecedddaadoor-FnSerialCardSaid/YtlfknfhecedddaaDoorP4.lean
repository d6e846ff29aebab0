/- The law on serialized values. -/
import Derived.Test.YtlfknfhecedddaaDoorP3
import Derived.Test.YtlfknfhecedddaaDoorV5
import Derived.Test.YtlfknfhecedddaaDoorE1
import Derived.Test.YtlfknfhecedddaaDoorS4
set_option linter.unusedVariables false
set_option linter.unusedSimpArgs false
namespace Go.Am
open Go Go.RowKit Go.Proofs

theorem kvS_eq (k : TKey) : m_s_KeyValue k = some (kvv k) := by unfold m_s_KeyValue kvv; split <;> rfl
theorem text_ok : ∀ (n : Nat), n ≤ 1000000 → ∀ v : TValue, v.wt ≤ n → v.vok = true → v.plain = true → m_s_l11Text v = some v.ser
  | 0, _, v, h, _, _ => by have := wt_pos v; omega
  | n + 1, hn, v, h, hv, hp => by
    have hw := wt_pos v
    have hlen := wt_len (v := v)
    have hsl := ser_len _ hn v h hv hp
    rcases vok_fields hv hp with hk | ⟨k0, k1, hl, hx, n0, n1, hs, _⟩
    · obtain ⟨e1, e2, ⟨x0, x1⟩, ⟨hV, hN⟩⟩ := (vok_arr hk).1 hv
      have hp' := hp
      rw [plain_eq, if_pos hk] at hp'
      have pl := plainL_mem _ hp'
      have go : ∀ m i : Nat, i ≤ v.fItems.length → v.fItems.length - i = m → ∀ b : Str, b.length + (TEntry.serL (v.fItems.drop i)).length ≤ 1000000000000 → m_s_l11Text_L2 v b (i : Int) = some (b ++ TEntry.serL (v.fItems.drop i)) := by
        intro m
        induction m with
        | zero =>
          intro i h1 h2 b hb
          rw [m_s_l11Text_L2, if_neg (by omega), List.drop_of_length_le (by omega), serL_nil, List.append_nil]
        | succ m ihm =>
          intro i h1 h2 b hb
          have hlt : i < v.fItems.length := by omega
          have hit := wt_item (List.getElem_mem hlt)
          obtain ⟨a1, a2, a3⟩ := hV _ (List.getElem_mem hlt)
          obtain ⟨c1, c2⟩ := kv_vok a1
          rw [List.drop_eq_getElem_cons hlt, serL_cons] at hb
          simp only [List.length_append] at hb
          rw [m_s_l11Text_L2, if_pos (by omega), idx_nat hlt, sb, sb, kvS_eq, sb, text_ok n (by omega) (kvv v.fItems[i].fKey) (by rw [kv_wt]; have := wt_pos v.fItems[i].fVal; omega) c1 c2, sb, kv_ser,
            scat_eq (by omega), sb, text_ok n (by omega) v.fItems[i].fVal (by omega) a3 (pl _ (List.getElem_mem hlt)), sb, scat_eq (by rw [List.length_append]; omega), sb, w_succ (by omega),
            ihm (i + 1) (by omega) (by omega) _ (by simp only [List.length_append]; omega), List.drop_eq_getElem_cons hlt, serL_cons]
          simp
      have h2 := itoa_len (n := (v.fItems.length : Int)) (by omega) (by omega)
      have h3 := itoa_len (n := v.fNext) (by omega) (by omega)
      have hd : v.fItems.drop 0 = v.fItems := rfl
      rw [ser_eq, if_neg (by omega), if_neg (by omega), if_neg (by omega), if_neg (by omega)] at hsl
      simp only [List.length_append, List.length_cons, List.length_nil] at hsl
      have e := go v.fItems.length 0 (by omega) (by omega) ([97, 58] ++ Lib.itoa (v.fItems.length : Int) ++ [58] ++ Lib.itoa v.fNext ++ [123]) (by
        rw [hd]; simp only [List.length_append, List.length_cons, List.length_nil]; omega)
      replace e : m_s_l11Text_L2 v ([97, 58] ++ Lib.itoa (v.fItems.length : Int) ++ [58] ++ Lib.itoa v.fNext ++ [123]) 0 = some (([97, 58] ++ Lib.itoa (v.fItems.length : Int) ++ [58] ++ Lib.itoa v.fNext ++ [123]) ++ TEntry.serL v.fItems) := e
      rw [m_s_l11Text, if_neg (by omega), if_neg (by omega), if_neg (by omega), if_neg (by omega), m94_eq _ (by omega) (by omega), sb,
        scat_eq (by simp only [List.length_cons, List.length_nil]; omega), sb, scat_eq (by simp only [List.length_append, List.length_cons, List.length_nil]; omega), sb, m94_eq _ (by omega) (by omega), sb,
        scat_eq (by simp only [List.length_append, List.length_cons, List.length_nil]; omega), sb, scat_eq (by simp only [List.length_append, List.length_cons, List.length_nil]; omega), sb,
        e, sb, scat_eq (by simp only [List.length_append, List.length_cons, List.length_nil]; omega), sb, ser_eq,
        if_neg (by omega), if_neg (by omega), if_neg (by omega), if_neg (by omega)]
    · have h1 := itoa_len (n := v.fNum) (by omega) (by omega)
      have h2 := itoa_len (n := (v.fStr.length : Int)) (by omega) (by omega)
      rw [m_s_l11Text, ser_eq]
      by_cases z0 : v.fKind = 0
      · rw [if_pos z0, if_pos z0]
      rw [if_neg z0, if_neg z0]
      by_cases z1 : v.fKind = 1
      · rw [if_pos z1, if_pos z1, m94_eq _ (by omega) (by omega), sb, scat_eq (by simp only [List.length_cons, List.length_nil]; omega), sb, scat_eq (by simp only [List.length_append, List.length_cons, List.length_nil]; omega), sb]
      rw [if_neg z1, if_neg z1]
      by_cases z2 : v.fKind = 2
      · rw [if_pos z2, if_pos z2, m94_eq _ (by omega) (by omega), sb, scat_eq (by simp only [List.length_cons, List.length_nil]; omega), sb, scat_eq (by simp only [List.length_append, List.length_cons, List.length_nil]; omega), sb]
      rw [if_neg z2, if_neg z2, if_pos (by omega), if_pos (by omega), m94_eq _ (by omega) (by omega), sb, scat_eq (by simp only [List.length_cons, List.length_nil]; omega), sb, scat_eq (by simp only [List.length_append, List.length_cons, List.length_nil]; omega), sb,
        scat_eq (by simp only [List.length_append, List.length_cons, List.length_nil]; omega), sb, scat_eq (by simp only [List.length_append, List.length_cons, List.length_nil]; omega), sb]
      rfl

/-! ### The draws -/
theorem m40_any {c : TL1Cur} (h : Cu c) {n : Nat} (h1 : 1 ≤ n) : ∃ (v : Nat) (c' : TL1Cur), m40 c (n : Int) = some ((v : Int), c') ∧ v < n ∧ Cu c' := by
  by_cases h2 : n ≤ 256
  · exact m40_ok h h1 h2
  obtain ⟨v1, c1, e1, a1, a2, a3⟩ := m72_ok h
  obtain ⟨v2, c2, e2, b1, b2, b3⟩ := m72_ok a3
  obtain ⟨v3, c3, e3, d1, d2, d3⟩ := m72_ok b3
  unfold m40
  rw [if_neg (by omega), if_neg (by omega), e1, sb]
  show ∃ (v : Nat) (c' : TL1Cur), (m72 c1 >>= _) = some ((v : Int), c') ∧ _
  rw [e2, sb]
  show ∃ (v : Nat) (c' : TL1Cur), (m72 c2 >>= _) = some ((v : Int), c') ∧ _
  rw [e3, sb]
  have hm : must ((n : Int) ≠ 0) = some () := if_pos (by omega)
  have w1 : W64 (v1 * 65536) = v1 * 65536 := by rw [W64, w64 (by omega) (by omega)]
  have w2 : W64 (v2 * 256) = v2 * 256 := by rw [W64, w64 (by omega) (by omega)]
  have w3 : W64 (v1 * 65536 + v2 * 256) = v1 * 65536 + v2 * 256 := by rw [W64, w64 (by omega) (by omega)]
  have w4 : W64 (v1 * 65536 + v2 * 256 + v3) = v1 * 65536 + v2 * 256 + v3 := by rw [W64, w64 (by omega) (by omega)]
  obtain ⟨u, hu⟩ : ∃ u : Nat, v1 * 65536 + v2 * 256 + v3 = (u : Int) := ⟨(v1 * 65536 + v2 * 256 + v3).toNat, by omega⟩
  refine ⟨u % n, c3, ?_, Nat.mod_lt _ (by omega), d3⟩
  show (must ((n : Int) ≠ 0) >>= fun _ => some ((W64 ((W64 ((W64 (v1 * 65536)) + (W64 (v2 * 256)))) + v3)).tmod (n : Int), c3)) = _
  rw [hm, sb, w1, w2, w3, w4, hu, ← Int.ofNat_tmod]
theorem bent_ok {c : TL1Cur} (h : Cu c) {l : Str} (hl : l.length ≤ 999999) : ∃ t c', m_s_l1Bent c l = some (t, c') ∧ t.length ≤ 1000000 := by
  obtain ⟨v, c1, e1, hv, h1⟩ := m40_ok h (n := 6) (by decide) (by decide)
  replace e1 : m40 c 6 = some ((v : Int), c1) := e1
  unfold m_s_l1Bent
  rw [lapp_eq (by simp only [List.length_nil]; omega), sb, List.nil_append, e1, sb]
  show ∃ t c', (if (v : Int) = 0 then _ else _) = some (t, c') ∧ _
  split
  · split
    · obtain ⟨p, c2, e2, hp, h2⟩ := m40_any h1 (n := l.length) (by omega)
      obtain ⟨q, c3, e3, hq, h3⟩ := m40_ok h2 (n := 256) (by decide) (by decide)
      replace e3 : m40 c2 256 = some ((q : Int), c3) := e3
      rw [e2, sb]
      show ∃ t c', (m40 c2 256 >>= _) = some (t, c') ∧ _
      rw [e3, sb]
      show ∃ t c', (idx l (p : Int) >>= _) = some (t, c') ∧ _
      rw [idx_nat hp, sb]
      exact ⟨_, _, rfl, by rw [List.length_set]; omega⟩
    · exact ⟨_, _, rfl, by omega⟩
  split
  · obtain ⟨p, c2, e2, hp, h2⟩ := m40_any h1 (n := l.length + 1) (by omega)
    rw [w_succ (by omega), e2, sb]
    show ∃ t c', (lto l (p : Int) >>= _) = some (t, c') ∧ _
    have e : lto l (p : Int) = some (l.take p) := by unfold lto; rw [if_pos ⟨by omega, by omega⟩]; rfl
    rw [e, sb]
    exact ⟨_, _, rfl, by rw [List.length_take]; omega⟩
  split
  · obtain ⟨x, c2, e2, h2⟩ := m85_ok h1 ([0, 1, 128, 255] : List Int) (by decide) (by decide)
    rw [e2, sb]
    show ∃ t c', (lapp 1 l [UInt8.ofNat (IntKind.u8.wrap x).toNat] >>= _) = some (t, c') ∧ _
    rw [lapp_eq (by simp only [List.length_cons, List.length_nil]; omega), sb]
    exact ⟨_, _, rfl, by rw [List.length_append]; simp only [List.length_cons, List.length_nil]; omega⟩
  · exact ⟨_, _, rfl, by omega⟩
theorem drawSer_ok {b : List UInt8} (h : b.length ≤ 1048576) : ∃ v, m_s_DrawSerialize b = some v ∧ Dv2 v := by
  unfold m_s_DrawSerialize
  obtain ⟨c, e, hc⟩ := m36_ok h
  obtain ⟨v, c1, e1, hv, h1⟩ := m88_ok hc
  rw [e, sb, e1, sb]
  exact ⟨_, rfl, hv⟩
theorem drawUns_ok {b : List UInt8} (h : b.length ≤ 1048576) : ∃ t, m_s_DrawUnserialize b = some t ∧ t.length ≤ 1000000 := by
  unfold m_s_DrawUnserialize
  obtain ⟨c, e, hc⟩ := m36_ok h
  obtain ⟨g, c1, e1, h1⟩ := m37_ok hc (n := 4) (by decide) (by decide)
  replace e1 : m37 c 4 = some (g, c1) := e1
  rw [e, sb, e1, sb]
  show ∃ t, (if g = true then _ else _) = some t ∧ _
  split
  · obtain ⟨x, c2, e2, hm, h2⟩ := m39_mem h1 ([[], [78], [78, 59], [78, 59, 78, 59], [98, 58, 50, 59], [105, 58, 48, 53, 59], [115, 58, 51, 58, 97, 98, 59], [115, 58, 50, 58, 97, 98, 59], [97, 58, 48, 58, 48, 123, 125], [97, 58, 49, 58, 48, 123, 105, 58, 48, 59, 78, 59, 125], [97, 58, 49, 58, 49, 123, 115, 58, 49, 58, 48, 59, 78, 59, 125], [97, 58, 50, 58, 50, 123, 105, 58, 49, 59, 78, 59, 105, 58, 49, 59, 78, 59, 125], [105, 58, 49, 48, 48, 48, 48, 48, 48, 48, 48, 49, 59], [97, 58, 48, 58, 49, 48, 48, 48, 48, 48, 48, 48, 48, 49, 123, 125], [115, 58, 45, 49, 58, 59]] : List Str) (by decide) (by decide)
    rw [e2, sb]
    have := of_decide_eq_true (all_mem (p := fun x : Str => decide (x.length ≤ 100)) (by decide) x hm)
    exact ⟨_, rfl, by omega⟩
  · obtain ⟨x, c2, e2, ⟨hw, hv, hp⟩, h2⟩ := m50_gv 3 (by decide) c1 h1
    replace e2 : m50 c1 3 = some (x, c2) := e2
    replace hw : x.wt ≤ 1111 := hw
    have hl := ser_len 1000000 (Nat.le_refl _) x (by omega) hv hp
    obtain ⟨t, c3, e3, h3⟩ := bent_ok h2 (l := x.ser) (by omega)
    rw [e2, sb]
    show ∃ t, (m_s_l11Text x >>= _) = some t ∧ _
    rw [text_ok 1000000 (Nat.le_refl _) x (by omega) hv hp, sb, e3, sb]
    exact ⟨_, rfl, h3⟩

/-! ### The law -/
theorem isvI_eq {v : TValue} (hv : v.wt ≤ 1000000) : m_i_IsValue v = some (decide (v.kw ≤ 200) && v.vok) := by
  unfold m_i_IsValue
  rw [weight_eq _ (Nat.le_refl _) v hv, sb, wellFormed_eq _ (Nat.le_refl _) v hv]
  by_cases h : v.kw ≤ 200
  · rw [if_pos (by omega), sb, decide_eq_true h]; rfl
  · rw [if_neg (by omega), decide_eq_false h]; rfl
theorem isvS_eq {v : TValue} (hv : v.wt ≤ 1000000) : m22 v = some (decide (v.kw ≤ 200) && v.vok) := by
  obtain ⟨r, e3, g1, g2, g3⟩ := weigh_eq 1000000 (Nat.le_refl _) v hv 200 (by omega) (by omega)
  unfold m22
  rw [e3, sb, valid_eq 1000000 (Nat.le_refl _) v hv]
  by_cases h : v.kw ≤ 200
  · have := g2 (by omega)
    rw [if_pos (by omega), sb, decide_eq_true h]; rfl
  · have := g3 (by omega)
    rw [if_neg (by omega), decide_eq_false h]; rfl
theorem unser_back {v : TValue} (hw : v.wt ≤ 1000000) (hk : v.kw ≤ 200) (hv : v.vok = true) (hp : v.plain = true) : m_i_Unserialize v.ser = some (v, true) := by
  have hl := ser_len 1000000 (Nat.le_refl _) v hw hv hp
  have e := rd_ok 1000000 (Nat.le_refl _) v hw hv hp v.ser [] 0 0 (by rw [List.append_nil]; rfl) (by omega) (by omega)
  replace e : m_i_serialReadervalue (.mk v.ser 0 false) 0 = some (v, .mk v.ser ((0 + v.ser.length : Nat) : Int) false) := e
  have e2 := serialize_eq hw
  rw [decide_eq_true hk, hv, hp] at e2
  replace e2 : m_i_Serialize v = some (v.ser, true) := e2
  unfold m_i_Unserialize
  rw [e, sb]
  show (if false = true then _ else if ((0 + v.ser.length : Nat) : Int) = (v.ser.length : Int) then _ else _) = _
  rw [if_neg (by decide), if_pos (by omega), e2, sb]
  show (if true = true then (if v.ser = v.ser then _ else _) else _) = _
  rw [if_pos rfl, if_pos rfl]

theorem law_serial (code : List UInt8) : m_l_FnSerial code = some true := by
  unfold m_l_FnSerial
  by_cases hb : (code.length : Int) > 1048576
  · rw [if_pos hb]
  rw [if_neg hb]
  obtain ⟨v, e, hv⟩ := drawSer_ok (b := code) (by omega)
  obtain ⟨t, et, ht⟩ := drawUns_ok (b := code) (by omega)
  obtain ⟨y, g, ey, hy, hg⟩ := unser_tot ht
  have hw : v.wt ≤ 1000000 := by have : v.wt ≤ 2000 := hv; omega
  have eys := serialize_eq hy
  -- the second half
  have second : (m_s_DrawUnserialize code >>= fun v41 =>
        m_i_Unserialize v41 >>= fun (v43, v44) =>
        (
          m_i_Serialize v43 >>= fun (v51, v52) =>
          some (v51, v52)
         : Option (Str × Bool)) >>= fun (s46, b47) =>
        (if v44 = true then
          (if b47 = true then
            (if s46 = v41 then
              m_i_IsValue v43 >>= fun v57 =>
              (if v57 = true then
                m_i_IsPlain v43 >>= fun v60 =>
                some v60
              else
                some false)
            else
              some false)
          else
            some false)
        else
          some true)) = some true := by
    rw [et, sb, ey, sb]
    show ((m_i_Serialize y >>= fun (v51, v52) => some (v51, v52)) >>= fun (s46, b47) => (if g = true then _ else _)) = _
    cases g with
    | false =>
      rw [eys]
      rfl
    | true =>
      have e1 := hg rfl
      rw [e1, sb]
      show (if true = true then (if true = true then (if t = t then m_i_IsValue y >>= fun v57 => (if v57 = true then m_i_IsPlain y >>= fun v60 => some v60 else some false) else some false) else some false) else some true) = some true
      rw [if_pos rfl, if_pos rfl, if_pos rfl]
      rw [e1] at eys
      have hgood : ((decide (y.kw ≤ 200) && y.vok) && y.plain) = true := by
        cases hq : ((decide (y.kw ≤ 200) && y.vok) && y.plain) with
        | true => rfl
        | false =>
          rw [hq] at eys
          have := Option.some.inj eys
          cases congrArg Prod.snd this
      rw [Bool.and_eq_true] at hgood
      rw [isvI_eq hy, sb, hgood.1, if_pos rfl, isPlain_eq _ (Nat.le_refl _) y hy, sb, hgood.2]
  rw [e, sb]
  show ((m_i_Serialize v >>= fun (v9, v10) => some (v9, v10)) >>= _) = _
  have es := serialize_eq hw
  by_cases hgood : ((decide (v.kw ≤ 200) && v.vok) && v.plain) = true
  · rw [hgood] at es
    replace es : m_i_Serialize v = some (v.ser, true) := es
    rw [Bool.and_eq_true] at hgood
    have h1 := hgood.1
    rw [Bool.and_eq_true] at h1
    rw [es, sb]
    show (m_i_Unserialize v.ser >>= _) = _
    rw [unser_back hw (of_decide_eq_true h1.1) h1.2 hgood.2, sb]
    show ((m22 v >>= _) >>= _) = _
    rw [isvS_eq hw, sb, hgood.1, if_pos rfl, isPlainS_eq _ (Nat.le_refl _) v hw, sb, hgood.2]
    rw [if_pos rfl, if_pos rfl]
    show (((if true = true then _ else _ : Option ((Unit) ⊕ Bool))) >>= _) = _
    rw [if_pos rfl, m19_refl (sm_wt hw), sb, if_pos rfl, sb]
    exact second
  · have hgood' : ((decide (v.kw ≤ 200) && v.vok) && v.plain) = false := by simpa using hgood
    rw [hgood'] at es
    replace es : m_i_Serialize v = some ([], false) := es
    obtain ⟨y2, g2, ey2, _, _⟩ := unser_tot (s := []) (by simp)
    rw [es, sb]
    show (m_i_Unserialize [] >>= _) = _
    rw [ey2, sb]
    show ((m22 v >>= _) >>= _) = _
    rw [isvS_eq hw, sb]
    cases hq : (decide (v.kw ≤ 200) && v.vok) with
    | true =>
      rw [hq] at hgood'
      have hpl : v.plain = false := by simpa using hgood'
      rw [if_pos rfl, isPlainS_eq _ (Nat.le_refl _) v hw, sb, hpl, if_pos rfl, if_neg (by decide), sb]
      exact second
    | false =>
      rw [if_neg (by decide), if_pos rfl, if_neg (by decide), sb]
      exact second
theorem lawSerial (code : List UInt8) : ACall Tryd.prog 6 [sl 1 cB code] [] (fun res _ => res = .bool true) :=
  (ok_l_FnSerial (law_serial code)).mono (fun _ _ h => h.1)

end Go.Am
