/- Models of Go functions, and their walks. (Printed by tools/mg.py.) -/
import Derived.Test.YtlfknfhecedddaaDoorS1
set_option linter.unusedVariables false
set_option linter.unusedSimpArgs false
namespace Go.Am
open Go Go.RowKit Go.Proofs

mutual
def m_s_l11Text (a0 : TValue) : Option (Str) :=
  (if a0.fKind = 0 then
    some [78, 59]
  else
    (if a0.fKind = 1 then
      m94 a0.fNum >>= fun v3 =>
      scat [98, 58] v3 >>= fun s5 =>
      scat s5 [59] >>= fun s7 =>
      some s7
    else
      (if a0.fKind = 2 then
        m94 a0.fNum >>= fun v10 =>
        scat [105, 58] v10 >>= fun s12 =>
        scat s12 [59] >>= fun s14 =>
        some s14
      else
        (if a0.fKind = 3 then
          m94 (a0.fStr.length : Int) >>= fun v17 =>
          scat [115, 58] v17 >>= fun s19 =>
          scat s19 [58] >>= fun s21 =>
          scat s21 a0.fStr >>= fun s23 =>
          scat s23 [59] >>= fun s25 =>
          some s25
        else
          m94 (a0.fItems.length : Int) >>= fun v27 =>
          scat [97, 58] v27 >>= fun s29 =>
          scat s29 [58] >>= fun s31 =>
          m94 a0.fNext >>= fun v33 =>
          scat s31 v33 >>= fun s35 =>
          scat s35 [123] >>= fun s37 =>
          (
            m_s_l11Text_L2 a0 s37 0
           : Option (Str)) >>= fun s39 =>
          scat s39 [125] >>= fun s68 =>
          some s68))))
partial_fixpoint
def m_s_l11Text_L2 (a0 : TValue) (s43 : Str) (y44 : Int) : Option (Str) :=
  (if y44 < (a0.fItems.length : Int) then
    idx a0.fItems y44 >>= fun x49 =>
    idx a0.fItems y44 >>= fun x51 =>
    m_s_KeyValue x49.fKey >>= fun v53 =>
    m_s_l11Text v53 >>= fun v55 =>
    scat s43 v55 >>= fun s57 =>
    m_s_l11Text x51.fVal >>= fun v59 =>
    scat s57 v59 >>= fun s61 =>
    m_s_l11Text_L2 a0 s61 (W64 (y44 + 1))
  else
    some s43)
partial_fixpoint
end
def okS63 (a0 : TValue) (r : Str) : Prop := ACall Tryd.prog 63 [.agg [.int .i64 a0.fKind, .int .i64 a0.fNum, .str a0.fStr, .int .i64 a0.fNext, sl 8 TEntry.cells a0.fItems]] [] (fun res h => res = .str r ∧ h = [])
inductive m_s_l11Text_L2_I : TValue → Str → Int → (Str) → Prop
  | mk (G63 : TValue → Option (Str)) (hG63 : ∀ a0 r, G63 a0 = some r → okS63 a0 r) (F_m_s_l11Text_L2 : TValue → Str → Int → Option (Str)) (hF_m_s_l11Text_L2 : ∀ a0 s43 y44 o, F_m_s_l11Text_L2 a0 s43 y44 = some o → m_s_l11Text_L2_I a0 s43 y44 o) (a0 : TValue) (s43 : Str) (y44 : Int) (o : Str) (h : (
      (if y44 < (a0.fItems.length : Int) then
        idx a0.fItems y44 >>= fun x49 =>
        idx a0.fItems y44 >>= fun x51 =>
        m_s_KeyValue x49.fKey >>= fun v53 =>
        G63 v53 >>= fun v55 =>
        scat s43 v55 >>= fun s57 =>
        G63 x51.fVal >>= fun v59 =>
        scat s57 v59 >>= fun s61 =>
        F_m_s_l11Text_L2 a0 s61 (W64 (y44 + 1))
      else
        some s43)
    ) = some o) : m_s_l11Text_L2_I a0 s43 y44 o
theorem m_s_l11Text_L2_ind {motive : TValue → Str → Int → (Str) → Prop} (step : ∀ (G63 : TValue → Option (Str)) (hG63 : ∀ a0 r, G63 a0 = some r → okS63 a0 r) (F_m_s_l11Text_L2 : TValue → Str → Int → Option (Str)) (hF_m_s_l11Text_L2 : ∀ a0 s43 y44 o, F_m_s_l11Text_L2 a0 s43 y44 = some o → m_s_l11Text_L2_I a0 s43 y44 o) (a0 : TValue) (s43 : Str) (y44 : Int) (o : Str) (h : (
      (if y44 < (a0.fItems.length : Int) then
        idx a0.fItems y44 >>= fun x49 =>
        idx a0.fItems y44 >>= fun x51 =>
        m_s_KeyValue x49.fKey >>= fun v53 =>
        G63 v53 >>= fun v55 =>
        scat s43 v55 >>= fun s57 =>
        G63 x51.fVal >>= fun v59 =>
        scat s57 v59 >>= fun s61 =>
        F_m_s_l11Text_L2 a0 s61 (W64 (y44 + 1))
      else
        some s43)
    ) = some o) (ih : ∀ a0 s43 y44 o, F_m_s_l11Text_L2 a0 s43 y44 = some o → motive a0 s43 y44 o), motive a0 s43 y44 o) : ∀ a0 s43 y44 o, m_s_l11Text_L2_I a0 s43 y44 o → motive a0 s43 y44 o :=
  fun a0 s43 y44 o h => m_s_l11Text_L2_I.rec (motive := fun a0 s43 y44 o _ => motive a0 s43 y44 o) step h
theorem grp__s_l11Text : (∀ a0 r, m_s_l11Text a0 = some r → okS63 a0 r) ∧ (∀ a0 s43 y44 o, m_s_l11Text_L2 a0 s43 y44 = some o → m_s_l11Text_L2_I a0 s43 y44 o) := by
  refine m_s_l11Text.mutual_partial_correctness okS63 m_s_l11Text_L2_I ?_ ?_
  · intro _ hI67 a0 r h
    refine ACall.of_vc tabT_ok mixed Tryd.func63 rfl (by kernel_rfl) _ _ _ rfl (by kernel_rfl) ?_
    refine .direct ?_
    refine .direct ?_
    refine .direct ?_
    refine ⟨rfl, ?_⟩
    refine ⟨rfl, _, rfl, ?_⟩
    refine .direct ?_
    refine splitB.mk (fun hb1 => ?_) (fun hb1 => ?_)
    · replace h := T_beq hb1 h
      refine .direct ?_
      obtain rfl := Option.some.inj h
      exact ⟨[], .str [78, 59], [], by decide, (show 0 ≤ 0 by decide), .str_eq rfl, trivial, rfl, rfl⟩
    · replace h := F_beq hb1 h
      refine .direct ?_
      refine splitB.mk (fun hb2 => ?_) (fun hb2 => ?_)
      · replace h := T_beq hb2 h
        refine .direct ?_
        refine ⟨rfl, ?_⟩
        refine ⟨rfl, _, rfl, ?_⟩
        obtain ⟨v3, hv4, h⟩ := bind_some h
        refine ⟨_, ACall.pure0 (ok94 hv4) _ rfl (fun _ => rfl), ?_⟩
        rintro _ _ ⟨rfl, rfl⟩
        obtain ⟨s5, hx6, h⟩ := bind_some h
        refine ⟨scat_bd hx6, s5, scat_at hx6, ?_⟩
        obtain ⟨s7, hx8, h⟩ := bind_some h
        refine ⟨scat_bd hx8, s7, scat_at hx8, ?_⟩
        obtain rfl := Option.some.inj h
        exact ⟨[], .str s7, [], by decide, (show 0 ≤ 0 by decide), .str_eq rfl, trivial, rfl, rfl⟩
      · replace h := F_beq hb2 h
        refine .direct ?_
        refine splitB.mk (fun hb9 => ?_) (fun hb9 => ?_)
        · replace h := T_beq hb9 h
          refine .direct ?_
          refine ⟨rfl, ?_⟩
          refine ⟨rfl, _, rfl, ?_⟩
          obtain ⟨v10, hv11, h⟩ := bind_some h
          refine ⟨_, ACall.pure0 (ok94 hv11) _ rfl (fun _ => rfl), ?_⟩
          rintro _ _ ⟨rfl, rfl⟩
          obtain ⟨s12, hx13, h⟩ := bind_some h
          refine ⟨scat_bd hx13, s12, scat_at hx13, ?_⟩
          obtain ⟨s14, hx15, h⟩ := bind_some h
          refine ⟨scat_bd hx15, s14, scat_at hx15, ?_⟩
          obtain rfl := Option.some.inj h
          exact ⟨[], .str s14, [], by decide, (show 0 ≤ 0 by decide), .str_eq rfl, trivial, rfl, rfl⟩
        · replace h := F_beq hb9 h
          refine .direct ?_
          refine splitB.mk (fun hb16 => ?_) (fun hb16 => ?_)
          · replace h := T_beq hb16 h
            refine .direct ?_
            refine .float [(0, true), (1, true), (2, true), (6, true), (7, true), (3, false), (4, true), (5, true), (8, true), (9, true), (10, true)] (by kernel_rfl) ?_
            refine ⟨rfl, ?_⟩
            refine ⟨rfl, _, rfl, ?_⟩
            refine ⟨rfl, ?_⟩
            refine ⟨rfl, _, rfl, ?_⟩
            obtain ⟨v17, hv18, h⟩ := bind_some h
            refine ⟨_, ACall.pure0 (ok94 hv18) _ rfl (fun _ => rfl), ?_⟩
            rintro _ _ ⟨rfl, rfl⟩
            refine ⟨rfl, ?_⟩
            refine ⟨rfl, ?_⟩
            obtain ⟨s19, hx20, h⟩ := bind_some h
            refine ⟨scat_bd hx20, s19, scat_at hx20, ?_⟩
            obtain ⟨s21, hx22, h⟩ := bind_some h
            refine ⟨scat_bd hx22, s21, scat_at hx22, ?_⟩
            obtain ⟨s23, hx24, h⟩ := bind_some h
            refine ⟨scat_bd hx24, s23, scat_at hx24, ?_⟩
            obtain ⟨s25, hx26, h⟩ := bind_some h
            refine ⟨scat_bd hx26, s25, scat_at hx26, ?_⟩
            obtain rfl := Option.some.inj h
            exact ⟨[], .str s25, [], by decide, (show 0 ≤ 0 by decide), .str_eq rfl, trivial, rfl, rfl⟩
          · replace h := F_beq hb16 h
            refine .direct ?_
            refine .float [(0, true), (1, true), (2, true), (6, true), (7, true), (3, false), (4, true), (5, true), (8, false), (9, true), (10, true), (11, true)] (by kernel_rfl) ?_
            refine ⟨rfl, ?_⟩
            refine ⟨rfl, _, rfl, ?_⟩
            refine ⟨rfl, ?_⟩
            refine ⟨rfl, _, rfl, ?_⟩
            obtain ⟨v27, hv28, h⟩ := bind_some h
            refine ⟨_, ACall.pure0 (ok94 hv28) _ rfl (fun _ => rfl), ?_⟩
            rintro _ _ ⟨rfl, rfl⟩
            refine ⟨rfl, ?_⟩
            refine ⟨rfl, ?_⟩
            obtain ⟨s29, hx30, h⟩ := bind_some h
            refine ⟨scat_bd hx30, s29, scat_at hx30, ?_⟩
            obtain ⟨s31, hx32, h⟩ := bind_some h
            refine ⟨scat_bd hx32, s31, scat_at hx32, ?_⟩
            obtain ⟨v33, hv34, h⟩ := bind_some h
            refine ⟨_, ACall.pure0 (ok94 hv34) _ rfl (fun _ => rfl), ?_⟩
            rintro _ _ ⟨rfl, rfl⟩
            obtain ⟨s35, hx36, h⟩ := bind_some h
            refine ⟨scat_bd hx36, s35, scat_at hx36, ?_⟩
            obtain ⟨s37, hx38, h⟩ := bind_some h
            refine ⟨scat_bd hx38, s37, scat_at hx38, ?_⟩
            obtain ⟨o40, ho41, hk42⟩ := bind_some h
            replace h := ho41
            refine .cut (fun σ η => ∃ s39, s39 = o40 ∧ σ = [(3, .str s39)] ∧ η = []) ?_ ?_
            · refine .direct ?_
              have hL66 := hI67 _ _ _ _ h
              refine LoopAt.enter [(1, .optr 0 0 0 0), (3, .str s37), (4, .int .i64 0)] [.row 0 5 1 26 (fun _ => [.int .i64 a0.fKind, .int .i64 a0.fNum, .str a0.fStr, .int .i64 a0.fNext, sl 8 TEntry.cells a0.fItems])] ⟨[0], by decide, (show 0 ≤ 1 by decide), ⟨.optr_eq rfl ⟨_, _, _, _, rfl⟩ ⟨_, _, _, _, rfl⟩ rfl rfl, .str_eq rfl, .int_eq rfl, trivial⟩, ⟨⟨fun h0 => absurd (show 0 < 0 from h0) (by decide), rfl, rfl, rfl, fun _ _ => ⟨.int_eq rfl, .int_eq rfl, .str_eq rfl, .int_eq rfl, .slc_eq rfl (fun _ _ => rfl), trivial⟩⟩, trivial⟩⟩ ?_
              refine m_s_l11Text_L2_ind (motive := fun p65 s43 y44 o63 => a0 = p65 → o40 = o63 → LoopAt _ _ [(1, .optr 0 0 0 0), (3, .str s43), (4, .int .i64 y44)] [.row 0 5 1 26 (fun _ => [.int .i64 a0.fKind, .int .i64 a0.fNum, .str a0.fStr, .int .i64 a0.fNext, sl 8 TEntry.cells a0.fItems])]) ?_ a0 s37 0 o40 hL66 rfl rfl
              intro _ hG47 _ _ p65 s43 y44 o63 h ih45  hp_p65 hr64
              subst hp_p65
              subst hr64
              refine LoopAt.round ?_
              refine .direct ?_
              refine .direct ?_
              refine ⟨rfl, ?_⟩
              refine ⟨rfl, _, rfl, ?_⟩
              refine splitB.mk (fun hb48 => ?_) (fun hb48 => ?_)
              · replace h := T_dec hb48 h
                refine .direct ?_
                refine .float [(0, true), (1, true), (2, true), (3, true), (4, true), (5, true), (6, true), (10, true), (11, true), (12, true), (13, true), (14, true), (15, true), (7, false), (8, false), (9, true), (16, false), (17, true), (18, true)] (by kernel_rfl) ?_
                refine ⟨rfl, ?_⟩
                refine ⟨rfl, _, rfl, ?_⟩
                obtain ⟨x49, hx50, h⟩ := bind_some h
                refine ⟨idx_bd hx50, _, (idx_row hx50).trans (TEntry.cells_eq x49), ?_⟩
                refine ⟨rfl, ?_⟩
                refine ⟨rfl, _, rfl, ?_⟩
                obtain ⟨x51, hx52, h⟩ := bind_some h
                refine ⟨idx_bd hx52, _, (idx_row hx52).trans (TEntry.cells_eq x51), ?_⟩
                obtain ⟨v53, hv54, h⟩ := bind_some h
                refine ⟨_, ACall.pure0 (ok_s_KeyValue hv54) _ rfl (fun _ => rfl), ?_⟩
                rintro _ _ ⟨rfl, rfl⟩
                refine ⟨rfl, ?_⟩
                refine ⟨rfl, ?_⟩
                obtain ⟨v55, hv56, h⟩ := bind_some h
                refine ⟨_, ACall.pure0 (hG47 _ _ hv56) _ rfl (fun _ => rfl), ?_⟩
                rintro _ _ ⟨rfl, rfl⟩
                refine ⟨rfl, ?_⟩
                refine ⟨rfl, ?_⟩
                obtain ⟨s57, hx58, h⟩ := bind_some h
                refine ⟨scat_bd hx58, s57, scat_at hx58, ?_⟩
                obtain ⟨v59, hv60, h⟩ := bind_some h
                refine ⟨_, ACall.pure0 (hG47 _ _ hv60) _ rfl (fun _ => rfl), ?_⟩
                rintro _ _ ⟨rfl, rfl⟩
                obtain ⟨s61, hx62, h⟩ := bind_some h
                refine ⟨scat_bd hx62, s61, scat_at hx62, ?_⟩
                exact ⟨[(1, .optr 0 0 0 0), (3, .str s61), (4, .int .i64 (W64 (y44 + 1)))], [.row 0 5 1 26 (fun _ => [.int .i64 a0.fKind, .int .i64 a0.fNum, .str a0.fStr, .int .i64 a0.fNext, sl 8 TEntry.cells a0.fItems])], ⟨[0], by decide, (show 0 ≤ 1 by decide), ⟨.optr_eq rfl ⟨_, _, _, _, rfl⟩ ⟨_, _, _, _, rfl⟩ rfl rfl, .str_eq rfl, .int_eq rfl, trivial⟩, ⟨⟨fun h0 => absurd (show 0 < 0 from h0) (by decide), rfl, rfl, rfl, fun _ _ => ⟨.int_eq rfl, .int_eq rfl, .str_eq rfl, .int_eq rfl, .slc_eq rfl (fun _ _ => rfl), trivial⟩⟩, trivial⟩⟩, ih45 _ _ _ _ h rfl rfl⟩
              · replace h := F_dec hb48 h
                exact ⟨[(3, .str s43)], [], ⟨[], by decide, (show 0 ≤ 0 by decide), ⟨.str_eq rfl, trivial⟩, trivial⟩, s43, Option.some.inj h, rfl, rfl⟩
            · rintro _ _ ⟨s39, rfl, rfl, rfl⟩
              replace h := hk42
              refine .direct ?_
              obtain ⟨s68, hx69, h⟩ := bind_some h
              refine ⟨scat_bd hx69, s68, scat_at hx69, ?_⟩
              obtain rfl := Option.some.inj h
              exact ⟨[], .str s68, [], by decide, (show 0 ≤ 0 by decide), .str_eq rfl, trivial, rfl, rfl⟩
  · intro F0 F1 hF0 hF1 a0 s43 y44 o h
    exact .mk F0 hF0 F1 hF1 a0 s43 y44 o h
theorem ok_s_l11Text {a0 : TValue} {r : Str} (h : m_s_l11Text a0 = some r) : ACall Tryd.prog 63 [.agg [.int .i64 a0.fKind, .int .i64 a0.fNum, .str a0.fStr, .int .i64 a0.fNext, sl 8 TEntry.cells a0.fItems]] [] (fun res h => res = .str r ∧ h = []) := grp__s_l11Text.1 a0 r h
def m_s_l1Bent (a0 : TL1Cur) (a1 : List UInt8) : Option ((List UInt8) × TL1Cur) :=
  lapp 1 ([] : List UInt8) a1 >>= fun l1 =>
  m40 a0 6 >>= fun (v3, v4) =>
  (if v3 = 0 then
    (if (l1.length : Int) > 0 then
      m40 v4 (l1.length : Int) >>= fun (v8, v9) =>
      m40 v9 256 >>= fun (v11, v12) =>
      idx l1 v8 >>= fun c14 =>
      some ((l1.set v8.toNat (UInt8.ofNat (IntKind.u8.wrap (v11)).toNat)), v12)
    else
      some (l1, v4))
  else
    (if v3 = 1 then
      m40 v4 (W64 ((l1.length : Int) + 1)) >>= fun (v17, v18) =>
      lto l1 v17 >>= fun l20 =>
      some (l20, v18)
    else
      (if v3 = 2 then
        m85 v4 ([0, 1, 128, 255] : List Int) >>= fun (v23, v24) =>
        lapp 1 l1 ([UInt8.ofNat (IntKind.u8.wrap (v23)).toNat] : List UInt8) >>= fun l26 =>
        some (l26, v24)
      else
        some (l1, v4))))
theorem ok_s_l1Bent {a0 : TL1Cur} {a1 : List UInt8} {r : (List UInt8) × TL1Cur} {g1000 : Nat} (h : m_s_l1Bent a0 a1 = some r) : ACall Tryd.prog 65 [.optr 0 g1000 0 0, sl 1 cB a1] [.row g1000 3 1 96 (fun _ => [sl 1 cB a0.fB, .int .i64 a0.fI, .int .i64 a0.fH])] (fun res h => res = sl 1 cB r.1 ∧ h = [.row g1000 3 1 96 (fun _ => [sl 1 cB r.2.fB, .int .i64 r.2.fI, .int .i64 r.2.fH])]) := by
  refine ACall.of_vc tabT_ok mixed Tryd.func65 rfl (by kernel_rfl) _ _ _ rfl (by kernel_rfl) ?_
  unfold m_s_l1Bent at h
  refine .direct ?_
  refine .direct ?_
  refine ⟨row cB ([] : List UInt8), row_lit cB ([] : List UInt8) rfl (cll_refl rfl), ?_⟩
  obtain ⟨l1, hx2, h⟩ := bind_some h
  refine ⟨rfl, lapp_bd hx2, l1.length, row cB l1, lapp_len hx2, lapp_row hx2 shows_all src_slc, ?_⟩
  refine .direct ?_
  refine .direct ?_
  obtain ⟨⟨v3, v4⟩, hv5, h⟩ := bind_some h
  refine ⟨fun res h' => res = .int .i64 v3 ∧ h' = [.row g1000 3 1 96 (fun _ => [sl 1 cB v4.fB, .int .i64 v4.fI, .int .i64 v4.fH]), .row (0 + 1) 1 l1.length 5 (row cB l1)], (ACall.over (ok40 (g1000 := g1000) hv5) [0] [.row g1000 3 1 96 (fun _ => [sl 1 cB a0.fB, .int .i64 a0.fI, .int .i64 a0.fH]), .row (0 + 1) 1 l1.length 5 (row cB l1)] rfl (by decide) (by simp) (by intro j o hj; exact match j, hj with | 0, hj => by cases hj; rfl | j + 1, hj => by cases hj) rfl).mono (by rintro _ _ ⟨_, _, ⟨rfl, rfl⟩, rfl, rfl⟩; exact ⟨rfl, rfl⟩), ?_⟩
  rintro _ _ ⟨rfl, rfl⟩
  refine .direct ?_
  refine splitB.mk (fun hb6 => ?_) (fun hb6 => ?_)
  · replace h := T_beq hb6 h
    refine .direct ?_
    refine ⟨rfl, ?_⟩
    refine splitB.mk (fun hb7 => ?_) (fun hb7 => ?_)
    · replace h := T_dec hb7 h
      refine ⟨rfl, ?_⟩
      obtain ⟨⟨v8, v9⟩, hv10, h⟩ := bind_some h
      refine ⟨fun res h' => res = .int .i64 v8 ∧ h' = [.row g1000 3 1 96 (fun _ => [sl 1 cB v9.fB, .int .i64 v9.fI, .int .i64 v9.fH]), .row (0 + 1) 1 l1.length 5 (row cB l1)], (ACall.over (ok40 (g1000 := g1000) hv10) [0] [.row g1000 3 1 96 (fun _ => [sl 1 cB v4.fB, .int .i64 v4.fI, .int .i64 v4.fH]), .row (0 + 1) 1 l1.length 5 (row cB l1)] rfl (by decide) (by simp) (by intro j o hj; exact match j, hj with | 0, hj => by cases hj; rfl | j + 1, hj => by cases hj) rfl).mono (by rintro _ _ ⟨_, _, ⟨rfl, rfl⟩, rfl, rfl⟩; exact ⟨rfl, rfl⟩), ?_⟩
      rintro _ _ ⟨rfl, rfl⟩
      obtain ⟨⟨v11, v12⟩, hv13, h⟩ := bind_some h
      refine ⟨fun res h' => res = .int .i64 v11 ∧ h' = [.row g1000 3 1 96 (fun _ => [sl 1 cB v12.fB, .int .i64 v12.fI, .int .i64 v12.fH]), .row (0 + 1) 1 l1.length 5 (row cB l1)], (ACall.over (ok40 (g1000 := g1000) hv13) [0] [.row g1000 3 1 96 (fun _ => [sl 1 cB v9.fB, .int .i64 v9.fI, .int .i64 v9.fH]), .row (0 + 1) 1 l1.length 5 (row cB l1)] rfl (by decide) (by simp) (by intro j o hj; exact match j, hj with | 0, hj => by cases hj; rfl | j + 1, hj => by cases hj) rfl).mono (by rintro _ _ ⟨_, _, ⟨rfl, rfl⟩, rfl, rfl⟩; exact ⟨rfl, rfl⟩), ?_⟩
      rintro _ _ ⟨rfl, rfl⟩
      obtain ⟨c14, hx15, h⟩ := bind_some h
      refine ⟨rfl, idx_bd hx15, _, Nat.zero_add _, ?_⟩
      refine ⟨rfl, _, row cB (l1.set v8.toNat (UInt8.ofNat (IntKind.u8.wrap (v11)).toNat)), ((idx_row hx15).trans rfl), row_set (idx_lt hx15) (cB_wrap _) ⟨.same _, trivial⟩, ?_⟩
      refine .direct ?_
      obtain rfl := Option.some.inj h
      exact ⟨[0], sl 1 cB (l1.set v8.toNat (UInt8.ofNat (IntKind.u8.wrap (v11)).toNat)), [.row g1000 3 1 96 (fun _ => [sl 1 cB v12.fB, .int .i64 v12.fI, .int .i64 v12.fH])], by decide, (show 1 ≤ 1 by decide), (fz_frz2 cB_pure (by first | decide | simp) rfl shows_all (by simp)), ⟨⟨fun _ => ⟨rfl, rfl⟩, rfl, rfl, rfl, fun _ _ => ⟨.slc_eq rfl (fun _ _ => rfl), .int_eq rfl, .int_eq rfl, trivial⟩⟩, trivial⟩, rfl, rfl⟩
    · replace h := F_dec hb7 h
      refine .direct ?_
      obtain rfl := Option.some.inj h
      exact ⟨[0], sl 1 cB l1, [.row g1000 3 1 96 (fun _ => [sl 1 cB v4.fB, .int .i64 v4.fI, .int .i64 v4.fH])], by decide, (show 1 ≤ 1 by decide), (fz_frz cB_pure (by first | decide | simp) rfl shows_all), ⟨⟨fun _ => ⟨rfl, rfl⟩, rfl, rfl, rfl, fun _ _ => ⟨.slc_eq rfl (fun _ _ => rfl), .int_eq rfl, .int_eq rfl, trivial⟩⟩, trivial⟩, rfl, rfl⟩
  · replace h := F_beq hb6 h
    refine .direct ?_
    refine splitB.mk (fun hb16 => ?_) (fun hb16 => ?_)
    · replace h := T_beq hb16 h
      refine ⟨rfl, ?_⟩
      obtain ⟨⟨v17, v18⟩, hv19, h⟩ := bind_some h
      refine ⟨fun res h' => res = .int .i64 v17 ∧ h' = [.row g1000 3 1 96 (fun _ => [sl 1 cB v18.fB, .int .i64 v18.fI, .int .i64 v18.fH]), .row (0 + 1) 1 l1.length 5 (row cB l1)], (ACall.over (ok40 (g1000 := g1000) hv19) [0] [.row g1000 3 1 96 (fun _ => [sl 1 cB v4.fB, .int .i64 v4.fI, .int .i64 v4.fH]), .row (0 + 1) 1 l1.length 5 (row cB l1)] rfl (by decide) (by simp) (by intro j o hj; exact match j, hj with | 0, hj => by cases hj; rfl | j + 1, hj => by cases hj) rfl).mono (by rintro _ _ ⟨_, _, ⟨rfl, rfl⟩, rfl, rfl⟩; exact ⟨rfl, rfl⟩), ?_⟩
      rintro _ _ ⟨rfl, rfl⟩
      obtain ⟨l20, hx21, h⟩ := bind_some h
      refine ⟨rfl, trivial, lto_bd hx21, _, l20.length, rfl, lto_len hx21, ?_⟩
      refine .direct ?_
      obtain rfl := Option.some.inj h
      exact ⟨[0], sl 1 cB l20, [.row g1000 3 1 96 (fun _ => [sl 1 cB v18.fB, .int .i64 v18.fI, .int .i64 v18.fH])], by decide, (show 1 ≤ 1 by decide), (fz_frz cB_pure (by first | decide | simp) rfl (shows_lto shows_all hx21)), ⟨⟨fun _ => ⟨rfl, rfl⟩, rfl, rfl, rfl, fun _ _ => ⟨.slc_eq rfl (fun _ _ => rfl), .int_eq rfl, .int_eq rfl, trivial⟩⟩, trivial⟩, rfl, rfl⟩
    · replace h := F_beq hb16 h
      refine .direct ?_
      refine splitB.mk (fun hb22 => ?_) (fun hb22 => ?_)
      · replace h := T_beq hb22 h
        refine ⟨row cI ([0, 1, 128, 255] : List Int), row_lit cI ([0, 1, 128, 255] : List Int) rfl (cll_refl rfl), ?_⟩
        obtain ⟨⟨v23, v24⟩, hv25, h⟩ := bind_some h
        refine ⟨fun res h' => res = .int .i64 v23 ∧ h' = [.row g1000 3 1 96 (fun _ => [sl 1 cB v24.fB, .int .i64 v24.fI, .int .i64 v24.fH]), .row (0 + 1) 1 l1.length 5 (row cB l1), .row 0 1 ([0, 1, 128, 255] : List Int).length 3 (row cI ([0, 1, 128, 255] : List Int))], (ACall.over (ok85 (g1000 := g1000) (g1001 := 0) hv25) [0, 2] [.row g1000 3 1 96 (fun _ => [sl 1 cB v4.fB, .int .i64 v4.fI, .int .i64 v4.fH]), .row (0 + 1) 1 l1.length 5 (row cB l1), .row 0 1 ([0, 1, 128, 255] : List Int).length 3 (row cI ([0, 1, 128, 255] : List Int))] rfl (by decide) (by simp) (by intro j o hj; exact match j, hj with | 0, hj => by cases hj; rfl | 1, hj => by cases hj; exact (congrArg some (renO_row cI_pure _ _ _ _ _ _)).symm | j + 2, hj => by cases hj) rfl).mono (by rintro _ _ ⟨_, _, ⟨rfl, rfl⟩, rfl, rfl⟩; exact ⟨rfl, (by simp only [nxtL, putSel, List.map_cons, List.map_nil, List.drop, List.length_cons, List.length_nil, renO_row cI_pure]; rfl)⟩), ?_⟩
        rintro _ _ ⟨rfl, rfl⟩
        refine ⟨row cB ([UInt8.ofNat (IntKind.u8.wrap (v23)).toNat] : List UInt8), row_lit cB ([UInt8.ofNat (IntKind.u8.wrap (v23)).toNat] : List UInt8) rfl (cll_cons (cB_wrap _) ⟨.same _, trivial⟩ trivial), ?_⟩
        obtain ⟨l26, hx27, h⟩ := bind_some h
        refine ⟨rfl, rfl, lapp_bd hx27, l26.length, row cB l26, lapp_len hx27, lapp_row hx27 shows_all (src_own shows_all), ?_⟩
        refine .direct ?_
        obtain rfl := Option.some.inj h
        exact ⟨[0], sl 1 cB l26, [.row g1000 3 1 96 (fun _ => [sl 1 cB v24.fB, .int .i64 v24.fI, .int .i64 v24.fH])], by decide, (show 1 ≤ 1 by decide), (fz_frz cB_pure (by first | decide | simp) rfl shows_all), ⟨⟨fun _ => ⟨rfl, rfl⟩, rfl, rfl, rfl, fun _ _ => ⟨.slc_eq rfl (fun _ _ => rfl), .int_eq rfl, .int_eq rfl, trivial⟩⟩, trivial⟩, rfl, rfl⟩
      · replace h := F_beq hb22 h
        refine .direct ?_
        obtain rfl := Option.some.inj h
        exact ⟨[0], sl 1 cB l1, [.row g1000 3 1 96 (fun _ => [sl 1 cB v4.fB, .int .i64 v4.fI, .int .i64 v4.fH])], by decide, (show 1 ≤ 1 by decide), (fz_frz cB_pure (by first | decide | simp) rfl shows_all), ⟨⟨fun _ => ⟨rfl, rfl⟩, rfl, rfl, rfl, fun _ _ => ⟨.slc_eq rfl (fun _ _ => rfl), .int_eq rfl, .int_eq rfl, trivial⟩⟩, trivial⟩, rfl, rfl⟩
def m_s_DrawSerialize (a0 : List UInt8) : Option (TValue) :=
  m36 a0 >>= fun v1 =>
  m88 v1 >>= fun (v3, v4) =>
  some v3
theorem ok_s_DrawSerialize {a0 : List UInt8} {r : TValue} (h : m_s_DrawSerialize a0 = some r) : ACall Tryd.prog 23 [sl 1 cB a0] [] (fun res h => res = .agg [.int .i64 r.fKind, .int .i64 r.fNum, .str r.fStr, .int .i64 r.fNext, sl 8 TEntry.cells r.fItems] ∧ h = []) := by
  refine ACall.of_vc tabT_ok mixed Tryd.func23 rfl (by kernel_rfl) _ _ _ rfl (by kernel_rfl) ?_
  unfold m_s_DrawSerialize at h
  refine .direct ?_
  refine .direct ?_
  obtain ⟨v1, hv2, h⟩ := bind_some h
  refine ⟨fun res h' => res = .optr 1 0 0 0 ∧ h' = [.row 0 5 1 26 (fun _ => [.int .i64 0, .int .i64 0, .str [], .int .i64 0, .nils]), .row 0 3 1 96 (fun _ => [sl 1 cB v1.fB, .int .i64 v1.fI, .int .i64 v1.fH])], (ACall.frame (ok36 hv2) [.row 0 5 1 26 (fun _ => [.int .i64 0, .int .i64 0, .str [], .int .i64 0, .nils])] rfl).mono (by rintro _ _ ⟨_, _, ⟨rfl, rfl⟩, rfl, rfl⟩; exact ⟨rfl, rfl⟩), ?_⟩
  rintro _ _ ⟨rfl, rfl⟩
  refine .direct ?_
  obtain ⟨⟨v3, v4⟩, hv5, h⟩ := bind_some h
  refine ⟨fun res h' => res = .agg [.int .i64 v3.fKind, .int .i64 v3.fNum, .str v3.fStr, .int .i64 v3.fNext, sl 8 TEntry.cells v3.fItems] ∧ h' = [.row 0 5 1 26 (fun _ => [.int .i64 0, .int .i64 0, .str [], .int .i64 0, .nils]), .row 0 3 1 96 (fun _ => [sl 1 cB v4.fB, .int .i64 v4.fI, .int .i64 v4.fH])], (ACall.over (ok88 (g1000 := 0) hv5) [1] [.row 0 5 1 26 (fun _ => [.int .i64 0, .int .i64 0, .str [], .int .i64 0, .nils]), .row 0 3 1 96 (fun _ => [sl 1 cB v1.fB, .int .i64 v1.fI, .int .i64 v1.fH])] rfl (by decide) (by simp) (by intro j o hj; exact match j, hj with | 0, hj => by cases hj; rfl | j + 1, hj => by cases hj) rfl).mono (by rintro _ _ ⟨_, _, ⟨rfl, rfl⟩, rfl, rfl⟩; exact ⟨rfl, rfl⟩), ?_⟩
  rintro _ _ ⟨rfl, rfl⟩
  refine ⟨rfl, _, fun _ => [.int .i64 v3.fKind, .int .i64 v3.fNum, .str v3.fStr, .int .i64 v3.fNext, sl 8 TEntry.cells v3.fItems], rfl, one_set rfl, ?_⟩
  obtain rfl := Option.some.inj h
  refine ⟨rfl, _, rfl, ?_⟩
  exact ⟨[], .agg [.int .i64 v3.fKind, .int .i64 v3.fNum, .str v3.fStr, .int .i64 v3.fNext, sl 8 TEntry.cells v3.fItems], [], by decide, (show 0 ≤ 0 by decide), .agg_l ⟨.int_eq rfl, .int_eq rfl, .str_eq rfl, .int_eq rfl, .slc_eq rfl (fun _ _ => rfl), trivial⟩, trivial, rfl, rfl⟩
def m_s_DrawUnserialize (a0 : List UInt8) : Option (Str) :=
  m36 a0 >>= fun v1 =>
  m37 v1 4 >>= fun (v3, v4) =>
  (if v3 = true then
    m39 v4 ([[], [78], [78, 59], [78, 59, 78, 59], [98, 58, 50, 59], [105, 58, 48, 53, 59], [115, 58, 51, 58, 97, 98, 59], [115, 58, 50, 58, 97, 98, 59], [97, 58, 48, 58, 48, 123, 125], [97, 58, 49, 58, 48, 123, 105, 58, 48, 59, 78, 59, 125], [97, 58, 49, 58, 49, 123, 115, 58, 49, 58, 48, 59, 78, 59, 125], [97, 58, 50, 58, 50, 123, 105, 58, 49, 59, 78, 59, 105, 58, 49, 59, 78, 59, 125], [105, 58, 49, 48, 48, 48, 48, 48, 48, 48, 48, 49, 59], [97, 58, 48, 58, 49, 48, 48, 48, 48, 48, 48, 48, 48, 49, 123, 125], [115, 58, 45, 49, 58, 59]] : List Str) >>= fun (v7, v8) =>
    some v7
  else
    m50 v4 3 >>= fun (v10, v11) =>
    m_s_l11Text v10 >>= fun v13 =>
    m_s_l1Bent v11 v13 >>= fun (v15, v16) =>
    some v15)
theorem ok_s_DrawUnserialize {a0 : List UInt8} {r : Str} (h : m_s_DrawUnserialize a0 = some r) : ACall Tryd.prog 27 [sl 1 cB a0] [] (fun res h => res = .str r ∧ h = []) := by
  refine ACall.of_vc tabT_ok mixed Tryd.func27 rfl (by kernel_rfl) _ _ _ rfl (by kernel_rfl) ?_
  unfold m_s_DrawUnserialize at h
  refine .direct ?_
  refine .direct ?_
  obtain ⟨v1, hv2, h⟩ := bind_some h
  refine ⟨fun res h' => res = .optr 0 0 0 0 ∧ h' = [.row 0 3 1 96 (fun _ => [sl 1 cB v1.fB, .int .i64 v1.fI, .int .i64 v1.fH])], (ACall.frame (ok36 hv2) [] rfl).mono (by rintro _ _ ⟨_, _, ⟨rfl, rfl⟩, rfl, rfl⟩; exact ⟨rfl, rfl⟩), ?_⟩
  rintro _ _ ⟨rfl, rfl⟩
  refine .direct ?_
  refine .direct ?_
  obtain ⟨⟨v3, v4⟩, hv5, h⟩ := bind_some h
  refine ⟨fun res h' => res = .bool v3 ∧ h' = [.row 0 3 1 96 (fun _ => [sl 1 cB v4.fB, .int .i64 v4.fI, .int .i64 v4.fH])], (ACall.over (ok37 (g1000 := 0) hv5) [0] [.row 0 3 1 96 (fun _ => [sl 1 cB v1.fB, .int .i64 v1.fI, .int .i64 v1.fH])] rfl (by decide) (by simp) (by intro j o hj; exact match j, hj with | 0, hj => by cases hj; rfl | j + 1, hj => by cases hj) rfl).mono (by rintro _ _ ⟨_, _, ⟨rfl, rfl⟩, rfl, rfl⟩; exact ⟨rfl, rfl⟩), ?_⟩
  rintro _ _ ⟨rfl, rfl⟩
  refine splitB.mk (fun hb6 => ?_) (fun hb6 => ?_)
  · replace h := T_var hb6 h
    refine .direct ?_
    refine ⟨row cS ([[], [78], [78, 59], [78, 59, 78, 59], [98, 58, 50, 59], [105, 58, 48, 53, 59], [115, 58, 51, 58, 97, 98, 59], [115, 58, 50, 58, 97, 98, 59], [97, 58, 48, 58, 48, 123, 125], [97, 58, 49, 58, 48, 123, 105, 58, 48, 59, 78, 59, 125], [97, 58, 49, 58, 49, 123, 115, 58, 49, 58, 48, 59, 78, 59, 125], [97, 58, 50, 58, 50, 123, 105, 58, 49, 59, 78, 59, 105, 58, 49, 59, 78, 59, 125], [105, 58, 49, 48, 48, 48, 48, 48, 48, 48, 48, 49, 59], [97, 58, 48, 58, 49, 48, 48, 48, 48, 48, 48, 48, 48, 49, 123, 125], [115, 58, 45, 49, 58, 59]] : List Str), row_lit cS ([[], [78], [78, 59], [78, 59, 78, 59], [98, 58, 50, 59], [105, 58, 48, 53, 59], [115, 58, 51, 58, 97, 98, 59], [115, 58, 50, 58, 97, 98, 59], [97, 58, 48, 58, 48, 123, 125], [97, 58, 49, 58, 48, 123, 105, 58, 48, 59, 78, 59, 125], [97, 58, 49, 58, 49, 123, 115, 58, 49, 58, 48, 59, 78, 59, 125], [97, 58, 50, 58, 50, 123, 105, 58, 49, 59, 78, 59, 105, 58, 49, 59, 78, 59, 125], [105, 58, 49, 48, 48, 48, 48, 48, 48, 48, 48, 49, 59], [97, 58, 48, 58, 49, 48, 48, 48, 48, 48, 48, 48, 48, 49, 123, 125], [115, 58, 45, 49, 58, 59]] : List Str) rfl (cll_refl rfl), ?_⟩
    obtain ⟨⟨v7, v8⟩, hv9, h⟩ := bind_some h
    refine ⟨fun res h' => res = .str v7 ∧ h' = [.row 0 3 1 96 (fun _ => [sl 1 cB v8.fB, .int .i64 v8.fI, .int .i64 v8.fH]), .row 0 1 ([[], [78], [78, 59], [78, 59, 78, 59], [98, 58, 50, 59], [105, 58, 48, 53, 59], [115, 58, 51, 58, 97, 98, 59], [115, 58, 50, 58, 97, 98, 59], [97, 58, 48, 58, 48, 123, 125], [97, 58, 49, 58, 48, 123, 105, 58, 48, 59, 78, 59, 125], [97, 58, 49, 58, 49, 123, 115, 58, 49, 58, 48, 59, 78, 59, 125], [97, 58, 50, 58, 50, 123, 105, 58, 49, 59, 78, 59, 105, 58, 49, 59, 78, 59, 125], [105, 58, 49, 48, 48, 48, 48, 48, 48, 48, 48, 49, 59], [97, 58, 48, 58, 49, 48, 48, 48, 48, 48, 48, 48, 48, 49, 123, 125], [115, 58, 45, 49, 58, 59]] : List Str).length 9 (row cS ([[], [78], [78, 59], [78, 59, 78, 59], [98, 58, 50, 59], [105, 58, 48, 53, 59], [115, 58, 51, 58, 97, 98, 59], [115, 58, 50, 58, 97, 98, 59], [97, 58, 48, 58, 48, 123, 125], [97, 58, 49, 58, 48, 123, 105, 58, 48, 59, 78, 59, 125], [97, 58, 49, 58, 49, 123, 115, 58, 49, 58, 48, 59, 78, 59, 125], [97, 58, 50, 58, 50, 123, 105, 58, 49, 59, 78, 59, 105, 58, 49, 59, 78, 59, 125], [105, 58, 49, 48, 48, 48, 48, 48, 48, 48, 48, 49, 59], [97, 58, 48, 58, 49, 48, 48, 48, 48, 48, 48, 48, 48, 49, 123, 125], [115, 58, 45, 49, 58, 59]] : List Str))], (ACall.over (ok39 (g1000 := 0) (g1001 := 0) hv9) [0, 1] [.row 0 3 1 96 (fun _ => [sl 1 cB v4.fB, .int .i64 v4.fI, .int .i64 v4.fH]), .row 0 1 ([[], [78], [78, 59], [78, 59, 78, 59], [98, 58, 50, 59], [105, 58, 48, 53, 59], [115, 58, 51, 58, 97, 98, 59], [115, 58, 50, 58, 97, 98, 59], [97, 58, 48, 58, 48, 123, 125], [97, 58, 49, 58, 48, 123, 105, 58, 48, 59, 78, 59, 125], [97, 58, 49, 58, 49, 123, 115, 58, 49, 58, 48, 59, 78, 59, 125], [97, 58, 50, 58, 50, 123, 105, 58, 49, 59, 78, 59, 105, 58, 49, 59, 78, 59, 125], [105, 58, 49, 48, 48, 48, 48, 48, 48, 48, 48, 49, 59], [97, 58, 48, 58, 49, 48, 48, 48, 48, 48, 48, 48, 48, 49, 123, 125], [115, 58, 45, 49, 58, 59]] : List Str).length 9 (row cS ([[], [78], [78, 59], [78, 59, 78, 59], [98, 58, 50, 59], [105, 58, 48, 53, 59], [115, 58, 51, 58, 97, 98, 59], [115, 58, 50, 58, 97, 98, 59], [97, 58, 48, 58, 48, 123, 125], [97, 58, 49, 58, 48, 123, 105, 58, 48, 59, 78, 59, 125], [97, 58, 49, 58, 49, 123, 115, 58, 49, 58, 48, 59, 78, 59, 125], [97, 58, 50, 58, 50, 123, 105, 58, 49, 59, 78, 59, 105, 58, 49, 59, 78, 59, 125], [105, 58, 49, 48, 48, 48, 48, 48, 48, 48, 48, 49, 59], [97, 58, 48, 58, 49, 48, 48, 48, 48, 48, 48, 48, 48, 49, 123, 125], [115, 58, 45, 49, 58, 59]] : List Str))] rfl (by decide) (by simp) (by intro j o hj; exact match j, hj with | 0, hj => by cases hj; rfl | 1, hj => by cases hj; exact (congrArg some (renO_row cS_pure _ _ _ _ _ _)).symm | j + 2, hj => by cases hj) rfl).mono (by rintro _ _ ⟨_, _, ⟨rfl, rfl⟩, rfl, rfl⟩; exact ⟨rfl, (by simp only [nxtL, putSel, List.map_cons, List.map_nil, List.drop, List.length_cons, List.length_nil, renO_row cS_pure]; rfl)⟩), ?_⟩
    rintro _ _ ⟨rfl, rfl⟩
    obtain rfl := Option.some.inj h
    exact ⟨[], .str v7, [], by decide, (show 0 ≤ 0 by decide), .str_eq rfl, trivial, rfl, rfl⟩
  · replace h := F_var hb6 h
    refine .direct ?_
    obtain ⟨⟨v10, v11⟩, hv12, h⟩ := bind_some h
    refine ⟨fun res h' => res = .agg [.int .i64 v10.fKind, .int .i64 v10.fNum, .str v10.fStr, .int .i64 v10.fNext, sl 8 TEntry.cells v10.fItems] ∧ h' = [.row 0 3 1 96 (fun _ => [sl 1 cB v11.fB, .int .i64 v11.fI, .int .i64 v11.fH])], (ACall.over (ok50 (g1000 := 0) hv12) [0] [.row 0 3 1 96 (fun _ => [sl 1 cB v4.fB, .int .i64 v4.fI, .int .i64 v4.fH])] rfl (by decide) (by simp) (by intro j o hj; exact match j, hj with | 0, hj => by cases hj; rfl | j + 1, hj => by cases hj) rfl).mono (by rintro _ _ ⟨_, _, ⟨rfl, rfl⟩, rfl, rfl⟩; exact ⟨rfl, rfl⟩), ?_⟩
    rintro _ _ ⟨rfl, rfl⟩
    obtain ⟨v13, hv14, h⟩ := bind_some h
    refine ⟨_, ACall.pure0 (ok_s_l11Text hv14) _ rfl (fun _ => rfl), ?_⟩
    rintro _ _ ⟨rfl, rfl⟩
    refine .direct ?_
    refine ⟨row cB v13, fun _ hi => row_bytes hi, ?_⟩
    obtain ⟨⟨v15, v16⟩, hv17, h⟩ := bind_some h
    refine ⟨fun res h' => res = sl 1 cB v15 ∧ h' = [.row 0 3 1 96 (fun _ => [sl 1 cB v16.fB, .int .i64 v16.fI, .int .i64 v16.fH])], (ACall.over (ok_s_l1Bent (g1000 := 0) hv17) [0] [.row 0 3 1 96 (fun _ => [sl 1 cB v11.fB, .int .i64 v11.fI, .int .i64 v11.fH])] rfl (by decide) (by simp) (by intro j o hj; exact match j, hj with | 0, hj => by cases hj; rfl | j + 1, hj => by cases hj) rfl).mono (by rintro _ _ ⟨_, _, ⟨rfl, rfl⟩, rfl, rfl⟩; exact ⟨rfl, rfl⟩), ?_⟩
    rintro _ _ ⟨rfl, rfl⟩
    refine ⟨v15, rfl, fun _ hi => row_bytes hi, ?_⟩
    obtain rfl := Option.some.inj h
    exact ⟨[], .str v15, [], by decide, (show 0 ≤ 0 by decide), .str_eq rfl, trivial, rfl, rfl⟩
end Go.Am
