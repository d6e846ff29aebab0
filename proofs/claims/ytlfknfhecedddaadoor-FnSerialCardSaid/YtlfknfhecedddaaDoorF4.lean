/- Models of Go functions, and their walks. (Printed by tools/mg.py.) -/
import Derived.Test.YtlfknfhecedddaaDoorF3
set_option linter.unusedVariables false
set_option linter.unusedSimpArgs false
set_option synthInstance.maxHeartbeats 400000
set_option synthInstance.maxSize 4000
namespace Go.Am
open Go Go.RowKit Go.Proofs

mutual
def m50 (a0 : TL1Cur) (a1 : Int) : Option (TValue × TL1Cur) :=
  (if a1 ≤ 0 then
    m89 a0 >>= fun (v2, v3) =>
    some (v2, v3)
  else
    m37 a0 3 >>= fun (v5, v6) =>
    (if v5 = true then
      (
        m40 v6 5 >>= fun (v20, v21) =>
        m50_L2 a1 v21.fB v21.fI v21.fH 0 ([] : List TEntry) v20
       : Option ((List UInt8) × Int × Int × Int × (List TEntry))) >>= fun (l12, y13, y14, y15, l16) =>
      some ((TValue.mk 4 0 [] y15 l16), (TL1Cur.mk l12 y13 y14))
    else
      m89 v6 >>= fun (v9, v10) =>
      some (v9, v10)))
partial_fixpoint
def m50_L2 (a1 : Int) (l23 : List UInt8) (y24 : Int) (y25 : Int) (y26 : Int) (l27 : List TEntry) (y28 : Int) : Option ((List UInt8) × Int × Int × Int × (List TEntry)) :=
  (if y28 > 0 then
    m47 (TL1Cur.mk l23 y24 y25) >>= fun (v33, v34) =>
    (
      m37 v34 2 >>= fun (v45, v46) =>
      (if v45 = true then
        (if y26 ≤ 1000000000 then
          some (v46.fB, v46.fI, v46.fH, false, y26, [])
        else
          some (v46.fB, v46.fI, v46.fH, v33.fText, v33.fNum, v33.fStr))
      else
        some (v46.fB, v46.fI, v46.fH, v33.fText, v33.fNum, v33.fStr))
     : Option ((List UInt8) × Int × Int × Bool × Int × Str)) >>= fun (l36, y37, y38, b39, y40, s41) =>
    m90 (TValue.mk 4 0 [] y26 l27) (TKey.mk b39 y40 s41) >>= fun v50 =>
    (if v50 < 0 then
      m50 (TL1Cur.mk l36 y37 y38) (W64 (a1 - 1)) >>= fun (v53, v54) =>
      lapp 96 l27 ([(TEntry.mk (TKey.mk b39 y40 s41) v53)] : List TEntry) >>= fun l56 =>
      (if b39 = true then
        m50_L2 a1 v54.fB v54.fI v54.fH y26 l56 (W64 (y28 - 1))
      else
        m91 y26 (W64 (y40 + 1)) >>= fun v59 =>
        m50_L2 a1 v54.fB v54.fI v54.fH v59 l56 (W64 (y28 - 1)))
    else
      m50_L2 a1 l36 y37 y38 y26 l27 (W64 (y28 - 1)))
  else
    some (l23, y24, y25, y26, l27))
partial_fixpoint
end
def okS64 (a0 : TL1Cur) (a1 : Int) (r : TValue × TL1Cur) : Prop := ∀ g1000 : Nat, ACall Tryd.prog 64 [.optr 0 g1000 0 0, .int .i64 a1] [.row g1000 3 1 96 (fun _ => [sl 1 cB a0.fB, .int .i64 a0.fI, .int .i64 a0.fH])] (fun res h => res = .agg [.int .i64 r.1.fKind, .int .i64 r.1.fNum, .str r.1.fStr, .int .i64 r.1.fNext, sl 8 TEntry.cells r.1.fItems] ∧ h = [.row g1000 3 1 96 (fun _ => [sl 1 cB r.2.fB, .int .i64 r.2.fI, .int .i64 r.2.fH])])
inductive m50_L2_I : Int → (List UInt8) → Int → Int → Int → (List TEntry) → Int → ((List UInt8) × Int × Int × Int × (List TEntry)) → Prop
  | mk (G64 : TL1Cur → Int → Option (TValue × TL1Cur)) (hG64 : ∀ a0 a1 r, G64 a0 a1 = some r → okS64 a0 a1 r) (F_m50_L2 : Int → (List UInt8) → Int → Int → Int → (List TEntry) → Int → Option ((List UInt8) × Int × Int × Int × (List TEntry))) (hF_m50_L2 : ∀ a1 l23 y24 y25 y26 l27 y28 o, F_m50_L2 a1 l23 y24 y25 y26 l27 y28 = some o → m50_L2_I a1 l23 y24 y25 y26 l27 y28 o) (a1 : Int) (l23 : List UInt8) (y24 : Int) (y25 : Int) (y26 : Int) (l27 : List TEntry) (y28 : Int) (o : (List UInt8) × Int × Int × Int × (List TEntry)) (h : (
      (if y28 > 0 then
        m47 (TL1Cur.mk l23 y24 y25) >>= fun (v33, v34) =>
        (
          m37 v34 2 >>= fun (v45, v46) =>
          (if v45 = true then
            (if y26 ≤ 1000000000 then
              some (v46.fB, v46.fI, v46.fH, false, y26, [])
            else
              some (v46.fB, v46.fI, v46.fH, v33.fText, v33.fNum, v33.fStr))
          else
            some (v46.fB, v46.fI, v46.fH, v33.fText, v33.fNum, v33.fStr))
         : Option ((List UInt8) × Int × Int × Bool × Int × Str)) >>= fun (l36, y37, y38, b39, y40, s41) =>
        m90 (TValue.mk 4 0 [] y26 l27) (TKey.mk b39 y40 s41) >>= fun v50 =>
        (if v50 < 0 then
          G64 (TL1Cur.mk l36 y37 y38) (W64 (a1 - 1)) >>= fun (v53, v54) =>
          lapp 96 l27 ([(TEntry.mk (TKey.mk b39 y40 s41) v53)] : List TEntry) >>= fun l56 =>
          (if b39 = true then
            F_m50_L2 a1 v54.fB v54.fI v54.fH y26 l56 (W64 (y28 - 1))
          else
            m91 y26 (W64 (y40 + 1)) >>= fun v59 =>
            F_m50_L2 a1 v54.fB v54.fI v54.fH v59 l56 (W64 (y28 - 1)))
        else
          F_m50_L2 a1 l36 y37 y38 y26 l27 (W64 (y28 - 1)))
      else
        some (l23, y24, y25, y26, l27))
    ) = some o) : m50_L2_I a1 l23 y24 y25 y26 l27 y28 o
theorem m50_L2_ind {motive : Int → (List UInt8) → Int → Int → Int → (List TEntry) → Int → ((List UInt8) × Int × Int × Int × (List TEntry)) → Prop} (step : ∀ (G64 : TL1Cur → Int → Option (TValue × TL1Cur)) (hG64 : ∀ a0 a1 r, G64 a0 a1 = some r → okS64 a0 a1 r) (F_m50_L2 : Int → (List UInt8) → Int → Int → Int → (List TEntry) → Int → Option ((List UInt8) × Int × Int × Int × (List TEntry))) (hF_m50_L2 : ∀ a1 l23 y24 y25 y26 l27 y28 o, F_m50_L2 a1 l23 y24 y25 y26 l27 y28 = some o → m50_L2_I a1 l23 y24 y25 y26 l27 y28 o) (a1 : Int) (l23 : List UInt8) (y24 : Int) (y25 : Int) (y26 : Int) (l27 : List TEntry) (y28 : Int) (o : (List UInt8) × Int × Int × Int × (List TEntry)) (h : (
      (if y28 > 0 then
        m47 (TL1Cur.mk l23 y24 y25) >>= fun (v33, v34) =>
        (
          m37 v34 2 >>= fun (v45, v46) =>
          (if v45 = true then
            (if y26 ≤ 1000000000 then
              some (v46.fB, v46.fI, v46.fH, false, y26, [])
            else
              some (v46.fB, v46.fI, v46.fH, v33.fText, v33.fNum, v33.fStr))
          else
            some (v46.fB, v46.fI, v46.fH, v33.fText, v33.fNum, v33.fStr))
         : Option ((List UInt8) × Int × Int × Bool × Int × Str)) >>= fun (l36, y37, y38, b39, y40, s41) =>
        m90 (TValue.mk 4 0 [] y26 l27) (TKey.mk b39 y40 s41) >>= fun v50 =>
        (if v50 < 0 then
          G64 (TL1Cur.mk l36 y37 y38) (W64 (a1 - 1)) >>= fun (v53, v54) =>
          lapp 96 l27 ([(TEntry.mk (TKey.mk b39 y40 s41) v53)] : List TEntry) >>= fun l56 =>
          (if b39 = true then
            F_m50_L2 a1 v54.fB v54.fI v54.fH y26 l56 (W64 (y28 - 1))
          else
            m91 y26 (W64 (y40 + 1)) >>= fun v59 =>
            F_m50_L2 a1 v54.fB v54.fI v54.fH v59 l56 (W64 (y28 - 1)))
        else
          F_m50_L2 a1 l36 y37 y38 y26 l27 (W64 (y28 - 1)))
      else
        some (l23, y24, y25, y26, l27))
    ) = some o) (ih : ∀ a1 l23 y24 y25 y26 l27 y28 o, F_m50_L2 a1 l23 y24 y25 y26 l27 y28 = some o → motive a1 l23 y24 y25 y26 l27 y28 o), motive a1 l23 y24 y25 y26 l27 y28 o) : ∀ a1 l23 y24 y25 y26 l27 y28 o, m50_L2_I a1 l23 y24 y25 y26 l27 y28 o → motive a1 l23 y24 y25 y26 l27 y28 o :=
  fun a1 l23 y24 y25 y26 l27 y28 o h => m50_L2_I.rec (motive := fun a1 l23 y24 y25 y26 l27 y28 o _ => motive a1 l23 y24 y25 y26 l27 y28 o) step h
theorem grp_50 : (∀ a0 a1 r, m50 a0 a1 = some r → okS64 a0 a1 r) ∧ (∀ a1 l23 y24 y25 y26 l27 y28 o, m50_L2 a1 l23 y24 y25 y26 l27 y28 = some o → m50_L2_I a1 l23 y24 y25 y26 l27 y28 o) := by
  refine m50.mutual_partial_correctness okS64 m50_L2_I ?_ ?_
  · intro _ hI66 a0 a1 r h g1000
    refine ACall.of_vc tabT_ok mixed Tryd.func64 rfl (by kernel_rfl) _ _ _ rfl (by kernel_rfl) ?_
    refine .direct ?_
    refine .direct ?_
    refine .direct ?_
    refine splitB.mk (fun hb1 => ?_) (fun hb1 => ?_)
    · replace h := T_dec hb1 h
      refine splitB_t ?_
      refine splitB_t ?_
      refine splitB_t ?_
      refine splitB_t ?_
      refine .direct ?_
      obtain ⟨⟨v2, v3⟩, hv4, h⟩ := bind_some h
      refine ⟨fun res h' => res = .agg [.int .i64 v2.fKind, .int .i64 v2.fNum, .str v2.fStr, .int .i64 v2.fNext, sl 8 TEntry.cells v2.fItems] ∧ h' = [.row g1000 3 1 96 (fun _ => [sl 1 cB v3.fB, .int .i64 v3.fI, .int .i64 v3.fH]), .row 0 5 1 26 (fun _ => [.int .i64 0, .int .i64 0, .str [], .int .i64 0, .nils])], (ACall.over (ok89 (g1000 := g1000) hv4) [0] [.row g1000 3 1 96 (fun _ => [sl 1 cB a0.fB, .int .i64 a0.fI, .int .i64 a0.fH]), .row 0 5 1 26 (fun _ => [.int .i64 0, .int .i64 0, .str [], .int .i64 0, .nils])] rfl (by decide) (by simp) (by intro j o hj; exact match j, hj with | 0, hj => by cases hj; rfl | j + 1, hj => by cases hj) rfl).mono (by rintro _ _ ⟨_, _, ⟨rfl, rfl⟩, rfl, rfl⟩; exact ⟨rfl, rfl⟩), ?_⟩
      rintro _ _ ⟨rfl, rfl⟩
      refine ⟨rfl, _, fun _ => [.int .i64 v2.fKind, .int .i64 v2.fNum, .str v2.fStr, .int .i64 v2.fNext, sl 8 TEntry.cells v2.fItems], rfl, one_set rfl, ?_⟩
      obtain rfl := Option.some.inj h
      refine ⟨rfl, _, rfl, ?_⟩
      exact ⟨[0], .agg [.int .i64 v2.fKind, .int .i64 v2.fNum, .str v2.fStr, .int .i64 v2.fNext, sl 8 TEntry.cells v2.fItems], [.row g1000 3 1 96 (fun _ => [sl 1 cB v3.fB, .int .i64 v3.fI, .int .i64 v3.fH])], by decide, (show 1 ≤ 1 by decide), .agg_l ⟨.int_eq rfl, .int_eq rfl, .str_eq rfl, .int_eq rfl, .slc_eq rfl (fun _ _ => rfl), trivial⟩, ⟨⟨fun _ => ⟨rfl, rfl⟩, rfl, rfl, rfl, fun _ _ => ⟨.slc_eq rfl (fun _ _ => rfl), .int_eq rfl, .int_eq rfl, trivial⟩⟩, trivial⟩, rfl, rfl⟩
    · replace h := F_dec hb1 h
      refine splitB_f ?_
      obtain ⟨⟨v5, v6⟩, hv7, h⟩ := bind_some h
      refine ⟨fun res h' => res = .bool v5 ∧ h' = [.row g1000 3 1 96 (fun _ => [sl 1 cB v6.fB, .int .i64 v6.fI, .int .i64 v6.fH]), .row 0 5 1 26 (fun _ => [.int .i64 0, .int .i64 0, .str [], .int .i64 0, .nils])], (ACall.over (ok37 (g1000 := g1000) hv7) [0] [.row g1000 3 1 96 (fun _ => [sl 1 cB a0.fB, .int .i64 a0.fI, .int .i64 a0.fH]), .row 0 5 1 26 (fun _ => [.int .i64 0, .int .i64 0, .str [], .int .i64 0, .nils])] rfl (by decide) (by simp) (by intro j o hj; exact match j, hj with | 0, hj => by cases hj; rfl | j + 1, hj => by cases hj) rfl).mono (by rintro _ _ ⟨_, _, ⟨rfl, rfl⟩, rfl, rfl⟩; exact ⟨rfl, rfl⟩), ?_⟩
      rintro _ _ ⟨rfl, rfl⟩
      refine splitB_f ?_
      refine splitB_f ?_
      refine splitB.mk (fun hb8 => ?_) (fun hb8 => ?_)
      · have hb67 := not_F hb8
        replace h := F_var hb67 h
        refine .direct ?_
        obtain ⟨⟨v9, v10⟩, hv11, h⟩ := bind_some h
        refine ⟨fun res h' => res = .agg [.int .i64 v9.fKind, .int .i64 v9.fNum, .str v9.fStr, .int .i64 v9.fNext, sl 8 TEntry.cells v9.fItems] ∧ h' = [.row g1000 3 1 96 (fun _ => [sl 1 cB v10.fB, .int .i64 v10.fI, .int .i64 v10.fH]), .row 0 5 1 26 (fun _ => [.int .i64 0, .int .i64 0, .str [], .int .i64 0, .nils])], (ACall.over (ok89 (g1000 := g1000) hv11) [0] [.row g1000 3 1 96 (fun _ => [sl 1 cB v6.fB, .int .i64 v6.fI, .int .i64 v6.fH]), .row 0 5 1 26 (fun _ => [.int .i64 0, .int .i64 0, .str [], .int .i64 0, .nils])] rfl (by decide) (by simp) (by intro j o hj; exact match j, hj with | 0, hj => by cases hj; rfl | j + 1, hj => by cases hj) rfl).mono (by rintro _ _ ⟨_, _, ⟨rfl, rfl⟩, rfl, rfl⟩; exact ⟨rfl, rfl⟩), ?_⟩
        rintro _ _ ⟨rfl, rfl⟩
        refine ⟨rfl, _, fun _ => [.int .i64 v9.fKind, .int .i64 v9.fNum, .str v9.fStr, .int .i64 v9.fNext, sl 8 TEntry.cells v9.fItems], rfl, one_set rfl, ?_⟩
        obtain rfl := Option.some.inj h
        refine ⟨rfl, _, rfl, ?_⟩
        exact ⟨[0], .agg [.int .i64 v9.fKind, .int .i64 v9.fNum, .str v9.fStr, .int .i64 v9.fNext, sl 8 TEntry.cells v9.fItems], [.row g1000 3 1 96 (fun _ => [sl 1 cB v10.fB, .int .i64 v10.fI, .int .i64 v10.fH])], by decide, (show 1 ≤ 1 by decide), .agg_l ⟨.int_eq rfl, .int_eq rfl, .str_eq rfl, .int_eq rfl, .slc_eq rfl (fun _ _ => rfl), trivial⟩, ⟨⟨fun _ => ⟨rfl, rfl⟩, rfl, rfl, rfl, fun _ _ => ⟨.slc_eq rfl (fun _ _ => rfl), .int_eq rfl, .int_eq rfl, trivial⟩⟩, trivial⟩, rfl, rfl⟩
      · have hb67 := not_T hb8
        replace h := T_var hb67 h
        refine .direct ?_
        refine ⟨_, ACall.pure0 (ok_s_ArrayValuex) _ rfl (fun _ => rfl), ?_⟩
        rintro _ _ ⟨rfl, rfl⟩
        refine ⟨rfl, _, fun _ => [.int .i64 4, .int .i64 0, .str [], .int .i64 0, .nils], rfl, one_set rfl, ?_⟩
        obtain ⟨o17, ho18, hk19⟩ := bind_some h
        replace h := ho18
        refine .cut (fun σ η => ∃ l12, ∃ y13, ∃ y14, ∃ y15, ∃ l16, (l12, y13, y14, y15, l16) = o17 ∧ σ = [(4, .optr 1 0 0 0), (5, .optr 2 0 0 0)] ∧ η = [.row g1000 3 1 96 (fun _ => [sl 1 cB l12, .int .i64 y13, .int .i64 y14]), .row 0 5 1 26 (fun _ => [.int .i64 0, .int .i64 0, .str [], .int .i64 0, .nils]), .row 0 5 1 26 (fun _ => [.int .i64 4, .int .i64 0, .str [], .int .i64 y15, .own 3 0 0 l16.length]), .row 0 8 l16.length 34 (row TEntry.cells l16)]) ?_ ?_
        · refine .direct ?_
          obtain ⟨⟨v20, v21⟩, hv22, h⟩ := bind_some h
          refine ⟨fun res h' => res = .int .i64 v20 ∧ h' = [.row g1000 3 1 96 (fun _ => [sl 1 cB v21.fB, .int .i64 v21.fI, .int .i64 v21.fH]), .row 0 5 1 26 (fun _ => [.int .i64 0, .int .i64 0, .str [], .int .i64 0, .nils]), .row 0 5 1 26 (fun _ => [.int .i64 4, .int .i64 0, .str [], .int .i64 0, .nils])], (ACall.over (ok40 (g1000 := g1000) hv22) [0] [.row g1000 3 1 96 (fun _ => [sl 1 cB v6.fB, .int .i64 v6.fI, .int .i64 v6.fH]), .row 0 5 1 26 (fun _ => [.int .i64 0, .int .i64 0, .str [], .int .i64 0, .nils]), .row 0 5 1 26 (fun _ => [.int .i64 4, .int .i64 0, .str [], .int .i64 0, .nils])] rfl (by decide) (by simp) (by intro j o hj; exact match j, hj with | 0, hj => by cases hj; rfl | j + 1, hj => by cases hj) rfl).mono (by rintro _ _ ⟨_, _, ⟨rfl, rfl⟩, rfl, rfl⟩; exact ⟨rfl, rfl⟩), ?_⟩
          rintro _ _ ⟨rfl, rfl⟩
          have hL65 := hI66 _ _ _ _ _ _ _ _ h
          refine LoopAt.enter [(0, .optr 0 g1000 0 0), (1, .int .i64 a1), (4, .optr 1 0 0 0), (5, .optr 2 0 0 0), (6, .int .i64 v20)] [.row g1000 3 1 96 (fun _ => [sl 1 cB v21.fB, .int .i64 v21.fI, .int .i64 v21.fH]), .row 0 5 1 26 (fun _ => [.int .i64 0, .int .i64 0, .str [], .int .i64 0, .nils]), .row 0 5 1 26 (fun _ => [.int .i64 4, .int .i64 0, .str [], .int .i64 0, .own 3 0 0 ([] : List TEntry).length]), .row 0 8 ([] : List TEntry).length 34 (row TEntry.cells ([] : List TEntry))] ⟨[0, 1, 2, 6], by decide, (show 1 ≤ 4 by decide), ⟨.optr_eq rfl ⟨_, _, _, _, rfl⟩ ⟨_, _, _, _, rfl⟩ rfl rfl, .int_eq rfl, .optr_eq rfl ⟨_, _, _, _, rfl⟩ ⟨_, _, _, _, rfl⟩ rfl rfl, .optr_eq rfl ⟨_, _, _, _, rfl⟩ ⟨_, _, _, _, rfl⟩ rfl rfl, .int_eq rfl, trivial⟩, ⟨⟨fun _ => ⟨rfl, rfl⟩, rfl, rfl, rfl, fun _ _ => ⟨.slc_eq rfl (fun _ _ => rfl), .int_eq rfl, .int_eq rfl, trivial⟩⟩, ⟨fun h0 => absurd (show 1 < 1 from h0) (by decide), rfl, rfl, rfl, fun _ _ => ⟨.int_eq rfl, .int_eq rfl, .str_eq rfl, .int_eq rfl, .nils, trivial⟩⟩, ⟨fun h0 => absurd (show 2 < 1 from h0) (by decide), rfl, rfl, rfl, fun _ _ => ⟨.int_eq rfl, .int_eq rfl, .str_eq rfl, .int_eq rfl, (.nilo _ _ _ _ _ _ rfl rfl rfl), trivial⟩⟩, ⟨(show 1 ≤ 3 by decide), rfl⟩, trivial⟩⟩ ?_
          refine m50_L2_ind (motive := fun p64 l23 y24 y25 y26 l27 y28 o62 => a1 = p64 → o17 = o62 → LoopAt _ _ [(0, .optr 0 g1000 0 0), (1, .int .i64 a1), (4, .optr 1 0 0 0), (5, .optr 2 0 0 0), (6, .int .i64 y28)] [.row g1000 3 1 96 (fun _ => [sl 1 cB l23, .int .i64 y24, .int .i64 y25]), .row 0 5 1 26 (fun _ => [.int .i64 0, .int .i64 0, .str [], .int .i64 0, .nils]), .row 0 5 1 26 (fun _ => [.int .i64 4, .int .i64 0, .str [], .int .i64 y26, .own 3 0 0 l27.length]), .row 0 8 l27.length 34 (row TEntry.cells l27)]) ?_ a1 v21.fB v21.fI v21.fH 0 ([] : List TEntry) v20 o17 hL65 rfl rfl
          intro _ hG31 _ _ p64 l23 y24 y25 y26 l27 y28 o62 h ih29  hp_p64 hr63
          subst hp_p64
          subst hr63
          refine LoopAt.round ?_
          refine .direct ?_
          refine .direct ?_
          refine splitB.mk (fun hb32 => ?_) (fun hb32 => ?_)
          · replace h := T_dec hb32 h
            refine .direct ?_
            refine .direct ?_
            obtain ⟨⟨v33, v34⟩, hv35, h⟩ := bind_some h
            refine ⟨fun res h' => res = .agg [.bool v33.fText, .int .i64 v33.fNum, .str v33.fStr] ∧ h' = [.row g1000 3 1 96 (fun _ => [sl 1 cB v34.fB, .int .i64 v34.fI, .int .i64 v34.fH]), .row 0 5 1 26 (fun _ => [.int .i64 0, .int .i64 0, .str [], .int .i64 0, .nils]), .row 0 5 1 26 (fun _ => [.int .i64 4, .int .i64 0, .str [], .int .i64 y26, .own 3 0 0 l27.length]), .row 0 8 l27.length 34 (row TEntry.cells l27)], (ACall.over (ok47 (g1000 := g1000) hv35) [0] [.row g1000 3 1 96 (fun _ => [sl 1 cB l23, .int .i64 y24, .int .i64 y25]), .row 0 5 1 26 (fun _ => [.int .i64 0, .int .i64 0, .str [], .int .i64 0, .nils]), .row 0 5 1 26 (fun _ => [.int .i64 4, .int .i64 0, .str [], .int .i64 y26, .own 3 0 0 l27.length]), .row 0 8 l27.length 34 (row TEntry.cells l27)] rfl (by decide) (by simp) (by intro j o hj; exact match j, hj with | 0, hj => by cases hj; rfl | j + 1, hj => by cases hj) rfl).mono (by rintro _ _ ⟨_, _, ⟨rfl, rfl⟩, rfl, rfl⟩; exact ⟨rfl, rfl⟩), ?_⟩
            rintro _ _ ⟨rfl, rfl⟩
            refine ⟨rfl, _, fun _ => [.bool v33.fText, .int .i64 v33.fNum, .str v33.fStr], rfl, one_set rfl, ?_⟩
            obtain ⟨o42, ho43, hk44⟩ := bind_some h
            replace h := ho43
            refine .cut (fun σ η => ∃ l36, ∃ y37, ∃ y38, ∃ b39, ∃ y40, ∃ s41, (l36, y37, y38, b39, y40, s41) = o42 ∧ σ = [(0, .optr 0 g1000 0 0), (1, .int .i64 a1), (4, .optr 1 0 0 0), (5, .optr 2 0 0 0), (6, .int .i64 y28), (7, .optr 4 0 0 0)] ∧ η = [.row g1000 3 1 96 (fun _ => [sl 1 cB l36, .int .i64 y37, .int .i64 y38]), .row 0 5 1 26 (fun _ => [.int .i64 0, .int .i64 0, .str [], .int .i64 0, .nils]), .row 0 5 1 26 (fun _ => [.int .i64 4, .int .i64 0, .str [], .int .i64 y26, .own 3 0 0 l27.length]), .row 0 8 l27.length 34 (row TEntry.cells l27), .row 0 3 1 32 (fun _ => [.bool b39, .int .i64 y40, .str s41])]) ?_ ?_
            · refine .direct ?_
              obtain ⟨⟨v45, v46⟩, hv47, h⟩ := bind_some h
              refine ⟨fun res h' => res = .bool v45 ∧ h' = [.row g1000 3 1 96 (fun _ => [sl 1 cB v46.fB, .int .i64 v46.fI, .int .i64 v46.fH]), .row 0 5 1 26 (fun _ => [.int .i64 0, .int .i64 0, .str [], .int .i64 0, .nils]), .row 0 5 1 26 (fun _ => [.int .i64 4, .int .i64 0, .str [], .int .i64 y26, .own 3 0 0 l27.length]), .row 0 8 l27.length 34 (row TEntry.cells l27), .row 0 3 1 32 (fun _ => [.bool v33.fText, .int .i64 v33.fNum, .str v33.fStr])], (ACall.over (ok37 (g1000 := g1000) hv47) [0] [.row g1000 3 1 96 (fun _ => [sl 1 cB v34.fB, .int .i64 v34.fI, .int .i64 v34.fH]), .row 0 5 1 26 (fun _ => [.int .i64 0, .int .i64 0, .str [], .int .i64 0, .nils]), .row 0 5 1 26 (fun _ => [.int .i64 4, .int .i64 0, .str [], .int .i64 y26, .own 3 0 0 l27.length]), .row 0 8 l27.length 34 (row TEntry.cells l27), .row 0 3 1 32 (fun _ => [.bool v33.fText, .int .i64 v33.fNum, .str v33.fStr])] rfl (by decide) (by simp) (by intro j o hj; exact match j, hj with | 0, hj => by cases hj; rfl | j + 1, hj => by cases hj) rfl).mono (by rintro _ _ ⟨_, _, ⟨rfl, rfl⟩, rfl, rfl⟩; exact ⟨rfl, rfl⟩), ?_⟩
              rintro _ _ ⟨rfl, rfl⟩
              refine splitB.mk (fun hb48 => ?_) (fun hb48 => ?_)
              · replace h := T_var hb48 h
                refine ⟨rfl, ?_⟩
                refine splitB_t ?_
                refine ⟨rfl, _, rfl, ?_⟩
                refine splitB_t ?_
                refine splitB_t ?_
                refine splitB.mk (fun hb49 => ?_) (fun hb49 => ?_)
                · replace h := T_dec hb49 h
                  refine ⟨rfl, ?_⟩
                  refine ⟨rfl, _, rfl, ?_⟩
                  refine ⟨rfl, _, fun _ => [.bool false, .int .i64 y26, .str []], rfl, one_set rfl, ?_⟩
                  exact ⟨[(0, .optr 0 g1000 0 0), (1, .int .i64 a1), (4, .optr 1 0 0 0), (5, .optr 2 0 0 0), (6, .int .i64 y28), (7, .optr 4 0 0 0)], [.row g1000 3 1 96 (fun _ => [sl 1 cB v46.fB, .int .i64 v46.fI, .int .i64 v46.fH]), .row 0 5 1 26 (fun _ => [.int .i64 0, .int .i64 0, .str [], .int .i64 0, .nils]), .row 0 5 1 26 (fun _ => [.int .i64 4, .int .i64 0, .str [], .int .i64 y26, .own 3 0 0 l27.length]), .row 0 8 l27.length 34 (row TEntry.cells l27), .row 0 3 1 32 (fun _ => [.bool false, .int .i64 y26, .str []])], ⟨[0, 1, 2, 3, 4], by decide, (show 1 ≤ 5 by decide), ⟨.optr_eq rfl ⟨_, _, _, _, rfl⟩ ⟨_, _, _, _, rfl⟩ rfl rfl, .int_eq rfl, .optr_eq rfl ⟨_, _, _, _, rfl⟩ ⟨_, _, _, _, rfl⟩ rfl rfl, .optr_eq rfl ⟨_, _, _, _, rfl⟩ ⟨_, _, _, _, rfl⟩ rfl rfl, .int_eq rfl, .optr_eq rfl ⟨_, _, _, _, rfl⟩ ⟨_, _, _, _, rfl⟩ rfl rfl, trivial⟩, ⟨⟨fun _ => ⟨rfl, rfl⟩, rfl, rfl, rfl, fun _ _ => ⟨.slc_eq rfl (fun _ _ => rfl), .int_eq rfl, .int_eq rfl, trivial⟩⟩, ⟨fun h0 => absurd (show 1 < 1 from h0) (by decide), rfl, rfl, rfl, fun _ _ => ⟨.int_eq rfl, .int_eq rfl, .str_eq rfl, .int_eq rfl, .nils, trivial⟩⟩, ⟨fun h0 => absurd (show 2 < 1 from h0) (by decide), rfl, rfl, rfl, fun _ _ => ⟨.int_eq rfl, .int_eq rfl, .str_eq rfl, .int_eq rfl, .own_eq rfl ⟨_, _, _, _, rfl⟩ ⟨_, _, _, _, rfl⟩ rfl rfl, trivial⟩⟩, ⟨fun h0 => absurd (show 3 < 1 from h0) (by decide), rfl, rfl, rfl, fz_row TEntry.cells_pure⟩, ⟨fun h0 => absurd (show 4 < 1 from h0) (by decide), rfl, rfl, rfl, fun _ _ => ⟨.bool_eq rfl, .int_eq rfl, .str_eq rfl, trivial⟩⟩, trivial⟩⟩, v46.fB, v46.fI, v46.fH, false, y26, [], Option.some.inj h, rfl, rfl⟩
                · replace h := F_dec hb49 h
                  exact ⟨[(0, .optr 0 g1000 0 0), (1, .int .i64 a1), (4, .optr 1 0 0 0), (5, .optr 2 0 0 0), (6, .int .i64 y28), (7, .optr 4 0 0 0)], [.row g1000 3 1 96 (fun _ => [sl 1 cB v46.fB, .int .i64 v46.fI, .int .i64 v46.fH]), .row 0 5 1 26 (fun _ => [.int .i64 0, .int .i64 0, .str [], .int .i64 0, .nils]), .row 0 5 1 26 (fun _ => [.int .i64 4, .int .i64 0, .str [], .int .i64 y26, .own 3 0 0 l27.length]), .row 0 8 l27.length 34 (row TEntry.cells l27), .row 0 3 1 32 (fun _ => [.bool v33.fText, .int .i64 v33.fNum, .str v33.fStr])], ⟨[0, 1, 2, 3, 4], by decide, (show 1 ≤ 5 by decide), ⟨.optr_eq rfl ⟨_, _, _, _, rfl⟩ ⟨_, _, _, _, rfl⟩ rfl rfl, .int_eq rfl, .optr_eq rfl ⟨_, _, _, _, rfl⟩ ⟨_, _, _, _, rfl⟩ rfl rfl, .optr_eq rfl ⟨_, _, _, _, rfl⟩ ⟨_, _, _, _, rfl⟩ rfl rfl, .int_eq rfl, .optr_eq rfl ⟨_, _, _, _, rfl⟩ ⟨_, _, _, _, rfl⟩ rfl rfl, trivial⟩, ⟨⟨fun _ => ⟨rfl, rfl⟩, rfl, rfl, rfl, fun _ _ => ⟨.slc_eq rfl (fun _ _ => rfl), .int_eq rfl, .int_eq rfl, trivial⟩⟩, ⟨fun h0 => absurd (show 1 < 1 from h0) (by decide), rfl, rfl, rfl, fun _ _ => ⟨.int_eq rfl, .int_eq rfl, .str_eq rfl, .int_eq rfl, .nils, trivial⟩⟩, ⟨fun h0 => absurd (show 2 < 1 from h0) (by decide), rfl, rfl, rfl, fun _ _ => ⟨.int_eq rfl, .int_eq rfl, .str_eq rfl, .int_eq rfl, .own_eq rfl ⟨_, _, _, _, rfl⟩ ⟨_, _, _, _, rfl⟩ rfl rfl, trivial⟩⟩, ⟨fun h0 => absurd (show 3 < 1 from h0) (by decide), rfl, rfl, rfl, fz_row TEntry.cells_pure⟩, ⟨fun h0 => absurd (show 4 < 1 from h0) (by decide), rfl, rfl, rfl, fun _ _ => ⟨.bool_eq rfl, .int_eq rfl, .str_eq rfl, trivial⟩⟩, trivial⟩⟩, v46.fB, v46.fI, v46.fH, v33.fText, v33.fNum, v33.fStr, Option.some.inj h, rfl, rfl⟩
              · replace h := F_var hb48 h
                refine splitB_f ?_
                refine splitB_f ?_
                refine splitB_f ?_
                refine splitB_f ?_
                exact ⟨[(0, .optr 0 g1000 0 0), (1, .int .i64 a1), (4, .optr 1 0 0 0), (5, .optr 2 0 0 0), (6, .int .i64 y28), (7, .optr 4 0 0 0)], [.row g1000 3 1 96 (fun _ => [sl 1 cB v46.fB, .int .i64 v46.fI, .int .i64 v46.fH]), .row 0 5 1 26 (fun _ => [.int .i64 0, .int .i64 0, .str [], .int .i64 0, .nils]), .row 0 5 1 26 (fun _ => [.int .i64 4, .int .i64 0, .str [], .int .i64 y26, .own 3 0 0 l27.length]), .row 0 8 l27.length 34 (row TEntry.cells l27), .row 0 3 1 32 (fun _ => [.bool v33.fText, .int .i64 v33.fNum, .str v33.fStr])], ⟨[0, 1, 2, 3, 4], by decide, (show 1 ≤ 5 by decide), ⟨.optr_eq rfl ⟨_, _, _, _, rfl⟩ ⟨_, _, _, _, rfl⟩ rfl rfl, .int_eq rfl, .optr_eq rfl ⟨_, _, _, _, rfl⟩ ⟨_, _, _, _, rfl⟩ rfl rfl, .optr_eq rfl ⟨_, _, _, _, rfl⟩ ⟨_, _, _, _, rfl⟩ rfl rfl, .int_eq rfl, .optr_eq rfl ⟨_, _, _, _, rfl⟩ ⟨_, _, _, _, rfl⟩ rfl rfl, trivial⟩, ⟨⟨fun _ => ⟨rfl, rfl⟩, rfl, rfl, rfl, fun _ _ => ⟨.slc_eq rfl (fun _ _ => rfl), .int_eq rfl, .int_eq rfl, trivial⟩⟩, ⟨fun h0 => absurd (show 1 < 1 from h0) (by decide), rfl, rfl, rfl, fun _ _ => ⟨.int_eq rfl, .int_eq rfl, .str_eq rfl, .int_eq rfl, .nils, trivial⟩⟩, ⟨fun h0 => absurd (show 2 < 1 from h0) (by decide), rfl, rfl, rfl, fun _ _ => ⟨.int_eq rfl, .int_eq rfl, .str_eq rfl, .int_eq rfl, .own_eq rfl ⟨_, _, _, _, rfl⟩ ⟨_, _, _, _, rfl⟩ rfl rfl, trivial⟩⟩, ⟨fun h0 => absurd (show 3 < 1 from h0) (by decide), rfl, rfl, rfl, fz_row TEntry.cells_pure⟩, ⟨fun h0 => absurd (show 4 < 1 from h0) (by decide), rfl, rfl, rfl, fun _ _ => ⟨.bool_eq rfl, .int_eq rfl, .str_eq rfl, trivial⟩⟩, trivial⟩⟩, v46.fB, v46.fI, v46.fH, v33.fText, v33.fNum, v33.fStr, Option.some.inj h, rfl, rfl⟩
            · rintro _ _ ⟨l36, y37, y38, b39, y40, s41, rfl, rfl, rfl⟩
              replace h := hk44
              refine .direct ?_
              refine ⟨rfl, _, rfl, ?_⟩
              refine ⟨rfl, _, rfl, ?_⟩
              obtain ⟨v50, hv51, h⟩ := bind_some h
              refine ⟨_, ACall.snap0 (args := [.agg [.int .i64 4, .int .i64 0, .str [], .int .i64 y26, .own 3 0 0 l27.length], .agg [.bool b39, .int .i64 y40, .str s41]]) (ok90 hv51) [.row g1000 3 1 96 (fun _ => [sl 1 cB l36, .int .i64 y37, .int .i64 y38]), .row 0 5 1 26 (fun _ => [.int .i64 0, .int .i64 0, .str [], .int .i64 0, .nils]), .row 0 5 1 26 (fun _ => [.int .i64 4, .int .i64 0, .str [], .int .i64 y26, .own 3 0 0 l27.length]), .row 0 8 l27.length 34 (row TEntry.cells l27), .row 0 3 1 32 (fun _ => [.bool b39, .int .i64 y40, .str s41])] ⟨.agg_l ⟨.int_eq rfl, .int_eq rfl, .str_eq rfl, .int_eq rfl, (fz_snap TEntry.cells_pure rfl shows_all), trivial⟩, .agg_l ⟨.bool_eq rfl, .int_eq rfl, .str_eq rfl, trivial⟩, trivial⟩ rfl rfl (fun _ => rfl), ?_⟩
              rintro _ _ ⟨rfl, rfl⟩
              refine splitB.mk (fun hb52 => ?_) (fun hb52 => ?_)
              · replace h := T_dec hb52 h
                refine .direct ?_
                refine .float [(0, true), (1, true), (2, true), (3, true), (4, true), (5, true), (6, false), (7, true), (8, false), (9, false), (10, true), (11, false)] (by kernel_rfl) ?_
                refine ⟨rfl, ?_⟩
                refine ⟨rfl, _, rfl, ?_⟩
                refine ⟨rfl, _, rfl, ?_⟩
                obtain ⟨⟨v53, v54⟩, hv55, h⟩ := bind_some h
                refine ⟨fun res h' => res = .agg [.int .i64 v53.fKind, .int .i64 v53.fNum, .str v53.fStr, .int .i64 v53.fNext, sl 8 TEntry.cells v53.fItems] ∧ h' = [.row g1000 3 1 96 (fun _ => [sl 1 cB v54.fB, .int .i64 v54.fI, .int .i64 v54.fH]), .row 0 5 1 26 (fun _ => [.int .i64 0, .int .i64 0, .str [], .int .i64 0, .nils]), .row 0 5 1 26 (fun _ => [.int .i64 4, .int .i64 0, .str [], .int .i64 y26, .own 3 0 0 l27.length]), .row 0 8 l27.length 34 (row TEntry.cells l27), .row 0 3 1 32 (fun _ => [.bool b39, .int .i64 y40, .str s41])], (ACall.over (hG31 _ _ _ hv55 _) [0] [.row g1000 3 1 96 (fun _ => [sl 1 cB l36, .int .i64 y37, .int .i64 y38]), .row 0 5 1 26 (fun _ => [.int .i64 0, .int .i64 0, .str [], .int .i64 0, .nils]), .row 0 5 1 26 (fun _ => [.int .i64 4, .int .i64 0, .str [], .int .i64 y26, .own 3 0 0 l27.length]), .row 0 8 l27.length 34 (row TEntry.cells l27), .row 0 3 1 32 (fun _ => [.bool b39, .int .i64 y40, .str s41])] rfl (by decide) (by simp) (by intro j o hj; exact match j, hj with | 0, hj => by cases hj; rfl | j + 1, hj => by cases hj) rfl).mono (by rintro _ _ ⟨_, _, ⟨rfl, rfl⟩, rfl, rfl⟩; exact ⟨rfl, rfl⟩), ?_⟩
                rintro _ _ ⟨rfl, rfl⟩
                refine ⟨rfl, ?_⟩
                refine ⟨rfl, ?_⟩
                refine ⟨rfl, ?_⟩
                refine ⟨row TEntry.cells ([(TEntry.mk (TKey.mk b39 y40 s41) v53)] : List TEntry), row_lit TEntry.cells ([(TEntry.mk (TKey.mk b39 y40 s41) v53)] : List TEntry) rfl (cll_cons (TEntry.cells_eq _) ⟨.same _, .same _, .same _, .same _, .same _, .same _, .same _, .same _, trivial⟩ trivial), ?_⟩
                refine ⟨rfl, ?_⟩
                refine ⟨rfl, ?_⟩
                obtain ⟨l56, hx57, h⟩ := bind_some h
                refine ⟨rfl, rfl, lapp_bd hx57, l56.length, row TEntry.cells l56, lapp_len hx57, lapp_row hx57 shows_all (src_own shows_all), ?_⟩
                refine ⟨rfl, ?_⟩
                refine ⟨rfl, _, fun _ => [.int .i64 4, .int .i64 0, .str [], .int .i64 y26, .own 3 (0 + 1) 0 l56.length], rfl, one_set rfl, ?_⟩
                refine .direct ?_
                refine ⟨rfl, ?_⟩
                refine ⟨rfl, _, rfl, ?_⟩
                refine splitB.mk (fun hb58 => ?_) (fun hb58 => ?_)
                · have hb61 := not_F hb58
                  replace h := F_var hb61 h
                  refine ⟨rfl, ?_⟩
                  refine ⟨rfl, _, rfl, ?_⟩
                  refine ⟨rfl, ?_⟩
                  refine ⟨rfl, _, rfl, ?_⟩
                  obtain ⟨v59, hv60, h⟩ := bind_some h
                  refine ⟨_, ACall.pure0 (ok91 hv60) _ rfl (fun _ => rfl), ?_⟩
                  rintro _ _ ⟨rfl, rfl⟩
                  refine ⟨rfl, ?_⟩
                  refine ⟨rfl, _, fun _ => [.int .i64 4, .int .i64 0, .str [], .int .i64 v59, .own 3 (0 + 1) 0 l56.length], rfl, one_set rfl, ?_⟩
                  exact ⟨[(0, .optr 0 g1000 0 0), (1, .int .i64 a1), (4, .optr 1 0 0 0), (5, .optr 2 0 0 0), (6, .int .i64 (W64 (y28 - 1)))], [.row g1000 3 1 96 (fun _ => [sl 1 cB v54.fB, .int .i64 v54.fI, .int .i64 v54.fH]), .row 0 5 1 26 (fun _ => [.int .i64 0, .int .i64 0, .str [], .int .i64 0, .nils]), .row 0 5 1 26 (fun _ => [.int .i64 4, .int .i64 0, .str [], .int .i64 v59, .own 3 0 0 l56.length]), .row 0 8 l56.length 34 (row TEntry.cells l56)], ⟨[0, 1, 2, 3], by decide, (show 1 ≤ 4 by decide), ⟨.optr_eq rfl ⟨_, _, _, _, rfl⟩ ⟨_, _, _, _, rfl⟩ rfl rfl, .int_eq rfl, .optr_eq rfl ⟨_, _, _, _, rfl⟩ ⟨_, _, _, _, rfl⟩ rfl rfl, .optr_eq rfl ⟨_, _, _, _, rfl⟩ ⟨_, _, _, _, rfl⟩ rfl rfl, .int_eq rfl, trivial⟩, ⟨⟨fun _ => ⟨rfl, rfl⟩, rfl, rfl, rfl, fun _ _ => ⟨.slc_eq rfl (fun _ _ => rfl), .int_eq rfl, .int_eq rfl, trivial⟩⟩, ⟨fun h0 => absurd (show 1 < 1 from h0) (by decide), rfl, rfl, rfl, fun _ _ => ⟨.int_eq rfl, .int_eq rfl, .str_eq rfl, .int_eq rfl, .nils, trivial⟩⟩, ⟨fun h0 => absurd (show 2 < 1 from h0) (by decide), rfl, rfl, rfl, fun _ _ => ⟨.int_eq rfl, .int_eq rfl, .str_eq rfl, .int_eq rfl, .own_eq rfl ⟨_, _, _, _, rfl⟩ ⟨_, _, _, _, rfl⟩ rfl rfl, trivial⟩⟩, ⟨fun h0 => absurd (show 3 < 1 from h0) (by decide), rfl, rfl, rfl, fz_row TEntry.cells_pure⟩, trivial⟩⟩, ih29 _ _ _ _ _ _ _ _ h rfl rfl⟩
                · have hb61 := not_T hb58
                  replace h := T_var hb61 h
                  exact ⟨[(0, .optr 0 g1000 0 0), (1, .int .i64 a1), (4, .optr 1 0 0 0), (5, .optr 2 0 0 0), (6, .int .i64 (W64 (y28 - 1)))], [.row g1000 3 1 96 (fun _ => [sl 1 cB v54.fB, .int .i64 v54.fI, .int .i64 v54.fH]), .row 0 5 1 26 (fun _ => [.int .i64 0, .int .i64 0, .str [], .int .i64 0, .nils]), .row 0 5 1 26 (fun _ => [.int .i64 4, .int .i64 0, .str [], .int .i64 y26, .own 3 0 0 l56.length]), .row 0 8 l56.length 34 (row TEntry.cells l56)], ⟨[0, 1, 2, 3], by decide, (show 1 ≤ 4 by decide), ⟨.optr_eq rfl ⟨_, _, _, _, rfl⟩ ⟨_, _, _, _, rfl⟩ rfl rfl, .int_eq rfl, .optr_eq rfl ⟨_, _, _, _, rfl⟩ ⟨_, _, _, _, rfl⟩ rfl rfl, .optr_eq rfl ⟨_, _, _, _, rfl⟩ ⟨_, _, _, _, rfl⟩ rfl rfl, .int_eq rfl, trivial⟩, ⟨⟨fun _ => ⟨rfl, rfl⟩, rfl, rfl, rfl, fun _ _ => ⟨.slc_eq rfl (fun _ _ => rfl), .int_eq rfl, .int_eq rfl, trivial⟩⟩, ⟨fun h0 => absurd (show 1 < 1 from h0) (by decide), rfl, rfl, rfl, fun _ _ => ⟨.int_eq rfl, .int_eq rfl, .str_eq rfl, .int_eq rfl, .nils, trivial⟩⟩, ⟨fun h0 => absurd (show 2 < 1 from h0) (by decide), rfl, rfl, rfl, fun _ _ => ⟨.int_eq rfl, .int_eq rfl, .str_eq rfl, .int_eq rfl, .own_eq rfl ⟨_, _, _, _, rfl⟩ ⟨_, _, _, _, rfl⟩ rfl rfl, trivial⟩⟩, ⟨fun h0 => absurd (show 3 < 1 from h0) (by decide), rfl, rfl, rfl, fz_row TEntry.cells_pure⟩, trivial⟩⟩, ih29 _ _ _ _ _ _ _ _ h rfl rfl⟩
              · replace h := F_dec hb52 h
                exact ⟨[(0, .optr 0 g1000 0 0), (1, .int .i64 a1), (4, .optr 1 0 0 0), (5, .optr 2 0 0 0), (6, .int .i64 (W64 (y28 - 1)))], [.row g1000 3 1 96 (fun _ => [sl 1 cB l36, .int .i64 y37, .int .i64 y38]), .row 0 5 1 26 (fun _ => [.int .i64 0, .int .i64 0, .str [], .int .i64 0, .nils]), .row 0 5 1 26 (fun _ => [.int .i64 4, .int .i64 0, .str [], .int .i64 y26, .own 3 0 0 l27.length]), .row 0 8 l27.length 34 (row TEntry.cells l27)], ⟨[0, 1, 2, 3], by decide, (show 1 ≤ 4 by decide), ⟨.optr_eq rfl ⟨_, _, _, _, rfl⟩ ⟨_, _, _, _, rfl⟩ rfl rfl, .int_eq rfl, .optr_eq rfl ⟨_, _, _, _, rfl⟩ ⟨_, _, _, _, rfl⟩ rfl rfl, .optr_eq rfl ⟨_, _, _, _, rfl⟩ ⟨_, _, _, _, rfl⟩ rfl rfl, .int_eq rfl, trivial⟩, ⟨⟨fun _ => ⟨rfl, rfl⟩, rfl, rfl, rfl, fun _ _ => ⟨.slc_eq rfl (fun _ _ => rfl), .int_eq rfl, .int_eq rfl, trivial⟩⟩, ⟨fun h0 => absurd (show 1 < 1 from h0) (by decide), rfl, rfl, rfl, fun _ _ => ⟨.int_eq rfl, .int_eq rfl, .str_eq rfl, .int_eq rfl, .nils, trivial⟩⟩, ⟨fun h0 => absurd (show 2 < 1 from h0) (by decide), rfl, rfl, rfl, fun _ _ => ⟨.int_eq rfl, .int_eq rfl, .str_eq rfl, .int_eq rfl, .own_eq rfl ⟨_, _, _, _, rfl⟩ ⟨_, _, _, _, rfl⟩ rfl rfl, trivial⟩⟩, ⟨fun h0 => absurd (show 3 < 1 from h0) (by decide), rfl, rfl, rfl, fz_row TEntry.cells_pure⟩, trivial⟩⟩, ih29 _ _ _ _ _ _ _ _ h rfl rfl⟩
          · replace h := F_dec hb32 h
            exact ⟨[(4, .optr 1 0 0 0), (5, .optr 2 0 0 0)], [.row g1000 3 1 96 (fun _ => [sl 1 cB l23, .int .i64 y24, .int .i64 y25]), .row 0 5 1 26 (fun _ => [.int .i64 0, .int .i64 0, .str [], .int .i64 0, .nils]), .row 0 5 1 26 (fun _ => [.int .i64 4, .int .i64 0, .str [], .int .i64 y26, .own 3 0 0 l27.length]), .row 0 8 l27.length 34 (row TEntry.cells l27)], ⟨[0, 1, 2, 3], by decide, (show 1 ≤ 4 by decide), ⟨.optr_eq rfl ⟨_, _, _, _, rfl⟩ ⟨_, _, _, _, rfl⟩ rfl rfl, .optr_eq rfl ⟨_, _, _, _, rfl⟩ ⟨_, _, _, _, rfl⟩ rfl rfl, trivial⟩, ⟨⟨fun _ => ⟨rfl, rfl⟩, rfl, rfl, rfl, fun _ _ => ⟨.slc_eq rfl (fun _ _ => rfl), .int_eq rfl, .int_eq rfl, trivial⟩⟩, ⟨fun h0 => absurd (show 1 < 1 from h0) (by decide), rfl, rfl, rfl, fun _ _ => ⟨.int_eq rfl, .int_eq rfl, .str_eq rfl, .int_eq rfl, .nils, trivial⟩⟩, ⟨fun h0 => absurd (show 2 < 1 from h0) (by decide), rfl, rfl, rfl, fun _ _ => ⟨.int_eq rfl, .int_eq rfl, .str_eq rfl, .int_eq rfl, .own_eq rfl ⟨_, _, _, _, rfl⟩ ⟨_, _, _, _, rfl⟩ rfl rfl, trivial⟩⟩, ⟨fun h0 => absurd (show 3 < 1 from h0) (by decide), rfl, rfl, rfl, fz_row TEntry.cells_pure⟩, trivial⟩⟩, l23, y24, y25, y26, l27, Option.some.inj h, rfl, rfl⟩
        · rintro _ _ ⟨l12, y13, y14, y15, l16, rfl, rfl, rfl⟩
          replace h := hk19
          refine .direct ?_
          refine ⟨rfl, _, rfl, ?_⟩
          refine ⟨rfl, _, fun _ => [.int .i64 4, .int .i64 0, .str [], .int .i64 y15, .own 3 0 0 l16.length], rfl, one_set rfl, ?_⟩
          obtain rfl := Option.some.inj h
          refine ⟨rfl, _, rfl, ?_⟩
          exact ⟨[0], .agg [.int .i64 ((TValue.mk 4 0 [] y15 l16).fKind), .int .i64 ((TValue.mk 4 0 [] y15 l16).fNum), .str ((TValue.mk 4 0 [] y15 l16).fStr), .int .i64 ((TValue.mk 4 0 [] y15 l16).fNext), sl 8 TEntry.cells ((TValue.mk 4 0 [] y15 l16).fItems)], [.row g1000 3 1 96 (fun _ => [sl 1 cB ((TL1Cur.mk l12 y13 y14).fB), .int .i64 ((TL1Cur.mk l12 y13 y14).fI), .int .i64 ((TL1Cur.mk l12 y13 y14).fH)])], by decide, (show 1 ≤ 1 by decide), .agg_l ⟨.int_eq rfl, .int_eq rfl, .str_eq rfl, .int_eq rfl, (fz_frz TEntry.cells_pure (by first | decide | simp) rfl shows_all), trivial⟩, ⟨⟨fun _ => ⟨rfl, rfl⟩, rfl, rfl, rfl, fun _ _ => ⟨.slc_eq rfl (fun _ _ => rfl), .int_eq rfl, .int_eq rfl, trivial⟩⟩, trivial⟩, rfl, rfl⟩
  · intro F0 F1 hF0 hF1 a1 l23 y24 y25 y26 l27 y28 o h
    exact .mk F0 hF0 F1 hF1 a1 l23 y24 y25 y26 l27 y28 o h
theorem ok50 {a0 : TL1Cur} {a1 : Int} {r : TValue × TL1Cur} {g1000 : Nat} (h : m50 a0 a1 = some r) : ACall Tryd.prog 64 [.optr 0 g1000 0 0, .int .i64 a1] [.row g1000 3 1 96 (fun _ => [sl 1 cB a0.fB, .int .i64 a0.fI, .int .i64 a0.fH])] (fun res h => res = .agg [.int .i64 r.1.fKind, .int .i64 r.1.fNum, .str r.1.fStr, .int .i64 r.1.fNext, sl 8 TEntry.cells r.1.fItems] ∧ h = [.row g1000 3 1 96 (fun _ => [sl 1 cB r.2.fB, .int .i64 r.2.fI, .int .i64 r.2.fH])]) := grp_50.1 a0 a1 r h g1000
theorem ow50 {a0 : TL1Cur} {a1 : Int} {r : TValue × TL1Cur} {g1000 : Nat} (h : m50 a0 a1 = some r) : ACall Tryd.prog 64 [.optr 0 g1000 0 0, .int .i64 a1] [.row g1000 3 1 96 (fun _ => [sl 1 cB a0.fB, .int .i64 a0.fI, .int .i64 a0.fH])] (fun res h => res = .agg [.int .i64 r.1.fKind, .int .i64 r.1.fNum, .str r.1.fStr, .int .i64 r.1.fNext, .own 1 0 0 r.1.fItems.length] ∧ h = [.row g1000 3 1 96 (fun _ => [sl 1 cB r.2.fB, .int .i64 r.2.fI, .int .i64 r.2.fH]), .row 0 8 r.1.fItems.length 34 (row TEntry.cells r.1.fItems)]) := by
  have hI66 := grp_50.2
  refine ACall.of_vc tabT_ok mixed Tryd.func64 rfl (by kernel_rfl) _ _ _ rfl (by kernel_rfl) ?_
  unfold m50 at h
  refine .direct ?_
  refine .direct ?_
  refine .direct ?_
  refine splitB.mk (fun hb1 => ?_) (fun hb1 => ?_)
  · replace h := T_dec hb1 h
    refine splitB_t ?_
    refine splitB_t ?_
    refine splitB_t ?_
    refine splitB_t ?_
    refine .direct ?_
    obtain ⟨⟨v2, v3⟩, hv4, h⟩ := bind_some h
    refine ⟨fun res h' => res = .agg [.int .i64 v2.fKind, .int .i64 v2.fNum, .str v2.fStr, .int .i64 v2.fNext, .own 2 0 0 v2.fItems.length] ∧ h' = [.row g1000 3 1 96 (fun _ => [sl 1 cB v3.fB, .int .i64 v3.fI, .int .i64 v3.fH]), .row 0 5 1 26 (fun _ => [.int .i64 0, .int .i64 0, .str [], .int .i64 0, .nils]), .row 0 8 v2.fItems.length 34 (row TEntry.cells v2.fItems)], (ACall.over (ow89 (g1000 := g1000) hv4) [0] [.row g1000 3 1 96 (fun _ => [sl 1 cB a0.fB, .int .i64 a0.fI, .int .i64 a0.fH]), .row 0 5 1 26 (fun _ => [.int .i64 0, .int .i64 0, .str [], .int .i64 0, .nils])] rfl (by decide) (by simp) (by intro j o hj; exact match j, hj with | 0, hj => by cases hj; rfl | j + 1, hj => by cases hj) rfl).mono (by rintro _ _ ⟨_, _, ⟨rfl, rfl⟩, rfl, rfl⟩; exact ⟨rfl, (by simp only [nxtL, putSel, List.map_cons, List.map_nil, List.drop, List.length_cons, List.length_nil, renO_row TEntry.cells_pure]; rfl)⟩), ?_⟩
    rintro _ _ ⟨rfl, rfl⟩
    refine ⟨rfl, _, fun _ => [.int .i64 v2.fKind, .int .i64 v2.fNum, .str v2.fStr, .int .i64 v2.fNext, .own 2 0 0 v2.fItems.length], rfl, one_set rfl, ?_⟩
    obtain rfl := Option.some.inj h
    refine ⟨rfl, _, rfl, ?_⟩
    exact ⟨[0, 2], .agg [.int .i64 v2.fKind, .int .i64 v2.fNum, .str v2.fStr, .int .i64 v2.fNext, .own 1 0 0 v2.fItems.length], [.row g1000 3 1 96 (fun _ => [sl 1 cB v3.fB, .int .i64 v3.fI, .int .i64 v3.fH]), .row 0 8 v2.fItems.length 34 (row TEntry.cells v2.fItems)], by decide, (show 1 ≤ 2 by decide), .agg_l ⟨.int_eq rfl, .int_eq rfl, .str_eq rfl, .int_eq rfl, .own_eq rfl ⟨_, _, _, _, rfl⟩ ⟨_, _, _, _, rfl⟩ rfl rfl, trivial⟩, ⟨⟨fun _ => ⟨rfl, rfl⟩, rfl, rfl, rfl, fun _ _ => ⟨.slc_eq rfl (fun _ _ => rfl), .int_eq rfl, .int_eq rfl, trivial⟩⟩, ⟨fun h0 => absurd (show 1 < 1 from h0) (by decide), rfl, rfl, rfl, fz_row TEntry.cells_pure⟩, trivial⟩, rfl, rfl⟩
  · replace h := F_dec hb1 h
    refine splitB_f ?_
    obtain ⟨⟨v5, v6⟩, hv7, h⟩ := bind_some h
    refine ⟨fun res h' => res = .bool v5 ∧ h' = [.row g1000 3 1 96 (fun _ => [sl 1 cB v6.fB, .int .i64 v6.fI, .int .i64 v6.fH]), .row 0 5 1 26 (fun _ => [.int .i64 0, .int .i64 0, .str [], .int .i64 0, .nils])], (ACall.over (ok37 (g1000 := g1000) hv7) [0] [.row g1000 3 1 96 (fun _ => [sl 1 cB a0.fB, .int .i64 a0.fI, .int .i64 a0.fH]), .row 0 5 1 26 (fun _ => [.int .i64 0, .int .i64 0, .str [], .int .i64 0, .nils])] rfl (by decide) (by simp) (by intro j o hj; exact match j, hj with | 0, hj => by cases hj; rfl | j + 1, hj => by cases hj) rfl).mono (by rintro _ _ ⟨_, _, ⟨rfl, rfl⟩, rfl, rfl⟩; exact ⟨rfl, rfl⟩), ?_⟩
    rintro _ _ ⟨rfl, rfl⟩
    refine splitB_f ?_
    refine splitB_f ?_
    refine splitB.mk (fun hb8 => ?_) (fun hb8 => ?_)
    · have hb67 := not_F hb8
      replace h := F_var hb67 h
      refine .direct ?_
      obtain ⟨⟨v9, v10⟩, hv11, h⟩ := bind_some h
      refine ⟨fun res h' => res = .agg [.int .i64 v9.fKind, .int .i64 v9.fNum, .str v9.fStr, .int .i64 v9.fNext, .own 2 0 0 v9.fItems.length] ∧ h' = [.row g1000 3 1 96 (fun _ => [sl 1 cB v10.fB, .int .i64 v10.fI, .int .i64 v10.fH]), .row 0 5 1 26 (fun _ => [.int .i64 0, .int .i64 0, .str [], .int .i64 0, .nils]), .row 0 8 v9.fItems.length 34 (row TEntry.cells v9.fItems)], (ACall.over (ow89 (g1000 := g1000) hv11) [0] [.row g1000 3 1 96 (fun _ => [sl 1 cB v6.fB, .int .i64 v6.fI, .int .i64 v6.fH]), .row 0 5 1 26 (fun _ => [.int .i64 0, .int .i64 0, .str [], .int .i64 0, .nils])] rfl (by decide) (by simp) (by intro j o hj; exact match j, hj with | 0, hj => by cases hj; rfl | j + 1, hj => by cases hj) rfl).mono (by rintro _ _ ⟨_, _, ⟨rfl, rfl⟩, rfl, rfl⟩; exact ⟨rfl, (by simp only [nxtL, putSel, List.map_cons, List.map_nil, List.drop, List.length_cons, List.length_nil, renO_row TEntry.cells_pure]; rfl)⟩), ?_⟩
      rintro _ _ ⟨rfl, rfl⟩
      refine ⟨rfl, _, fun _ => [.int .i64 v9.fKind, .int .i64 v9.fNum, .str v9.fStr, .int .i64 v9.fNext, .own 2 0 0 v9.fItems.length], rfl, one_set rfl, ?_⟩
      obtain rfl := Option.some.inj h
      refine ⟨rfl, _, rfl, ?_⟩
      exact ⟨[0, 2], .agg [.int .i64 v9.fKind, .int .i64 v9.fNum, .str v9.fStr, .int .i64 v9.fNext, .own 1 0 0 v9.fItems.length], [.row g1000 3 1 96 (fun _ => [sl 1 cB v10.fB, .int .i64 v10.fI, .int .i64 v10.fH]), .row 0 8 v9.fItems.length 34 (row TEntry.cells v9.fItems)], by decide, (show 1 ≤ 2 by decide), .agg_l ⟨.int_eq rfl, .int_eq rfl, .str_eq rfl, .int_eq rfl, .own_eq rfl ⟨_, _, _, _, rfl⟩ ⟨_, _, _, _, rfl⟩ rfl rfl, trivial⟩, ⟨⟨fun _ => ⟨rfl, rfl⟩, rfl, rfl, rfl, fun _ _ => ⟨.slc_eq rfl (fun _ _ => rfl), .int_eq rfl, .int_eq rfl, trivial⟩⟩, ⟨fun h0 => absurd (show 1 < 1 from h0) (by decide), rfl, rfl, rfl, fz_row TEntry.cells_pure⟩, trivial⟩, rfl, rfl⟩
    · have hb67 := not_T hb8
      replace h := T_var hb67 h
      refine .direct ?_
      refine ⟨_, ACall.pure0 (ok_s_ArrayValuex) _ rfl (fun _ => rfl), ?_⟩
      rintro _ _ ⟨rfl, rfl⟩
      refine ⟨rfl, _, fun _ => [.int .i64 4, .int .i64 0, .str [], .int .i64 0, .nils], rfl, one_set rfl, ?_⟩
      obtain ⟨o17, ho18, hk19⟩ := bind_some h
      replace h := ho18
      refine .cut (fun σ η => ∃ l12, ∃ y13, ∃ y14, ∃ y15, ∃ l16, (l12, y13, y14, y15, l16) = o17 ∧ σ = [(4, .optr 1 0 0 0), (5, .optr 2 0 0 0)] ∧ η = [.row g1000 3 1 96 (fun _ => [sl 1 cB l12, .int .i64 y13, .int .i64 y14]), .row 0 5 1 26 (fun _ => [.int .i64 0, .int .i64 0, .str [], .int .i64 0, .nils]), .row 0 5 1 26 (fun _ => [.int .i64 4, .int .i64 0, .str [], .int .i64 y15, .own 3 0 0 l16.length]), .row 0 8 l16.length 34 (row TEntry.cells l16)]) ?_ ?_
      · refine .direct ?_
        obtain ⟨⟨v20, v21⟩, hv22, h⟩ := bind_some h
        refine ⟨fun res h' => res = .int .i64 v20 ∧ h' = [.row g1000 3 1 96 (fun _ => [sl 1 cB v21.fB, .int .i64 v21.fI, .int .i64 v21.fH]), .row 0 5 1 26 (fun _ => [.int .i64 0, .int .i64 0, .str [], .int .i64 0, .nils]), .row 0 5 1 26 (fun _ => [.int .i64 4, .int .i64 0, .str [], .int .i64 0, .nils])], (ACall.over (ok40 (g1000 := g1000) hv22) [0] [.row g1000 3 1 96 (fun _ => [sl 1 cB v6.fB, .int .i64 v6.fI, .int .i64 v6.fH]), .row 0 5 1 26 (fun _ => [.int .i64 0, .int .i64 0, .str [], .int .i64 0, .nils]), .row 0 5 1 26 (fun _ => [.int .i64 4, .int .i64 0, .str [], .int .i64 0, .nils])] rfl (by decide) (by simp) (by intro j o hj; exact match j, hj with | 0, hj => by cases hj; rfl | j + 1, hj => by cases hj) rfl).mono (by rintro _ _ ⟨_, _, ⟨rfl, rfl⟩, rfl, rfl⟩; exact ⟨rfl, rfl⟩), ?_⟩
        rintro _ _ ⟨rfl, rfl⟩
        have hL65 := hI66 _ _ _ _ _ _ _ _ h
        refine LoopAt.enter [(0, .optr 0 g1000 0 0), (1, .int .i64 a1), (4, .optr 1 0 0 0), (5, .optr 2 0 0 0), (6, .int .i64 v20)] [.row g1000 3 1 96 (fun _ => [sl 1 cB v21.fB, .int .i64 v21.fI, .int .i64 v21.fH]), .row 0 5 1 26 (fun _ => [.int .i64 0, .int .i64 0, .str [], .int .i64 0, .nils]), .row 0 5 1 26 (fun _ => [.int .i64 4, .int .i64 0, .str [], .int .i64 0, .own 3 0 0 ([] : List TEntry).length]), .row 0 8 ([] : List TEntry).length 34 (row TEntry.cells ([] : List TEntry))] ⟨[0, 1, 2, 6], by decide, (show 1 ≤ 4 by decide), ⟨.optr_eq rfl ⟨_, _, _, _, rfl⟩ ⟨_, _, _, _, rfl⟩ rfl rfl, .int_eq rfl, .optr_eq rfl ⟨_, _, _, _, rfl⟩ ⟨_, _, _, _, rfl⟩ rfl rfl, .optr_eq rfl ⟨_, _, _, _, rfl⟩ ⟨_, _, _, _, rfl⟩ rfl rfl, .int_eq rfl, trivial⟩, ⟨⟨fun _ => ⟨rfl, rfl⟩, rfl, rfl, rfl, fun _ _ => ⟨.slc_eq rfl (fun _ _ => rfl), .int_eq rfl, .int_eq rfl, trivial⟩⟩, ⟨fun h0 => absurd (show 1 < 1 from h0) (by decide), rfl, rfl, rfl, fun _ _ => ⟨.int_eq rfl, .int_eq rfl, .str_eq rfl, .int_eq rfl, .nils, trivial⟩⟩, ⟨fun h0 => absurd (show 2 < 1 from h0) (by decide), rfl, rfl, rfl, fun _ _ => ⟨.int_eq rfl, .int_eq rfl, .str_eq rfl, .int_eq rfl, (.nilo _ _ _ _ _ _ rfl rfl rfl), trivial⟩⟩, ⟨(show 1 ≤ 3 by decide), rfl⟩, trivial⟩⟩ ?_
        refine m50_L2_ind (motive := fun p64 l23 y24 y25 y26 l27 y28 o62 => a1 = p64 → o17 = o62 → LoopAt _ _ [(0, .optr 0 g1000 0 0), (1, .int .i64 a1), (4, .optr 1 0 0 0), (5, .optr 2 0 0 0), (6, .int .i64 y28)] [.row g1000 3 1 96 (fun _ => [sl 1 cB l23, .int .i64 y24, .int .i64 y25]), .row 0 5 1 26 (fun _ => [.int .i64 0, .int .i64 0, .str [], .int .i64 0, .nils]), .row 0 5 1 26 (fun _ => [.int .i64 4, .int .i64 0, .str [], .int .i64 y26, .own 3 0 0 l27.length]), .row 0 8 l27.length 34 (row TEntry.cells l27)]) ?_ a1 v21.fB v21.fI v21.fH 0 ([] : List TEntry) v20 o17 hL65 rfl rfl
        intro _ hG31 _ _ p64 l23 y24 y25 y26 l27 y28 o62 h ih29  hp_p64 hr63
        subst hp_p64
        subst hr63
        refine LoopAt.round ?_
        refine .direct ?_
        refine .direct ?_
        refine splitB.mk (fun hb32 => ?_) (fun hb32 => ?_)
        · replace h := T_dec hb32 h
          refine .direct ?_
          refine .direct ?_
          obtain ⟨⟨v33, v34⟩, hv35, h⟩ := bind_some h
          refine ⟨fun res h' => res = .agg [.bool v33.fText, .int .i64 v33.fNum, .str v33.fStr] ∧ h' = [.row g1000 3 1 96 (fun _ => [sl 1 cB v34.fB, .int .i64 v34.fI, .int .i64 v34.fH]), .row 0 5 1 26 (fun _ => [.int .i64 0, .int .i64 0, .str [], .int .i64 0, .nils]), .row 0 5 1 26 (fun _ => [.int .i64 4, .int .i64 0, .str [], .int .i64 y26, .own 3 0 0 l27.length]), .row 0 8 l27.length 34 (row TEntry.cells l27)], (ACall.over (ok47 (g1000 := g1000) hv35) [0] [.row g1000 3 1 96 (fun _ => [sl 1 cB l23, .int .i64 y24, .int .i64 y25]), .row 0 5 1 26 (fun _ => [.int .i64 0, .int .i64 0, .str [], .int .i64 0, .nils]), .row 0 5 1 26 (fun _ => [.int .i64 4, .int .i64 0, .str [], .int .i64 y26, .own 3 0 0 l27.length]), .row 0 8 l27.length 34 (row TEntry.cells l27)] rfl (by decide) (by simp) (by intro j o hj; exact match j, hj with | 0, hj => by cases hj; rfl | j + 1, hj => by cases hj) rfl).mono (by rintro _ _ ⟨_, _, ⟨rfl, rfl⟩, rfl, rfl⟩; exact ⟨rfl, rfl⟩), ?_⟩
          rintro _ _ ⟨rfl, rfl⟩
          refine ⟨rfl, _, fun _ => [.bool v33.fText, .int .i64 v33.fNum, .str v33.fStr], rfl, one_set rfl, ?_⟩
          obtain ⟨o42, ho43, hk44⟩ := bind_some h
          replace h := ho43
          refine .cut (fun σ η => ∃ l36, ∃ y37, ∃ y38, ∃ b39, ∃ y40, ∃ s41, (l36, y37, y38, b39, y40, s41) = o42 ∧ σ = [(0, .optr 0 g1000 0 0), (1, .int .i64 a1), (4, .optr 1 0 0 0), (5, .optr 2 0 0 0), (6, .int .i64 y28), (7, .optr 4 0 0 0)] ∧ η = [.row g1000 3 1 96 (fun _ => [sl 1 cB l36, .int .i64 y37, .int .i64 y38]), .row 0 5 1 26 (fun _ => [.int .i64 0, .int .i64 0, .str [], .int .i64 0, .nils]), .row 0 5 1 26 (fun _ => [.int .i64 4, .int .i64 0, .str [], .int .i64 y26, .own 3 0 0 l27.length]), .row 0 8 l27.length 34 (row TEntry.cells l27), .row 0 3 1 32 (fun _ => [.bool b39, .int .i64 y40, .str s41])]) ?_ ?_
          · refine .direct ?_
            obtain ⟨⟨v45, v46⟩, hv47, h⟩ := bind_some h
            refine ⟨fun res h' => res = .bool v45 ∧ h' = [.row g1000 3 1 96 (fun _ => [sl 1 cB v46.fB, .int .i64 v46.fI, .int .i64 v46.fH]), .row 0 5 1 26 (fun _ => [.int .i64 0, .int .i64 0, .str [], .int .i64 0, .nils]), .row 0 5 1 26 (fun _ => [.int .i64 4, .int .i64 0, .str [], .int .i64 y26, .own 3 0 0 l27.length]), .row 0 8 l27.length 34 (row TEntry.cells l27), .row 0 3 1 32 (fun _ => [.bool v33.fText, .int .i64 v33.fNum, .str v33.fStr])], (ACall.over (ok37 (g1000 := g1000) hv47) [0] [.row g1000 3 1 96 (fun _ => [sl 1 cB v34.fB, .int .i64 v34.fI, .int .i64 v34.fH]), .row 0 5 1 26 (fun _ => [.int .i64 0, .int .i64 0, .str [], .int .i64 0, .nils]), .row 0 5 1 26 (fun _ => [.int .i64 4, .int .i64 0, .str [], .int .i64 y26, .own 3 0 0 l27.length]), .row 0 8 l27.length 34 (row TEntry.cells l27), .row 0 3 1 32 (fun _ => [.bool v33.fText, .int .i64 v33.fNum, .str v33.fStr])] rfl (by decide) (by simp) (by intro j o hj; exact match j, hj with | 0, hj => by cases hj; rfl | j + 1, hj => by cases hj) rfl).mono (by rintro _ _ ⟨_, _, ⟨rfl, rfl⟩, rfl, rfl⟩; exact ⟨rfl, rfl⟩), ?_⟩
            rintro _ _ ⟨rfl, rfl⟩
            refine splitB.mk (fun hb48 => ?_) (fun hb48 => ?_)
            · replace h := T_var hb48 h
              refine ⟨rfl, ?_⟩
              refine splitB_t ?_
              refine ⟨rfl, _, rfl, ?_⟩
              refine splitB_t ?_
              refine splitB_t ?_
              refine splitB.mk (fun hb49 => ?_) (fun hb49 => ?_)
              · replace h := T_dec hb49 h
                refine ⟨rfl, ?_⟩
                refine ⟨rfl, _, rfl, ?_⟩
                refine ⟨rfl, _, fun _ => [.bool false, .int .i64 y26, .str []], rfl, one_set rfl, ?_⟩
                exact ⟨[(0, .optr 0 g1000 0 0), (1, .int .i64 a1), (4, .optr 1 0 0 0), (5, .optr 2 0 0 0), (6, .int .i64 y28), (7, .optr 4 0 0 0)], [.row g1000 3 1 96 (fun _ => [sl 1 cB v46.fB, .int .i64 v46.fI, .int .i64 v46.fH]), .row 0 5 1 26 (fun _ => [.int .i64 0, .int .i64 0, .str [], .int .i64 0, .nils]), .row 0 5 1 26 (fun _ => [.int .i64 4, .int .i64 0, .str [], .int .i64 y26, .own 3 0 0 l27.length]), .row 0 8 l27.length 34 (row TEntry.cells l27), .row 0 3 1 32 (fun _ => [.bool false, .int .i64 y26, .str []])], ⟨[0, 1, 2, 3, 4], by decide, (show 1 ≤ 5 by decide), ⟨.optr_eq rfl ⟨_, _, _, _, rfl⟩ ⟨_, _, _, _, rfl⟩ rfl rfl, .int_eq rfl, .optr_eq rfl ⟨_, _, _, _, rfl⟩ ⟨_, _, _, _, rfl⟩ rfl rfl, .optr_eq rfl ⟨_, _, _, _, rfl⟩ ⟨_, _, _, _, rfl⟩ rfl rfl, .int_eq rfl, .optr_eq rfl ⟨_, _, _, _, rfl⟩ ⟨_, _, _, _, rfl⟩ rfl rfl, trivial⟩, ⟨⟨fun _ => ⟨rfl, rfl⟩, rfl, rfl, rfl, fun _ _ => ⟨.slc_eq rfl (fun _ _ => rfl), .int_eq rfl, .int_eq rfl, trivial⟩⟩, ⟨fun h0 => absurd (show 1 < 1 from h0) (by decide), rfl, rfl, rfl, fun _ _ => ⟨.int_eq rfl, .int_eq rfl, .str_eq rfl, .int_eq rfl, .nils, trivial⟩⟩, ⟨fun h0 => absurd (show 2 < 1 from h0) (by decide), rfl, rfl, rfl, fun _ _ => ⟨.int_eq rfl, .int_eq rfl, .str_eq rfl, .int_eq rfl, .own_eq rfl ⟨_, _, _, _, rfl⟩ ⟨_, _, _, _, rfl⟩ rfl rfl, trivial⟩⟩, ⟨fun h0 => absurd (show 3 < 1 from h0) (by decide), rfl, rfl, rfl, fz_row TEntry.cells_pure⟩, ⟨fun h0 => absurd (show 4 < 1 from h0) (by decide), rfl, rfl, rfl, fun _ _ => ⟨.bool_eq rfl, .int_eq rfl, .str_eq rfl, trivial⟩⟩, trivial⟩⟩, v46.fB, v46.fI, v46.fH, false, y26, [], Option.some.inj h, rfl, rfl⟩
              · replace h := F_dec hb49 h
                exact ⟨[(0, .optr 0 g1000 0 0), (1, .int .i64 a1), (4, .optr 1 0 0 0), (5, .optr 2 0 0 0), (6, .int .i64 y28), (7, .optr 4 0 0 0)], [.row g1000 3 1 96 (fun _ => [sl 1 cB v46.fB, .int .i64 v46.fI, .int .i64 v46.fH]), .row 0 5 1 26 (fun _ => [.int .i64 0, .int .i64 0, .str [], .int .i64 0, .nils]), .row 0 5 1 26 (fun _ => [.int .i64 4, .int .i64 0, .str [], .int .i64 y26, .own 3 0 0 l27.length]), .row 0 8 l27.length 34 (row TEntry.cells l27), .row 0 3 1 32 (fun _ => [.bool v33.fText, .int .i64 v33.fNum, .str v33.fStr])], ⟨[0, 1, 2, 3, 4], by decide, (show 1 ≤ 5 by decide), ⟨.optr_eq rfl ⟨_, _, _, _, rfl⟩ ⟨_, _, _, _, rfl⟩ rfl rfl, .int_eq rfl, .optr_eq rfl ⟨_, _, _, _, rfl⟩ ⟨_, _, _, _, rfl⟩ rfl rfl, .optr_eq rfl ⟨_, _, _, _, rfl⟩ ⟨_, _, _, _, rfl⟩ rfl rfl, .int_eq rfl, .optr_eq rfl ⟨_, _, _, _, rfl⟩ ⟨_, _, _, _, rfl⟩ rfl rfl, trivial⟩, ⟨⟨fun _ => ⟨rfl, rfl⟩, rfl, rfl, rfl, fun _ _ => ⟨.slc_eq rfl (fun _ _ => rfl), .int_eq rfl, .int_eq rfl, trivial⟩⟩, ⟨fun h0 => absurd (show 1 < 1 from h0) (by decide), rfl, rfl, rfl, fun _ _ => ⟨.int_eq rfl, .int_eq rfl, .str_eq rfl, .int_eq rfl, .nils, trivial⟩⟩, ⟨fun h0 => absurd (show 2 < 1 from h0) (by decide), rfl, rfl, rfl, fun _ _ => ⟨.int_eq rfl, .int_eq rfl, .str_eq rfl, .int_eq rfl, .own_eq rfl ⟨_, _, _, _, rfl⟩ ⟨_, _, _, _, rfl⟩ rfl rfl, trivial⟩⟩, ⟨fun h0 => absurd (show 3 < 1 from h0) (by decide), rfl, rfl, rfl, fz_row TEntry.cells_pure⟩, ⟨fun h0 => absurd (show 4 < 1 from h0) (by decide), rfl, rfl, rfl, fun _ _ => ⟨.bool_eq rfl, .int_eq rfl, .str_eq rfl, trivial⟩⟩, trivial⟩⟩, v46.fB, v46.fI, v46.fH, v33.fText, v33.fNum, v33.fStr, Option.some.inj h, rfl, rfl⟩
            · replace h := F_var hb48 h
              refine splitB_f ?_
              refine splitB_f ?_
              refine splitB_f ?_
              refine splitB_f ?_
              exact ⟨[(0, .optr 0 g1000 0 0), (1, .int .i64 a1), (4, .optr 1 0 0 0), (5, .optr 2 0 0 0), (6, .int .i64 y28), (7, .optr 4 0 0 0)], [.row g1000 3 1 96 (fun _ => [sl 1 cB v46.fB, .int .i64 v46.fI, .int .i64 v46.fH]), .row 0 5 1 26 (fun _ => [.int .i64 0, .int .i64 0, .str [], .int .i64 0, .nils]), .row 0 5 1 26 (fun _ => [.int .i64 4, .int .i64 0, .str [], .int .i64 y26, .own 3 0 0 l27.length]), .row 0 8 l27.length 34 (row TEntry.cells l27), .row 0 3 1 32 (fun _ => [.bool v33.fText, .int .i64 v33.fNum, .str v33.fStr])], ⟨[0, 1, 2, 3, 4], by decide, (show 1 ≤ 5 by decide), ⟨.optr_eq rfl ⟨_, _, _, _, rfl⟩ ⟨_, _, _, _, rfl⟩ rfl rfl, .int_eq rfl, .optr_eq rfl ⟨_, _, _, _, rfl⟩ ⟨_, _, _, _, rfl⟩ rfl rfl, .optr_eq rfl ⟨_, _, _, _, rfl⟩ ⟨_, _, _, _, rfl⟩ rfl rfl, .int_eq rfl, .optr_eq rfl ⟨_, _, _, _, rfl⟩ ⟨_, _, _, _, rfl⟩ rfl rfl, trivial⟩, ⟨⟨fun _ => ⟨rfl, rfl⟩, rfl, rfl, rfl, fun _ _ => ⟨.slc_eq rfl (fun _ _ => rfl), .int_eq rfl, .int_eq rfl, trivial⟩⟩, ⟨fun h0 => absurd (show 1 < 1 from h0) (by decide), rfl, rfl, rfl, fun _ _ => ⟨.int_eq rfl, .int_eq rfl, .str_eq rfl, .int_eq rfl, .nils, trivial⟩⟩, ⟨fun h0 => absurd (show 2 < 1 from h0) (by decide), rfl, rfl, rfl, fun _ _ => ⟨.int_eq rfl, .int_eq rfl, .str_eq rfl, .int_eq rfl, .own_eq rfl ⟨_, _, _, _, rfl⟩ ⟨_, _, _, _, rfl⟩ rfl rfl, trivial⟩⟩, ⟨fun h0 => absurd (show 3 < 1 from h0) (by decide), rfl, rfl, rfl, fz_row TEntry.cells_pure⟩, ⟨fun h0 => absurd (show 4 < 1 from h0) (by decide), rfl, rfl, rfl, fun _ _ => ⟨.bool_eq rfl, .int_eq rfl, .str_eq rfl, trivial⟩⟩, trivial⟩⟩, v46.fB, v46.fI, v46.fH, v33.fText, v33.fNum, v33.fStr, Option.some.inj h, rfl, rfl⟩
          · rintro _ _ ⟨l36, y37, y38, b39, y40, s41, rfl, rfl, rfl⟩
            replace h := hk44
            refine .direct ?_
            refine ⟨rfl, _, rfl, ?_⟩
            refine ⟨rfl, _, rfl, ?_⟩
            obtain ⟨v50, hv51, h⟩ := bind_some h
            refine ⟨_, ACall.snap0 (args := [.agg [.int .i64 4, .int .i64 0, .str [], .int .i64 y26, .own 3 0 0 l27.length], .agg [.bool b39, .int .i64 y40, .str s41]]) (ok90 hv51) [.row g1000 3 1 96 (fun _ => [sl 1 cB l36, .int .i64 y37, .int .i64 y38]), .row 0 5 1 26 (fun _ => [.int .i64 0, .int .i64 0, .str [], .int .i64 0, .nils]), .row 0 5 1 26 (fun _ => [.int .i64 4, .int .i64 0, .str [], .int .i64 y26, .own 3 0 0 l27.length]), .row 0 8 l27.length 34 (row TEntry.cells l27), .row 0 3 1 32 (fun _ => [.bool b39, .int .i64 y40, .str s41])] ⟨.agg_l ⟨.int_eq rfl, .int_eq rfl, .str_eq rfl, .int_eq rfl, (fz_snap TEntry.cells_pure rfl shows_all), trivial⟩, .agg_l ⟨.bool_eq rfl, .int_eq rfl, .str_eq rfl, trivial⟩, trivial⟩ rfl rfl (fun _ => rfl), ?_⟩
            rintro _ _ ⟨rfl, rfl⟩
            refine splitB.mk (fun hb52 => ?_) (fun hb52 => ?_)
            · replace h := T_dec hb52 h
              refine .direct ?_
              refine .float [(0, true), (1, true), (2, true), (3, true), (4, true), (5, true), (6, false), (7, true), (8, false), (9, false), (10, true), (11, false)] (by kernel_rfl) ?_
              refine ⟨rfl, ?_⟩
              refine ⟨rfl, _, rfl, ?_⟩
              refine ⟨rfl, _, rfl, ?_⟩
              obtain ⟨⟨v53, v54⟩, hv55, h⟩ := bind_some h
              refine ⟨fun res h' => res = .agg [.int .i64 v53.fKind, .int .i64 v53.fNum, .str v53.fStr, .int .i64 v53.fNext, sl 8 TEntry.cells v53.fItems] ∧ h' = [.row g1000 3 1 96 (fun _ => [sl 1 cB v54.fB, .int .i64 v54.fI, .int .i64 v54.fH]), .row 0 5 1 26 (fun _ => [.int .i64 0, .int .i64 0, .str [], .int .i64 0, .nils]), .row 0 5 1 26 (fun _ => [.int .i64 4, .int .i64 0, .str [], .int .i64 y26, .own 3 0 0 l27.length]), .row 0 8 l27.length 34 (row TEntry.cells l27), .row 0 3 1 32 (fun _ => [.bool b39, .int .i64 y40, .str s41])], (ACall.over (hG31 _ _ _ hv55 _) [0] [.row g1000 3 1 96 (fun _ => [sl 1 cB l36, .int .i64 y37, .int .i64 y38]), .row 0 5 1 26 (fun _ => [.int .i64 0, .int .i64 0, .str [], .int .i64 0, .nils]), .row 0 5 1 26 (fun _ => [.int .i64 4, .int .i64 0, .str [], .int .i64 y26, .own 3 0 0 l27.length]), .row 0 8 l27.length 34 (row TEntry.cells l27), .row 0 3 1 32 (fun _ => [.bool b39, .int .i64 y40, .str s41])] rfl (by decide) (by simp) (by intro j o hj; exact match j, hj with | 0, hj => by cases hj; rfl | j + 1, hj => by cases hj) rfl).mono (by rintro _ _ ⟨_, _, ⟨rfl, rfl⟩, rfl, rfl⟩; exact ⟨rfl, rfl⟩), ?_⟩
              rintro _ _ ⟨rfl, rfl⟩
              refine ⟨rfl, ?_⟩
              refine ⟨rfl, ?_⟩
              refine ⟨rfl, ?_⟩
              refine ⟨row TEntry.cells ([(TEntry.mk (TKey.mk b39 y40 s41) v53)] : List TEntry), row_lit TEntry.cells ([(TEntry.mk (TKey.mk b39 y40 s41) v53)] : List TEntry) rfl (cll_cons (TEntry.cells_eq _) ⟨.same _, .same _, .same _, .same _, .same _, .same _, .same _, .same _, trivial⟩ trivial), ?_⟩
              refine ⟨rfl, ?_⟩
              refine ⟨rfl, ?_⟩
              obtain ⟨l56, hx57, h⟩ := bind_some h
              refine ⟨rfl, rfl, lapp_bd hx57, l56.length, row TEntry.cells l56, lapp_len hx57, lapp_row hx57 shows_all (src_own shows_all), ?_⟩
              refine ⟨rfl, ?_⟩
              refine ⟨rfl, _, fun _ => [.int .i64 4, .int .i64 0, .str [], .int .i64 y26, .own 3 (0 + 1) 0 l56.length], rfl, one_set rfl, ?_⟩
              refine .direct ?_
              refine ⟨rfl, ?_⟩
              refine ⟨rfl, _, rfl, ?_⟩
              refine splitB.mk (fun hb58 => ?_) (fun hb58 => ?_)
              · have hb61 := not_F hb58
                replace h := F_var hb61 h
                refine ⟨rfl, ?_⟩
                refine ⟨rfl, _, rfl, ?_⟩
                refine ⟨rfl, ?_⟩
                refine ⟨rfl, _, rfl, ?_⟩
                obtain ⟨v59, hv60, h⟩ := bind_some h
                refine ⟨_, ACall.pure0 (ok91 hv60) _ rfl (fun _ => rfl), ?_⟩
                rintro _ _ ⟨rfl, rfl⟩
                refine ⟨rfl, ?_⟩
                refine ⟨rfl, _, fun _ => [.int .i64 4, .int .i64 0, .str [], .int .i64 v59, .own 3 (0 + 1) 0 l56.length], rfl, one_set rfl, ?_⟩
                exact ⟨[(0, .optr 0 g1000 0 0), (1, .int .i64 a1), (4, .optr 1 0 0 0), (5, .optr 2 0 0 0), (6, .int .i64 (W64 (y28 - 1)))], [.row g1000 3 1 96 (fun _ => [sl 1 cB v54.fB, .int .i64 v54.fI, .int .i64 v54.fH]), .row 0 5 1 26 (fun _ => [.int .i64 0, .int .i64 0, .str [], .int .i64 0, .nils]), .row 0 5 1 26 (fun _ => [.int .i64 4, .int .i64 0, .str [], .int .i64 v59, .own 3 0 0 l56.length]), .row 0 8 l56.length 34 (row TEntry.cells l56)], ⟨[0, 1, 2, 3], by decide, (show 1 ≤ 4 by decide), ⟨.optr_eq rfl ⟨_, _, _, _, rfl⟩ ⟨_, _, _, _, rfl⟩ rfl rfl, .int_eq rfl, .optr_eq rfl ⟨_, _, _, _, rfl⟩ ⟨_, _, _, _, rfl⟩ rfl rfl, .optr_eq rfl ⟨_, _, _, _, rfl⟩ ⟨_, _, _, _, rfl⟩ rfl rfl, .int_eq rfl, trivial⟩, ⟨⟨fun _ => ⟨rfl, rfl⟩, rfl, rfl, rfl, fun _ _ => ⟨.slc_eq rfl (fun _ _ => rfl), .int_eq rfl, .int_eq rfl, trivial⟩⟩, ⟨fun h0 => absurd (show 1 < 1 from h0) (by decide), rfl, rfl, rfl, fun _ _ => ⟨.int_eq rfl, .int_eq rfl, .str_eq rfl, .int_eq rfl, .nils, trivial⟩⟩, ⟨fun h0 => absurd (show 2 < 1 from h0) (by decide), rfl, rfl, rfl, fun _ _ => ⟨.int_eq rfl, .int_eq rfl, .str_eq rfl, .int_eq rfl, .own_eq rfl ⟨_, _, _, _, rfl⟩ ⟨_, _, _, _, rfl⟩ rfl rfl, trivial⟩⟩, ⟨fun h0 => absurd (show 3 < 1 from h0) (by decide), rfl, rfl, rfl, fz_row TEntry.cells_pure⟩, trivial⟩⟩, ih29 _ _ _ _ _ _ _ _ h rfl rfl⟩
              · have hb61 := not_T hb58
                replace h := T_var hb61 h
                exact ⟨[(0, .optr 0 g1000 0 0), (1, .int .i64 a1), (4, .optr 1 0 0 0), (5, .optr 2 0 0 0), (6, .int .i64 (W64 (y28 - 1)))], [.row g1000 3 1 96 (fun _ => [sl 1 cB v54.fB, .int .i64 v54.fI, .int .i64 v54.fH]), .row 0 5 1 26 (fun _ => [.int .i64 0, .int .i64 0, .str [], .int .i64 0, .nils]), .row 0 5 1 26 (fun _ => [.int .i64 4, .int .i64 0, .str [], .int .i64 y26, .own 3 0 0 l56.length]), .row 0 8 l56.length 34 (row TEntry.cells l56)], ⟨[0, 1, 2, 3], by decide, (show 1 ≤ 4 by decide), ⟨.optr_eq rfl ⟨_, _, _, _, rfl⟩ ⟨_, _, _, _, rfl⟩ rfl rfl, .int_eq rfl, .optr_eq rfl ⟨_, _, _, _, rfl⟩ ⟨_, _, _, _, rfl⟩ rfl rfl, .optr_eq rfl ⟨_, _, _, _, rfl⟩ ⟨_, _, _, _, rfl⟩ rfl rfl, .int_eq rfl, trivial⟩, ⟨⟨fun _ => ⟨rfl, rfl⟩, rfl, rfl, rfl, fun _ _ => ⟨.slc_eq rfl (fun _ _ => rfl), .int_eq rfl, .int_eq rfl, trivial⟩⟩, ⟨fun h0 => absurd (show 1 < 1 from h0) (by decide), rfl, rfl, rfl, fun _ _ => ⟨.int_eq rfl, .int_eq rfl, .str_eq rfl, .int_eq rfl, .nils, trivial⟩⟩, ⟨fun h0 => absurd (show 2 < 1 from h0) (by decide), rfl, rfl, rfl, fun _ _ => ⟨.int_eq rfl, .int_eq rfl, .str_eq rfl, .int_eq rfl, .own_eq rfl ⟨_, _, _, _, rfl⟩ ⟨_, _, _, _, rfl⟩ rfl rfl, trivial⟩⟩, ⟨fun h0 => absurd (show 3 < 1 from h0) (by decide), rfl, rfl, rfl, fz_row TEntry.cells_pure⟩, trivial⟩⟩, ih29 _ _ _ _ _ _ _ _ h rfl rfl⟩
            · replace h := F_dec hb52 h
              exact ⟨[(0, .optr 0 g1000 0 0), (1, .int .i64 a1), (4, .optr 1 0 0 0), (5, .optr 2 0 0 0), (6, .int .i64 (W64 (y28 - 1)))], [.row g1000 3 1 96 (fun _ => [sl 1 cB l36, .int .i64 y37, .int .i64 y38]), .row 0 5 1 26 (fun _ => [.int .i64 0, .int .i64 0, .str [], .int .i64 0, .nils]), .row 0 5 1 26 (fun _ => [.int .i64 4, .int .i64 0, .str [], .int .i64 y26, .own 3 0 0 l27.length]), .row 0 8 l27.length 34 (row TEntry.cells l27)], ⟨[0, 1, 2, 3], by decide, (show 1 ≤ 4 by decide), ⟨.optr_eq rfl ⟨_, _, _, _, rfl⟩ ⟨_, _, _, _, rfl⟩ rfl rfl, .int_eq rfl, .optr_eq rfl ⟨_, _, _, _, rfl⟩ ⟨_, _, _, _, rfl⟩ rfl rfl, .optr_eq rfl ⟨_, _, _, _, rfl⟩ ⟨_, _, _, _, rfl⟩ rfl rfl, .int_eq rfl, trivial⟩, ⟨⟨fun _ => ⟨rfl, rfl⟩, rfl, rfl, rfl, fun _ _ => ⟨.slc_eq rfl (fun _ _ => rfl), .int_eq rfl, .int_eq rfl, trivial⟩⟩, ⟨fun h0 => absurd (show 1 < 1 from h0) (by decide), rfl, rfl, rfl, fun _ _ => ⟨.int_eq rfl, .int_eq rfl, .str_eq rfl, .int_eq rfl, .nils, trivial⟩⟩, ⟨fun h0 => absurd (show 2 < 1 from h0) (by decide), rfl, rfl, rfl, fun _ _ => ⟨.int_eq rfl, .int_eq rfl, .str_eq rfl, .int_eq rfl, .own_eq rfl ⟨_, _, _, _, rfl⟩ ⟨_, _, _, _, rfl⟩ rfl rfl, trivial⟩⟩, ⟨fun h0 => absurd (show 3 < 1 from h0) (by decide), rfl, rfl, rfl, fz_row TEntry.cells_pure⟩, trivial⟩⟩, ih29 _ _ _ _ _ _ _ _ h rfl rfl⟩
        · replace h := F_dec hb32 h
          exact ⟨[(4, .optr 1 0 0 0), (5, .optr 2 0 0 0)], [.row g1000 3 1 96 (fun _ => [sl 1 cB l23, .int .i64 y24, .int .i64 y25]), .row 0 5 1 26 (fun _ => [.int .i64 0, .int .i64 0, .str [], .int .i64 0, .nils]), .row 0 5 1 26 (fun _ => [.int .i64 4, .int .i64 0, .str [], .int .i64 y26, .own 3 0 0 l27.length]), .row 0 8 l27.length 34 (row TEntry.cells l27)], ⟨[0, 1, 2, 3], by decide, (show 1 ≤ 4 by decide), ⟨.optr_eq rfl ⟨_, _, _, _, rfl⟩ ⟨_, _, _, _, rfl⟩ rfl rfl, .optr_eq rfl ⟨_, _, _, _, rfl⟩ ⟨_, _, _, _, rfl⟩ rfl rfl, trivial⟩, ⟨⟨fun _ => ⟨rfl, rfl⟩, rfl, rfl, rfl, fun _ _ => ⟨.slc_eq rfl (fun _ _ => rfl), .int_eq rfl, .int_eq rfl, trivial⟩⟩, ⟨fun h0 => absurd (show 1 < 1 from h0) (by decide), rfl, rfl, rfl, fun _ _ => ⟨.int_eq rfl, .int_eq rfl, .str_eq rfl, .int_eq rfl, .nils, trivial⟩⟩, ⟨fun h0 => absurd (show 2 < 1 from h0) (by decide), rfl, rfl, rfl, fun _ _ => ⟨.int_eq rfl, .int_eq rfl, .str_eq rfl, .int_eq rfl, .own_eq rfl ⟨_, _, _, _, rfl⟩ ⟨_, _, _, _, rfl⟩ rfl rfl, trivial⟩⟩, ⟨fun h0 => absurd (show 3 < 1 from h0) (by decide), rfl, rfl, rfl, fz_row TEntry.cells_pure⟩, trivial⟩⟩, l23, y24, y25, y26, l27, Option.some.inj h, rfl, rfl⟩
      · rintro _ _ ⟨l12, y13, y14, y15, l16, rfl, rfl, rfl⟩
        replace h := hk19
        refine .direct ?_
        refine ⟨rfl, _, rfl, ?_⟩
        refine ⟨rfl, _, fun _ => [.int .i64 4, .int .i64 0, .str [], .int .i64 y15, .own 3 0 0 l16.length], rfl, one_set rfl, ?_⟩
        obtain rfl := Option.some.inj h
        refine ⟨rfl, _, rfl, ?_⟩
        exact ⟨[0, 3], .agg [.int .i64 ((TValue.mk 4 0 [] y15 l16).fKind), .int .i64 ((TValue.mk 4 0 [] y15 l16).fNum), .str ((TValue.mk 4 0 [] y15 l16).fStr), .int .i64 ((TValue.mk 4 0 [] y15 l16).fNext), .own 1 0 0 ((TValue.mk 4 0 [] y15 l16).fItems).length], [.row g1000 3 1 96 (fun _ => [sl 1 cB ((TL1Cur.mk l12 y13 y14).fB), .int .i64 ((TL1Cur.mk l12 y13 y14).fI), .int .i64 ((TL1Cur.mk l12 y13 y14).fH)]), .row 0 8 ((TValue.mk 4 0 [] y15 l16).fItems).length 34 (row TEntry.cells ((TValue.mk 4 0 [] y15 l16).fItems))], by decide, (show 1 ≤ 2 by decide), .agg_l ⟨.int_eq rfl, .int_eq rfl, .str_eq rfl, .int_eq rfl, .own_eq rfl ⟨_, _, _, _, rfl⟩ ⟨_, _, _, _, rfl⟩ rfl rfl, trivial⟩, ⟨⟨fun _ => ⟨rfl, rfl⟩, rfl, rfl, rfl, fun _ _ => ⟨.slc_eq rfl (fun _ _ => rfl), .int_eq rfl, .int_eq rfl, trivial⟩⟩, ⟨fun h0 => absurd (show 1 < 1 from h0) (by decide), rfl, rfl, rfl, fz_row TEntry.cells_pure⟩, trivial⟩, rfl, rfl⟩
def m88 (a0 : TL1Cur) : Option (TValue × TL1Cur) :=
  m50 a0 3 >>= fun (v1, v2) =>
  m40 v2 14 >>= fun (v4, v5) =>
  (if v4 = 0 then
    m48 v5 >>= fun (v8, v9) =>
    some ((TValue.mk v1.fKind v8 v1.fStr v1.fNext v1.fItems), v9)
  else
    (if v4 = 1 then
      m48 v5 >>= fun (v12, v13) =>
      some ((TValue.mk v1.fKind v1.fNum v1.fStr v12 v1.fItems), v13)
    else
      (if v4 = 2 then
        m85 v5 ([(-1), 4, 5, 6, 7, 8, 9] : List Int) >>= fun (v16, v17) =>
        some ((TValue.mk v16 v1.fNum v1.fStr v1.fNext v1.fItems), v17)
      else
        (
          some ()
         : Option (Unit)) >>= fun _ =>
        (if v4 = 3 then
          m47 v5 >>= fun (v23, v24) =>
          m89 v24 >>= fun (v26, v27) =>
          lapp 96 v1.fItems ([(TEntry.mk v23 v26)] : List TEntry) >>= fun l29 =>
          some ((TValue.mk v1.fKind v1.fNum v1.fStr v1.fNext l29), v27)
        else
          (if v4 = 4 then
            m40 v5 3 >>= fun (v32, v33) =>
            m40 v33 3 >>= fun (v35, v36) =>
            some ((TValue.mk (W64 (6 + v32)) v35 [] 0 []), v36)
          else
            some (v1, v5))))))
theorem ok88 {a0 : TL1Cur} {r : TValue × TL1Cur} {g1000 : Nat} (h : m88 a0 = some r) : ACall Tryd.prog 59 [.optr 0 g1000 0 0] [.row g1000 3 1 96 (fun _ => [sl 1 cB a0.fB, .int .i64 a0.fI, .int .i64 a0.fH])] (fun res h => res = .agg [.int .i64 r.1.fKind, .int .i64 r.1.fNum, .str r.1.fStr, .int .i64 r.1.fNext, sl 8 TEntry.cells r.1.fItems] ∧ h = [.row g1000 3 1 96 (fun _ => [sl 1 cB r.2.fB, .int .i64 r.2.fI, .int .i64 r.2.fH])]) := by
  refine ACall.of_vc tabT_ok mixed Tryd.func59 rfl (by kernel_rfl) _ _ _ rfl (by kernel_rfl) ?_
  unfold m88 at h
  refine .direct ?_
  refine .direct ?_
  obtain ⟨⟨v1, v2⟩, hv3, h⟩ := bind_some h
  refine ⟨fun res h' => res = .agg [.int .i64 v1.fKind, .int .i64 v1.fNum, .str v1.fStr, .int .i64 v1.fNext, .own 2 0 0 v1.fItems.length] ∧ h' = [.row g1000 3 1 96 (fun _ => [sl 1 cB v2.fB, .int .i64 v2.fI, .int .i64 v2.fH]), .row 0 5 1 26 (fun _ => [.int .i64 0, .int .i64 0, .str [], .int .i64 0, .nils]), .row 0 8 v1.fItems.length 34 (row TEntry.cells v1.fItems)], (ACall.over (ow50 (g1000 := g1000) hv3) [0] [.row g1000 3 1 96 (fun _ => [sl 1 cB a0.fB, .int .i64 a0.fI, .int .i64 a0.fH]), .row 0 5 1 26 (fun _ => [.int .i64 0, .int .i64 0, .str [], .int .i64 0, .nils])] rfl (by decide) (by simp) (by intro j o hj; exact match j, hj with | 0, hj => by cases hj; rfl | j + 1, hj => by cases hj) rfl).mono (by rintro _ _ ⟨_, _, ⟨rfl, rfl⟩, rfl, rfl⟩; exact ⟨rfl, (by simp only [nxtL, putSel, List.map_cons, List.map_nil, List.drop, List.length_cons, List.length_nil, renO_row TEntry.cells_pure]; rfl)⟩), ?_⟩
  rintro _ _ ⟨rfl, rfl⟩
  refine ⟨rfl, _, fun _ => [.int .i64 v1.fKind, .int .i64 v1.fNum, .str v1.fStr, .int .i64 v1.fNext, .own 2 0 0 v1.fItems.length], rfl, one_set rfl, ?_⟩
  refine .direct ?_
  refine .direct ?_
  obtain ⟨⟨v4, v5⟩, hv6, h⟩ := bind_some h
  refine ⟨fun res h' => res = .int .i64 v4 ∧ h' = [.row g1000 3 1 96 (fun _ => [sl 1 cB v5.fB, .int .i64 v5.fI, .int .i64 v5.fH]), .row 0 5 1 26 (fun _ => [.int .i64 0, .int .i64 0, .str [], .int .i64 0, .nils]), .row 0 8 v1.fItems.length 34 (row TEntry.cells v1.fItems), .row 0 5 1 26 (fun _ => [.int .i64 v1.fKind, .int .i64 v1.fNum, .str v1.fStr, .int .i64 v1.fNext, .own 2 0 0 v1.fItems.length])], (ACall.over (ok40 (g1000 := g1000) hv6) [0] [.row g1000 3 1 96 (fun _ => [sl 1 cB v2.fB, .int .i64 v2.fI, .int .i64 v2.fH]), .row 0 5 1 26 (fun _ => [.int .i64 0, .int .i64 0, .str [], .int .i64 0, .nils]), .row 0 8 v1.fItems.length 34 (row TEntry.cells v1.fItems), .row 0 5 1 26 (fun _ => [.int .i64 v1.fKind, .int .i64 v1.fNum, .str v1.fStr, .int .i64 v1.fNext, .own 2 0 0 v1.fItems.length])] rfl (by decide) (by simp) (by intro j o hj; exact match j, hj with | 0, hj => by cases hj; rfl | j + 1, hj => by cases hj) rfl).mono (by rintro _ _ ⟨_, _, ⟨rfl, rfl⟩, rfl, rfl⟩; exact ⟨rfl, rfl⟩), ?_⟩
  rintro _ _ ⟨rfl, rfl⟩
  refine .direct ?_
  refine splitB.mk (fun hb7 => ?_) (fun hb7 => ?_)
  · replace h := T_beq hb7 h
    obtain ⟨⟨v8, v9⟩, hv10, h⟩ := bind_some h
    refine ⟨fun res h' => res = .int .i64 v8 ∧ h' = [.row g1000 3 1 96 (fun _ => [sl 1 cB v9.fB, .int .i64 v9.fI, .int .i64 v9.fH]), .row 0 5 1 26 (fun _ => [.int .i64 0, .int .i64 0, .str [], .int .i64 0, .nils]), .row 0 8 v1.fItems.length 34 (row TEntry.cells v1.fItems), .row 0 5 1 26 (fun _ => [.int .i64 v1.fKind, .int .i64 v1.fNum, .str v1.fStr, .int .i64 v1.fNext, .own 2 0 0 v1.fItems.length])], (ACall.over (ok48 (g1000 := g1000) hv10) [0] [.row g1000 3 1 96 (fun _ => [sl 1 cB v5.fB, .int .i64 v5.fI, .int .i64 v5.fH]), .row 0 5 1 26 (fun _ => [.int .i64 0, .int .i64 0, .str [], .int .i64 0, .nils]), .row 0 8 v1.fItems.length 34 (row TEntry.cells v1.fItems), .row 0 5 1 26 (fun _ => [.int .i64 v1.fKind, .int .i64 v1.fNum, .str v1.fStr, .int .i64 v1.fNext, .own 2 0 0 v1.fItems.length])] rfl (by decide) (by simp) (by intro j o hj; exact match j, hj with | 0, hj => by cases hj; rfl | j + 1, hj => by cases hj) rfl).mono (by rintro _ _ ⟨_, _, ⟨rfl, rfl⟩, rfl, rfl⟩; exact ⟨rfl, rfl⟩), ?_⟩
    rintro _ _ ⟨rfl, rfl⟩
    refine ⟨rfl, ?_⟩
    refine ⟨rfl, _, fun _ => [.int .i64 v1.fKind, .int .i64 v8, .str v1.fStr, .int .i64 v1.fNext, .own 2 0 0 v1.fItems.length], rfl, one_set rfl, ?_⟩
    refine .direct ?_
    refine ⟨rfl, _, rfl, ?_⟩
    refine ⟨rfl, _, fun _ => [.int .i64 v1.fKind, .int .i64 v8, .str v1.fStr, .int .i64 v1.fNext, .own 2 0 0 v1.fItems.length], rfl, one_set rfl, ?_⟩
    obtain rfl := Option.some.inj h
    refine ⟨rfl, _, rfl, ?_⟩
    exact ⟨[0], .agg [.int .i64 ((TValue.mk v1.fKind v8 v1.fStr v1.fNext v1.fItems).fKind), .int .i64 ((TValue.mk v1.fKind v8 v1.fStr v1.fNext v1.fItems).fNum), .str ((TValue.mk v1.fKind v8 v1.fStr v1.fNext v1.fItems).fStr), .int .i64 ((TValue.mk v1.fKind v8 v1.fStr v1.fNext v1.fItems).fNext), sl 8 TEntry.cells ((TValue.mk v1.fKind v8 v1.fStr v1.fNext v1.fItems).fItems)], [.row g1000 3 1 96 (fun _ => [sl 1 cB v9.fB, .int .i64 v9.fI, .int .i64 v9.fH])], by decide, (show 1 ≤ 1 by decide), .agg_l ⟨.int_eq rfl, .int_eq rfl, .str_eq rfl, .int_eq rfl, (fz_frz TEntry.cells_pure (by first | decide | simp) rfl shows_all), trivial⟩, ⟨⟨fun _ => ⟨rfl, rfl⟩, rfl, rfl, rfl, fun _ _ => ⟨.slc_eq rfl (fun _ _ => rfl), .int_eq rfl, .int_eq rfl, trivial⟩⟩, trivial⟩, rfl, rfl⟩
  · replace h := F_beq hb7 h
    refine .direct ?_
    refine splitB.mk (fun hb11 => ?_) (fun hb11 => ?_)
    · replace h := T_beq hb11 h
      obtain ⟨⟨v12, v13⟩, hv14, h⟩ := bind_some h
      refine ⟨fun res h' => res = .int .i64 v12 ∧ h' = [.row g1000 3 1 96 (fun _ => [sl 1 cB v13.fB, .int .i64 v13.fI, .int .i64 v13.fH]), .row 0 5 1 26 (fun _ => [.int .i64 0, .int .i64 0, .str [], .int .i64 0, .nils]), .row 0 8 v1.fItems.length 34 (row TEntry.cells v1.fItems), .row 0 5 1 26 (fun _ => [.int .i64 v1.fKind, .int .i64 v1.fNum, .str v1.fStr, .int .i64 v1.fNext, .own 2 0 0 v1.fItems.length])], (ACall.over (ok48 (g1000 := g1000) hv14) [0] [.row g1000 3 1 96 (fun _ => [sl 1 cB v5.fB, .int .i64 v5.fI, .int .i64 v5.fH]), .row 0 5 1 26 (fun _ => [.int .i64 0, .int .i64 0, .str [], .int .i64 0, .nils]), .row 0 8 v1.fItems.length 34 (row TEntry.cells v1.fItems), .row 0 5 1 26 (fun _ => [.int .i64 v1.fKind, .int .i64 v1.fNum, .str v1.fStr, .int .i64 v1.fNext, .own 2 0 0 v1.fItems.length])] rfl (by decide) (by simp) (by intro j o hj; exact match j, hj with | 0, hj => by cases hj; rfl | j + 1, hj => by cases hj) rfl).mono (by rintro _ _ ⟨_, _, ⟨rfl, rfl⟩, rfl, rfl⟩; exact ⟨rfl, rfl⟩), ?_⟩
      rintro _ _ ⟨rfl, rfl⟩
      refine ⟨rfl, ?_⟩
      refine ⟨rfl, _, fun _ => [.int .i64 v1.fKind, .int .i64 v1.fNum, .str v1.fStr, .int .i64 v12, .own 2 0 0 v1.fItems.length], rfl, one_set rfl, ?_⟩
      refine .direct ?_
      refine ⟨rfl, _, rfl, ?_⟩
      refine ⟨rfl, _, fun _ => [.int .i64 v1.fKind, .int .i64 v1.fNum, .str v1.fStr, .int .i64 v12, .own 2 0 0 v1.fItems.length], rfl, one_set rfl, ?_⟩
      obtain rfl := Option.some.inj h
      refine ⟨rfl, _, rfl, ?_⟩
      exact ⟨[0], .agg [.int .i64 ((TValue.mk v1.fKind v1.fNum v1.fStr v12 v1.fItems).fKind), .int .i64 ((TValue.mk v1.fKind v1.fNum v1.fStr v12 v1.fItems).fNum), .str ((TValue.mk v1.fKind v1.fNum v1.fStr v12 v1.fItems).fStr), .int .i64 ((TValue.mk v1.fKind v1.fNum v1.fStr v12 v1.fItems).fNext), sl 8 TEntry.cells ((TValue.mk v1.fKind v1.fNum v1.fStr v12 v1.fItems).fItems)], [.row g1000 3 1 96 (fun _ => [sl 1 cB v13.fB, .int .i64 v13.fI, .int .i64 v13.fH])], by decide, (show 1 ≤ 1 by decide), .agg_l ⟨.int_eq rfl, .int_eq rfl, .str_eq rfl, .int_eq rfl, (fz_frz TEntry.cells_pure (by first | decide | simp) rfl shows_all), trivial⟩, ⟨⟨fun _ => ⟨rfl, rfl⟩, rfl, rfl, rfl, fun _ _ => ⟨.slc_eq rfl (fun _ _ => rfl), .int_eq rfl, .int_eq rfl, trivial⟩⟩, trivial⟩, rfl, rfl⟩
    · replace h := F_beq hb11 h
      refine .direct ?_
      refine splitB.mk (fun hb15 => ?_) (fun hb15 => ?_)
      · replace h := T_beq hb15 h
        refine ⟨row cI ([(-1), 4, 5, 6, 7, 8, 9] : List Int), row_lit cI ([(-1), 4, 5, 6, 7, 8, 9] : List Int) rfl (cll_refl rfl), ?_⟩
        obtain ⟨⟨v16, v17⟩, hv18, h⟩ := bind_some h
        refine ⟨fun res h' => res = .int .i64 v16 ∧ h' = [.row g1000 3 1 96 (fun _ => [sl 1 cB v17.fB, .int .i64 v17.fI, .int .i64 v17.fH]), .row 0 5 1 26 (fun _ => [.int .i64 0, .int .i64 0, .str [], .int .i64 0, .nils]), .row 0 8 v1.fItems.length 34 (row TEntry.cells v1.fItems), .row 0 5 1 26 (fun _ => [.int .i64 v1.fKind, .int .i64 v1.fNum, .str v1.fStr, .int .i64 v1.fNext, .own 2 0 0 v1.fItems.length]), .row 0 1 ([(-1), 4, 5, 6, 7, 8, 9] : List Int).length 3 (row cI ([(-1), 4, 5, 6, 7, 8, 9] : List Int))], (ACall.over (ok85 (g1000 := g1000) (g1001 := 0) hv18) [0, 4] [.row g1000 3 1 96 (fun _ => [sl 1 cB v5.fB, .int .i64 v5.fI, .int .i64 v5.fH]), .row 0 5 1 26 (fun _ => [.int .i64 0, .int .i64 0, .str [], .int .i64 0, .nils]), .row 0 8 v1.fItems.length 34 (row TEntry.cells v1.fItems), .row 0 5 1 26 (fun _ => [.int .i64 v1.fKind, .int .i64 v1.fNum, .str v1.fStr, .int .i64 v1.fNext, .own 2 0 0 v1.fItems.length]), .row 0 1 ([(-1), 4, 5, 6, 7, 8, 9] : List Int).length 3 (row cI ([(-1), 4, 5, 6, 7, 8, 9] : List Int))] rfl (by decide) (by simp) (by intro j o hj; exact match j, hj with | 0, hj => by cases hj; rfl | 1, hj => by cases hj; exact (congrArg some (renO_row cI_pure _ _ _ _ _ _)).symm | j + 2, hj => by cases hj) rfl).mono (by rintro _ _ ⟨_, _, ⟨rfl, rfl⟩, rfl, rfl⟩; exact ⟨rfl, (by simp only [nxtL, putSel, List.map_cons, List.map_nil, List.drop, List.length_cons, List.length_nil, renO_row cI_pure]; rfl)⟩), ?_⟩
        rintro _ _ ⟨rfl, rfl⟩
        refine ⟨rfl, ?_⟩
        refine ⟨rfl, _, fun _ => [.int .i64 v16, .int .i64 v1.fNum, .str v1.fStr, .int .i64 v1.fNext, .own 2 0 0 v1.fItems.length], rfl, one_set rfl, ?_⟩
        refine .direct ?_
        refine ⟨rfl, _, rfl, ?_⟩
        refine ⟨rfl, _, fun _ => [.int .i64 v16, .int .i64 v1.fNum, .str v1.fStr, .int .i64 v1.fNext, .own 2 0 0 v1.fItems.length], rfl, one_set rfl, ?_⟩
        obtain rfl := Option.some.inj h
        refine ⟨rfl, _, rfl, ?_⟩
        exact ⟨[0], .agg [.int .i64 ((TValue.mk v16 v1.fNum v1.fStr v1.fNext v1.fItems).fKind), .int .i64 ((TValue.mk v16 v1.fNum v1.fStr v1.fNext v1.fItems).fNum), .str ((TValue.mk v16 v1.fNum v1.fStr v1.fNext v1.fItems).fStr), .int .i64 ((TValue.mk v16 v1.fNum v1.fStr v1.fNext v1.fItems).fNext), sl 8 TEntry.cells ((TValue.mk v16 v1.fNum v1.fStr v1.fNext v1.fItems).fItems)], [.row g1000 3 1 96 (fun _ => [sl 1 cB v17.fB, .int .i64 v17.fI, .int .i64 v17.fH])], by decide, (show 1 ≤ 1 by decide), .agg_l ⟨.int_eq rfl, .int_eq rfl, .str_eq rfl, .int_eq rfl, (fz_frz TEntry.cells_pure (by first | decide | simp) rfl shows_all), trivial⟩, ⟨⟨fun _ => ⟨rfl, rfl⟩, rfl, rfl, rfl, fun _ _ => ⟨.slc_eq rfl (fun _ _ => rfl), .int_eq rfl, .int_eq rfl, trivial⟩⟩, trivial⟩, rfl, rfl⟩
      · replace h := F_beq hb15 h
        obtain ⟨o19, ho20, hk21⟩ := bind_some h
        replace h := ho20
        refine .cut (fun σ η => () = o19 ∧ σ = [(0, .optr 0 g1000 0 0), (2, .optr 1 0 0 0), (3, .optr 2 0 0 0), (7, .int .i64 v4), (24, .bool (v4 == 3))] ∧ η = [.row g1000 3 1 96 (fun _ => [sl 1 cB v5.fB, .int .i64 v5.fI, .int .i64 v5.fH]), .row 0 5 1 26 (fun _ => [.int .i64 0, .int .i64 0, .str [], .int .i64 0, .nils]), .row 0 5 1 26 (fun _ => [.int .i64 v1.fKind, .int .i64 v1.fNum, .str v1.fStr, .int .i64 v1.fNext, .own 3 0 0 v1.fItems.length]), .row 0 8 v1.fItems.length 34 (row TEntry.cells v1.fItems)]) ?_ ?_
        · exact ⟨[(0, .optr 0 g1000 0 0), (2, .optr 1 0 0 0), (3, .optr 2 0 0 0), (7, .int .i64 v4), (24, .bool (v4 == 3))], [.row g1000 3 1 96 (fun _ => [sl 1 cB v5.fB, .int .i64 v5.fI, .int .i64 v5.fH]), .row 0 5 1 26 (fun _ => [.int .i64 0, .int .i64 0, .str [], .int .i64 0, .nils]), .row 0 5 1 26 (fun _ => [.int .i64 v1.fKind, .int .i64 v1.fNum, .str v1.fStr, .int .i64 v1.fNext, .own 3 0 0 v1.fItems.length]), .row 0 8 v1.fItems.length 34 (row TEntry.cells v1.fItems)], ⟨[0, 1, 3, 2], by decide, (show 1 ≤ 4 by decide), ⟨.optr_eq rfl ⟨_, _, _, _, rfl⟩ ⟨_, _, _, _, rfl⟩ rfl rfl, .optr_eq rfl ⟨_, _, _, _, rfl⟩ ⟨_, _, _, _, rfl⟩ rfl rfl, .optr_eq rfl ⟨_, _, _, _, rfl⟩ ⟨_, _, _, _, rfl⟩ rfl rfl, .int_eq rfl, .bool_eq rfl, trivial⟩, ⟨⟨fun _ => ⟨rfl, rfl⟩, rfl, rfl, rfl, fun _ _ => ⟨.slc_eq rfl (fun _ _ => rfl), .int_eq rfl, .int_eq rfl, trivial⟩⟩, ⟨fun h0 => absurd (show 1 < 1 from h0) (by decide), rfl, rfl, rfl, fun _ _ => ⟨.int_eq rfl, .int_eq rfl, .str_eq rfl, .int_eq rfl, .nils, trivial⟩⟩, ⟨fun h0 => absurd (show 2 < 1 from h0) (by decide), rfl, rfl, rfl, fun _ _ => ⟨.int_eq rfl, .int_eq rfl, .str_eq rfl, .int_eq rfl, .own_eq rfl ⟨_, _, _, _, rfl⟩ ⟨_, _, _, _, rfl⟩ rfl rfl, trivial⟩⟩, ⟨fun h0 => absurd (show 3 < 1 from h0) (by decide), rfl, rfl, rfl, fz_row TEntry.cells_pure⟩, trivial⟩⟩, Option.some.inj h, rfl, rfl⟩
        · rintro _ _ ⟨rfl, rfl, rfl⟩
          replace h := hk21
          refine splitB.mk (fun hb22 => ?_) (fun hb22 => ?_)
          · replace h := T_beq hb22 h
            refine .float [(0, true), (1, true), (2, true), (4, true), (3, false), (5, false), (6, true), (7, false), (8, false), (9, true), (10, false)] (by kernel_rfl) ?_
            refine ⟨rfl, ?_⟩
            refine ⟨rfl, _, rfl, ?_⟩
            obtain ⟨⟨v23, v24⟩, hv25, h⟩ := bind_some h
            refine ⟨fun res h' => res = .agg [.bool v23.fText, .int .i64 v23.fNum, .str v23.fStr] ∧ h' = [.row g1000 3 1 96 (fun _ => [sl 1 cB v24.fB, .int .i64 v24.fI, .int .i64 v24.fH]), .row 0 5 1 26 (fun _ => [.int .i64 0, .int .i64 0, .str [], .int .i64 0, .nils]), .row 0 5 1 26 (fun _ => [.int .i64 v1.fKind, .int .i64 v1.fNum, .str v1.fStr, .int .i64 v1.fNext, .own 3 0 0 v1.fItems.length]), .row 0 8 v1.fItems.length 34 (row TEntry.cells v1.fItems)], (ACall.over (ok47 (g1000 := g1000) hv25) [0] [.row g1000 3 1 96 (fun _ => [sl 1 cB v5.fB, .int .i64 v5.fI, .int .i64 v5.fH]), .row 0 5 1 26 (fun _ => [.int .i64 0, .int .i64 0, .str [], .int .i64 0, .nils]), .row 0 5 1 26 (fun _ => [.int .i64 v1.fKind, .int .i64 v1.fNum, .str v1.fStr, .int .i64 v1.fNext, .own 3 0 0 v1.fItems.length]), .row 0 8 v1.fItems.length 34 (row TEntry.cells v1.fItems)] rfl (by decide) (by simp) (by intro j o hj; exact match j, hj with | 0, hj => by cases hj; rfl | j + 1, hj => by cases hj) rfl).mono (by rintro _ _ ⟨_, _, ⟨rfl, rfl⟩, rfl, rfl⟩; exact ⟨rfl, rfl⟩), ?_⟩
            rintro _ _ ⟨rfl, rfl⟩
            refine ⟨rfl, ?_⟩
            refine ⟨rfl, ?_⟩
            obtain ⟨⟨v26, v27⟩, hv28, h⟩ := bind_some h
            refine ⟨fun res h' => res = .agg [.int .i64 v26.fKind, .int .i64 v26.fNum, .str v26.fStr, .int .i64 v26.fNext, sl 8 TEntry.cells v26.fItems] ∧ h' = [.row g1000 3 1 96 (fun _ => [sl 1 cB v27.fB, .int .i64 v27.fI, .int .i64 v27.fH]), .row 0 5 1 26 (fun _ => [.int .i64 0, .int .i64 0, .str [], .int .i64 0, .nils]), .row 0 5 1 26 (fun _ => [.int .i64 v1.fKind, .int .i64 v1.fNum, .str v1.fStr, .int .i64 v1.fNext, .own 3 0 0 v1.fItems.length]), .row 0 8 v1.fItems.length 34 (row TEntry.cells v1.fItems)], (ACall.over (ok89 (g1000 := g1000) hv28) [0] [.row g1000 3 1 96 (fun _ => [sl 1 cB v24.fB, .int .i64 v24.fI, .int .i64 v24.fH]), .row 0 5 1 26 (fun _ => [.int .i64 0, .int .i64 0, .str [], .int .i64 0, .nils]), .row 0 5 1 26 (fun _ => [.int .i64 v1.fKind, .int .i64 v1.fNum, .str v1.fStr, .int .i64 v1.fNext, .own 3 0 0 v1.fItems.length]), .row 0 8 v1.fItems.length 34 (row TEntry.cells v1.fItems)] rfl (by decide) (by simp) (by intro j o hj; exact match j, hj with | 0, hj => by cases hj; rfl | j + 1, hj => by cases hj) rfl).mono (by rintro _ _ ⟨_, _, ⟨rfl, rfl⟩, rfl, rfl⟩; exact ⟨rfl, rfl⟩), ?_⟩
            rintro _ _ ⟨rfl, rfl⟩
            refine ⟨rfl, ?_⟩
            refine ⟨rfl, ?_⟩
            refine ⟨row TEntry.cells ([(TEntry.mk v23 v26)] : List TEntry), row_lit TEntry.cells ([(TEntry.mk v23 v26)] : List TEntry) rfl (cll_cons (TEntry.cells_eq _) ⟨.same _, .same _, .same _, .same _, .same _, .same _, .same _, .same _, trivial⟩ trivial), ?_⟩
            refine ⟨rfl, ?_⟩
            refine ⟨rfl, ?_⟩
            obtain ⟨l29, hx30, h⟩ := bind_some h
            refine ⟨rfl, rfl, lapp_bd hx30, l29.length, row TEntry.cells l29, lapp_len hx30, lapp_row hx30 shows_all (src_own shows_all), ?_⟩
            refine ⟨rfl, ?_⟩
            refine ⟨rfl, _, fun _ => [.int .i64 v1.fKind, .int .i64 v1.fNum, .str v1.fStr, .int .i64 v1.fNext, .own 3 (0 + 1) 0 l29.length], rfl, one_set rfl, ?_⟩
            refine .direct ?_
            refine ⟨rfl, _, rfl, ?_⟩
            refine ⟨rfl, _, fun _ => [.int .i64 v1.fKind, .int .i64 v1.fNum, .str v1.fStr, .int .i64 v1.fNext, .own 3 (0 + 1) 0 l29.length], rfl, one_set rfl, ?_⟩
            obtain rfl := Option.some.inj h
            refine ⟨rfl, _, rfl, ?_⟩
            exact ⟨[0], .agg [.int .i64 ((TValue.mk v1.fKind v1.fNum v1.fStr v1.fNext l29).fKind), .int .i64 ((TValue.mk v1.fKind v1.fNum v1.fStr v1.fNext l29).fNum), .str ((TValue.mk v1.fKind v1.fNum v1.fStr v1.fNext l29).fStr), .int .i64 ((TValue.mk v1.fKind v1.fNum v1.fStr v1.fNext l29).fNext), sl 8 TEntry.cells ((TValue.mk v1.fKind v1.fNum v1.fStr v1.fNext l29).fItems)], [.row g1000 3 1 96 (fun _ => [sl 1 cB v27.fB, .int .i64 v27.fI, .int .i64 v27.fH])], by decide, (show 1 ≤ 1 by decide), .agg_l ⟨.int_eq rfl, .int_eq rfl, .str_eq rfl, .int_eq rfl, (fz_frz TEntry.cells_pure (by first | decide | simp) rfl shows_all), trivial⟩, ⟨⟨fun _ => ⟨rfl, rfl⟩, rfl, rfl, rfl, fun _ _ => ⟨.slc_eq rfl (fun _ _ => rfl), .int_eq rfl, .int_eq rfl, trivial⟩⟩, trivial⟩, rfl, rfl⟩
          · replace h := F_beq hb22 h
            refine .direct ?_
            refine splitB.mk (fun hb31 => ?_) (fun hb31 => ?_)
            · replace h := T_beq hb31 h
              obtain ⟨⟨v32, v33⟩, hv34, h⟩ := bind_some h
              refine ⟨fun res h' => res = .int .i64 v32 ∧ h' = [.row g1000 3 1 96 (fun _ => [sl 1 cB v33.fB, .int .i64 v33.fI, .int .i64 v33.fH]), .row 0 5 1 26 (fun _ => [.int .i64 0, .int .i64 0, .str [], .int .i64 0, .nils]), .row 0 5 1 26 (fun _ => [.int .i64 v1.fKind, .int .i64 v1.fNum, .str v1.fStr, .int .i64 v1.fNext, .own 3 0 0 v1.fItems.length]), .row 0 8 v1.fItems.length 34 (row TEntry.cells v1.fItems)], (ACall.over (ok40 (g1000 := g1000) hv34) [0] [.row g1000 3 1 96 (fun _ => [sl 1 cB v5.fB, .int .i64 v5.fI, .int .i64 v5.fH]), .row 0 5 1 26 (fun _ => [.int .i64 0, .int .i64 0, .str [], .int .i64 0, .nils]), .row 0 5 1 26 (fun _ => [.int .i64 v1.fKind, .int .i64 v1.fNum, .str v1.fStr, .int .i64 v1.fNext, .own 3 0 0 v1.fItems.length]), .row 0 8 v1.fItems.length 34 (row TEntry.cells v1.fItems)] rfl (by decide) (by simp) (by intro j o hj; exact match j, hj with | 0, hj => by cases hj; rfl | j + 1, hj => by cases hj) rfl).mono (by rintro _ _ ⟨_, _, ⟨rfl, rfl⟩, rfl, rfl⟩; exact ⟨rfl, rfl⟩), ?_⟩
              rintro _ _ ⟨rfl, rfl⟩
              obtain ⟨⟨v35, v36⟩, hv37, h⟩ := bind_some h
              refine ⟨fun res h' => res = .int .i64 v35 ∧ h' = [.row g1000 3 1 96 (fun _ => [sl 1 cB v36.fB, .int .i64 v36.fI, .int .i64 v36.fH]), .row 0 5 1 26 (fun _ => [.int .i64 0, .int .i64 0, .str [], .int .i64 0, .nils]), .row 0 5 1 26 (fun _ => [.int .i64 v1.fKind, .int .i64 v1.fNum, .str v1.fStr, .int .i64 v1.fNext, .own 3 0 0 v1.fItems.length]), .row 0 8 v1.fItems.length 34 (row TEntry.cells v1.fItems)], (ACall.over (ok40 (g1000 := g1000) hv37) [0] [.row g1000 3 1 96 (fun _ => [sl 1 cB v33.fB, .int .i64 v33.fI, .int .i64 v33.fH]), .row 0 5 1 26 (fun _ => [.int .i64 0, .int .i64 0, .str [], .int .i64 0, .nils]), .row 0 5 1 26 (fun _ => [.int .i64 v1.fKind, .int .i64 v1.fNum, .str v1.fStr, .int .i64 v1.fNext, .own 3 0 0 v1.fItems.length]), .row 0 8 v1.fItems.length 34 (row TEntry.cells v1.fItems)] rfl (by decide) (by simp) (by intro j o hj; exact match j, hj with | 0, hj => by cases hj; rfl | j + 1, hj => by cases hj) rfl).mono (by rintro _ _ ⟨_, _, ⟨rfl, rfl⟩, rfl, rfl⟩; exact ⟨rfl, rfl⟩), ?_⟩
              rintro _ _ ⟨rfl, rfl⟩
              refine ⟨rfl, _, fun _ => [.int .i64 (W64 (6 + v32)), .int .i64 v35, .str [], .int .i64 0, .nils], rfl, one_set rfl, ?_⟩
              refine .direct ?_
              refine ⟨rfl, _, rfl, ?_⟩
              refine ⟨rfl, _, fun _ => [.int .i64 (W64 (6 + v32)), .int .i64 v35, .str [], .int .i64 0, .nils], rfl, one_set rfl, ?_⟩
              obtain rfl := Option.some.inj h
              refine ⟨rfl, _, rfl, ?_⟩
              exact ⟨[0], .agg [.int .i64 ((TValue.mk (W64 (6 + v32)) v35 [] 0 []).fKind), .int .i64 ((TValue.mk (W64 (6 + v32)) v35 [] 0 []).fNum), .str ((TValue.mk (W64 (6 + v32)) v35 [] 0 []).fStr), .int .i64 ((TValue.mk (W64 (6 + v32)) v35 [] 0 []).fNext), sl 8 TEntry.cells ((TValue.mk (W64 (6 + v32)) v35 [] 0 []).fItems)], [.row g1000 3 1 96 (fun _ => [sl 1 cB v36.fB, .int .i64 v36.fI, .int .i64 v36.fH])], by decide, (show 1 ≤ 1 by decide), .agg_l ⟨.int_eq rfl, .int_eq rfl, .str_eq rfl, .int_eq rfl, fz_nils, trivial⟩, ⟨⟨fun _ => ⟨rfl, rfl⟩, rfl, rfl, rfl, fun _ _ => ⟨.slc_eq rfl (fun _ _ => rfl), .int_eq rfl, .int_eq rfl, trivial⟩⟩, trivial⟩, rfl, rfl⟩
            · replace h := F_beq hb31 h
              refine .direct ?_
              refine ⟨rfl, _, rfl, ?_⟩
              refine ⟨rfl, _, fun _ => [.int .i64 v1.fKind, .int .i64 v1.fNum, .str v1.fStr, .int .i64 v1.fNext, .own 3 0 0 v1.fItems.length], rfl, one_set rfl, ?_⟩
              obtain rfl := Option.some.inj h
              refine ⟨rfl, _, rfl, ?_⟩
              exact ⟨[0], .agg [.int .i64 v1.fKind, .int .i64 v1.fNum, .str v1.fStr, .int .i64 v1.fNext, sl 8 TEntry.cells v1.fItems], [.row g1000 3 1 96 (fun _ => [sl 1 cB v5.fB, .int .i64 v5.fI, .int .i64 v5.fH])], by decide, (show 1 ≤ 1 by decide), .agg_l ⟨.int_eq rfl, .int_eq rfl, .str_eq rfl, .int_eq rfl, (fz_frz TEntry.cells_pure (by first | decide | simp) rfl shows_all), trivial⟩, ⟨⟨fun _ => ⟨rfl, rfl⟩, rfl, rfl, rfl, fun _ _ => ⟨.slc_eq rfl (fun _ _ => rfl), .int_eq rfl, .int_eq rfl, trivial⟩⟩, trivial⟩, rfl, rfl⟩
def m49_L2 (l15 : List UInt8) (y16 : Int) (y17 : Int) (y18 : Int) (y19 : Int) (s20 : Str) (y21 : Int) (l22 : List TEntry) (y23 : Int) : Option ((List UInt8) × Int × Int × Int × Int × Str × Int × (List TEntry)) :=
  (if y23 > 0 then
    m47 (TL1Cur.mk l15 y16 y17) >>= fun (v27, v28) =>
    m50 v28 1 >>= fun (v30, v31) =>
    m87 (TValue.mk y18 y19 s20 y21 l22) v27 v30 >>= fun v33 =>
    m49_L2 v31.fB v31.fI v31.fH v33.fKind v33.fNum v33.fStr v33.fNext v33.fItems (W64 (y23 - 1))
  else
    some (l15, y16, y17, y18, y19, s20, y21, l22))
partial_fixpoint
def m49 (a0 : TL1Cur) : Option (TValue × TL1Cur) :=
  (
    m40 a0 6 >>= fun (v12, v13) =>
    m49_L2 v13.fB v13.fI v13.fH 4 0 [] 0 ([] : List TEntry) v12
   : Option ((List UInt8) × Int × Int × Int × Int × Str × Int × (List TEntry))) >>= fun (l1, y2, y3, y4, y5, s6, y7, l8) =>
  m37 (TL1Cur.mk l1 y2 y3) 6 >>= fun (v37, v38) =>
  (if v37 = true then
    m88 v38 >>= fun (v41, v42) =>
    some (v41, v42)
  else
    some ((TValue.mk y4 y5 s6 y7 l8), v38))
theorem ok49 {a0 : TL1Cur} {r : TValue × TL1Cur} {g1000 : Nat} (h : m49 a0 = some r) : ACall Tryd.prog 35 [.optr 0 g1000 0 0] [.row g1000 3 1 96 (fun _ => [sl 1 cB a0.fB, .int .i64 a0.fI, .int .i64 a0.fH])] (fun res h => res = .agg [.int .i64 r.1.fKind, .int .i64 r.1.fNum, .str r.1.fStr, .int .i64 r.1.fNext, sl 8 TEntry.cells r.1.fItems] ∧ h = [.row g1000 3 1 96 (fun _ => [sl 1 cB r.2.fB, .int .i64 r.2.fI, .int .i64 r.2.fH])]) := by
  refine ACall.of_vc tabT_ok mixed Tryd.func35 rfl (by kernel_rfl) _ _ _ rfl (by kernel_rfl) ?_
  unfold m49 at h
  refine .direct ?_
  refine .direct ?_
  refine ⟨_, ACall.pure0 (ok_s_ArrayValuex) _ rfl (fun _ => rfl), ?_⟩
  rintro _ _ ⟨rfl, rfl⟩
  refine ⟨rfl, _, fun _ => [.int .i64 4, .int .i64 0, .str [], .int .i64 0, .nils], rfl, one_set rfl, ?_⟩
  obtain ⟨o9, ho10, hk11⟩ := bind_some h
  replace h := ho10
  refine .cut (fun σ η => ∃ l1, ∃ y2, ∃ y3, ∃ y4, ∃ y5, ∃ s6, ∃ y7, ∃ l8, (l1, y2, y3, y4, y5, s6, y7, l8) = o9 ∧ σ = [(0, .optr 0 g1000 0 0), (2, .optr 1 0 0 0), (3, .optr 2 0 0 0)] ∧ η = [.row g1000 3 1 96 (fun _ => [sl 1 cB l1, .int .i64 y2, .int .i64 y3]), .row 0 5 1 26 (fun _ => [.int .i64 0, .int .i64 0, .str [], .int .i64 0, .nils]), .row 0 5 1 26 (fun _ => [.int .i64 y4, .int .i64 y5, .str s6, .int .i64 y7, sl 8 TEntry.cells l8])]) ?_ ?_
  · refine .direct ?_
    obtain ⟨⟨v12, v13⟩, hv14, h⟩ := bind_some h
    refine ⟨fun res h' => res = .int .i64 v12 ∧ h' = [.row g1000 3 1 96 (fun _ => [sl 1 cB v13.fB, .int .i64 v13.fI, .int .i64 v13.fH]), .row 0 5 1 26 (fun _ => [.int .i64 0, .int .i64 0, .str [], .int .i64 0, .nils]), .row 0 5 1 26 (fun _ => [.int .i64 4, .int .i64 0, .str [], .int .i64 0, .nils])], (ACall.over (ok40 (g1000 := g1000) hv14) [0] [.row g1000 3 1 96 (fun _ => [sl 1 cB a0.fB, .int .i64 a0.fI, .int .i64 a0.fH]), .row 0 5 1 26 (fun _ => [.int .i64 0, .int .i64 0, .str [], .int .i64 0, .nils]), .row 0 5 1 26 (fun _ => [.int .i64 4, .int .i64 0, .str [], .int .i64 0, .nils])] rfl (by decide) (by simp) (by intro j o hj; exact match j, hj with | 0, hj => by cases hj; rfl | j + 1, hj => by cases hj) rfl).mono (by rintro _ _ ⟨_, _, ⟨rfl, rfl⟩, rfl, rfl⟩; exact ⟨rfl, rfl⟩), ?_⟩
    rintro _ _ ⟨rfl, rfl⟩
    refine LoopAt.enter [(0, .optr 0 g1000 0 0), (2, .optr 1 0 0 0), (3, .optr 2 0 0 0), (4, .int .i64 v12)] [.row g1000 3 1 96 (fun _ => [sl 1 cB v13.fB, .int .i64 v13.fI, .int .i64 v13.fH]), .row 0 5 1 26 (fun _ => [.int .i64 0, .int .i64 0, .str [], .int .i64 0, .nils]), .row 0 5 1 26 (fun _ => [.int .i64 4, .int .i64 0, .str [], .int .i64 0, sl 8 TEntry.cells ([] : List TEntry)])] ⟨[0, 1, 2], by decide, (show 1 ≤ 3 by decide), ⟨.optr_eq rfl ⟨_, _, _, _, rfl⟩ ⟨_, _, _, _, rfl⟩ rfl rfl, .optr_eq rfl ⟨_, _, _, _, rfl⟩ ⟨_, _, _, _, rfl⟩ rfl rfl, .optr_eq rfl ⟨_, _, _, _, rfl⟩ ⟨_, _, _, _, rfl⟩ rfl rfl, .int_eq rfl, trivial⟩, ⟨⟨fun _ => ⟨rfl, rfl⟩, rfl, rfl, rfl, fun _ _ => ⟨.slc_eq rfl (fun _ _ => rfl), .int_eq rfl, .int_eq rfl, trivial⟩⟩, ⟨fun h0 => absurd (show 1 < 1 from h0) (by decide), rfl, rfl, rfl, fun _ _ => ⟨.int_eq rfl, .int_eq rfl, .str_eq rfl, .int_eq rfl, .nils, trivial⟩⟩, ⟨fun h0 => absurd (show 2 < 1 from h0) (by decide), rfl, rfl, rfl, fun _ _ => ⟨.int_eq rfl, .int_eq rfl, .str_eq rfl, .int_eq rfl, fz_nils, trivial⟩⟩, trivial⟩⟩ ?_
    refine m49_L2.partial_correctness  (motive := fun l15 y16 y17 y18 y19 s20 y21 l22 y23 o35 => o9 = o35 → LoopAt _ _ [(0, .optr 0 g1000 0 0), (2, .optr 1 0 0 0), (3, .optr 2 0 0 0), (4, .int .i64 y23)] [.row g1000 3 1 96 (fun _ => [sl 1 cB l15, .int .i64 y16, .int .i64 y17]), .row 0 5 1 26 (fun _ => [.int .i64 0, .int .i64 0, .str [], .int .i64 0, .nils]), .row 0 5 1 26 (fun _ => [.int .i64 y18, .int .i64 y19, .str s20, .int .i64 y21, sl 8 TEntry.cells l22])]) ?_ v13.fB v13.fI v13.fH 4 0 [] 0 ([] : List TEntry) v12 o9 h rfl
    intro F25 ih24 l15 y16 y17 y18 y19 s20 y21 l22 y23 o35 h hr36
    subst hr36
    refine LoopAt.round ?_
    refine .direct ?_
    refine .direct ?_
    refine splitB.mk (fun hb26 => ?_) (fun hb26 => ?_)
    · replace h := T_dec hb26 h
      refine .direct ?_
      refine .float [(0, true), (1, true), (3, true), (2, false), (4, false), (5, false), (6, false)] (by kernel_rfl) ?_
      refine ⟨rfl, _, rfl, ?_⟩
      obtain ⟨⟨v27, v28⟩, hv29, h⟩ := bind_some h
      refine ⟨fun res h' => res = .agg [.bool v27.fText, .int .i64 v27.fNum, .str v27.fStr] ∧ h' = [.row g1000 3 1 96 (fun _ => [sl 1 cB v28.fB, .int .i64 v28.fI, .int .i64 v28.fH]), .row 0 5 1 26 (fun _ => [.int .i64 0, .int .i64 0, .str [], .int .i64 0, .nils]), .row 0 5 1 26 (fun _ => [.int .i64 y18, .int .i64 y19, .str s20, .int .i64 y21, sl 8 TEntry.cells l22])], (ACall.over (ok47 (g1000 := g1000) hv29) [0] [.row g1000 3 1 96 (fun _ => [sl 1 cB l15, .int .i64 y16, .int .i64 y17]), .row 0 5 1 26 (fun _ => [.int .i64 0, .int .i64 0, .str [], .int .i64 0, .nils]), .row 0 5 1 26 (fun _ => [.int .i64 y18, .int .i64 y19, .str s20, .int .i64 y21, sl 8 TEntry.cells l22])] rfl (by decide) (by simp) (by intro j o hj; exact match j, hj with | 0, hj => by cases hj; rfl | j + 1, hj => by cases hj) rfl).mono (by rintro _ _ ⟨_, _, ⟨rfl, rfl⟩, rfl, rfl⟩; exact ⟨rfl, rfl⟩), ?_⟩
      rintro _ _ ⟨rfl, rfl⟩
      refine ⟨rfl, ?_⟩
      obtain ⟨⟨v30, v31⟩, hv32, h⟩ := bind_some h
      refine ⟨fun res h' => res = .agg [.int .i64 v30.fKind, .int .i64 v30.fNum, .str v30.fStr, .int .i64 v30.fNext, sl 8 TEntry.cells v30.fItems] ∧ h' = [.row g1000 3 1 96 (fun _ => [sl 1 cB v31.fB, .int .i64 v31.fI, .int .i64 v31.fH]), .row 0 5 1 26 (fun _ => [.int .i64 0, .int .i64 0, .str [], .int .i64 0, .nils]), .row 0 5 1 26 (fun _ => [.int .i64 y18, .int .i64 y19, .str s20, .int .i64 y21, sl 8 TEntry.cells l22])], (ACall.over (ok50 (g1000 := g1000) hv32) [0] [.row g1000 3 1 96 (fun _ => [sl 1 cB v28.fB, .int .i64 v28.fI, .int .i64 v28.fH]), .row 0 5 1 26 (fun _ => [.int .i64 0, .int .i64 0, .str [], .int .i64 0, .nils]), .row 0 5 1 26 (fun _ => [.int .i64 y18, .int .i64 y19, .str s20, .int .i64 y21, sl 8 TEntry.cells l22])] rfl (by decide) (by simp) (by intro j o hj; exact match j, hj with | 0, hj => by cases hj; rfl | j + 1, hj => by cases hj) rfl).mono (by rintro _ _ ⟨_, _, ⟨rfl, rfl⟩, rfl, rfl⟩; exact ⟨rfl, rfl⟩), ?_⟩
      rintro _ _ ⟨rfl, rfl⟩
      refine ⟨rfl, ?_⟩
      obtain ⟨v33, hv34, h⟩ := bind_some h
      refine ⟨_, ACall.pure0 (ok87 hv34) _ rfl (fun _ => rfl), ?_⟩
      rintro _ _ ⟨rfl, rfl⟩
      refine ⟨rfl, _, fun _ => [.int .i64 v33.fKind, .int .i64 v33.fNum, .str v33.fStr, .int .i64 v33.fNext, sl 8 TEntry.cells v33.fItems], rfl, one_set rfl, ?_⟩
      exact ⟨[(0, .optr 0 g1000 0 0), (2, .optr 1 0 0 0), (3, .optr 2 0 0 0), (4, .int .i64 (W64 (y23 - 1)))], [.row g1000 3 1 96 (fun _ => [sl 1 cB v31.fB, .int .i64 v31.fI, .int .i64 v31.fH]), .row 0 5 1 26 (fun _ => [.int .i64 0, .int .i64 0, .str [], .int .i64 0, .nils]), .row 0 5 1 26 (fun _ => [.int .i64 v33.fKind, .int .i64 v33.fNum, .str v33.fStr, .int .i64 v33.fNext, sl 8 TEntry.cells v33.fItems])], ⟨[0, 1, 2], by decide, (show 1 ≤ 3 by decide), ⟨.optr_eq rfl ⟨_, _, _, _, rfl⟩ ⟨_, _, _, _, rfl⟩ rfl rfl, .optr_eq rfl ⟨_, _, _, _, rfl⟩ ⟨_, _, _, _, rfl⟩ rfl rfl, .optr_eq rfl ⟨_, _, _, _, rfl⟩ ⟨_, _, _, _, rfl⟩ rfl rfl, .int_eq rfl, trivial⟩, ⟨⟨fun _ => ⟨rfl, rfl⟩, rfl, rfl, rfl, fun _ _ => ⟨.slc_eq rfl (fun _ _ => rfl), .int_eq rfl, .int_eq rfl, trivial⟩⟩, ⟨fun h0 => absurd (show 1 < 1 from h0) (by decide), rfl, rfl, rfl, fun _ _ => ⟨.int_eq rfl, .int_eq rfl, .str_eq rfl, .int_eq rfl, .nils, trivial⟩⟩, ⟨fun h0 => absurd (show 2 < 1 from h0) (by decide), rfl, rfl, rfl, fun _ _ => ⟨.int_eq rfl, .int_eq rfl, .str_eq rfl, .int_eq rfl, .slc_eq rfl (fun _ _ => rfl), trivial⟩⟩, trivial⟩⟩, ih24 _ _ _ _ _ _ _ _ _ _ h rfl⟩
    · replace h := F_dec hb26 h
      exact ⟨[(0, .optr 0 g1000 0 0), (2, .optr 1 0 0 0), (3, .optr 2 0 0 0)], [.row g1000 3 1 96 (fun _ => [sl 1 cB l15, .int .i64 y16, .int .i64 y17]), .row 0 5 1 26 (fun _ => [.int .i64 0, .int .i64 0, .str [], .int .i64 0, .nils]), .row 0 5 1 26 (fun _ => [.int .i64 y18, .int .i64 y19, .str s20, .int .i64 y21, sl 8 TEntry.cells l22])], ⟨[0, 1, 2], by decide, (show 1 ≤ 3 by decide), ⟨.optr_eq rfl ⟨_, _, _, _, rfl⟩ ⟨_, _, _, _, rfl⟩ rfl rfl, .optr_eq rfl ⟨_, _, _, _, rfl⟩ ⟨_, _, _, _, rfl⟩ rfl rfl, .optr_eq rfl ⟨_, _, _, _, rfl⟩ ⟨_, _, _, _, rfl⟩ rfl rfl, trivial⟩, ⟨⟨fun _ => ⟨rfl, rfl⟩, rfl, rfl, rfl, fun _ _ => ⟨.slc_eq rfl (fun _ _ => rfl), .int_eq rfl, .int_eq rfl, trivial⟩⟩, ⟨fun h0 => absurd (show 1 < 1 from h0) (by decide), rfl, rfl, rfl, fun _ _ => ⟨.int_eq rfl, .int_eq rfl, .str_eq rfl, .int_eq rfl, .nils, trivial⟩⟩, ⟨fun h0 => absurd (show 2 < 1 from h0) (by decide), rfl, rfl, rfl, fun _ _ => ⟨.int_eq rfl, .int_eq rfl, .str_eq rfl, .int_eq rfl, .slc_eq rfl (fun _ _ => rfl), trivial⟩⟩, trivial⟩⟩, l15, y16, y17, y18, y19, s20, y21, l22, Option.some.inj h, rfl, rfl⟩
  · rintro _ _ ⟨l1, y2, y3, y4, y5, s6, y7, l8, rfl, rfl, rfl⟩
    replace h := hk11
    refine .direct ?_
    refine .direct ?_
    obtain ⟨⟨v37, v38⟩, hv39, h⟩ := bind_some h
    refine ⟨fun res h' => res = .bool v37 ∧ h' = [.row g1000 3 1 96 (fun _ => [sl 1 cB v38.fB, .int .i64 v38.fI, .int .i64 v38.fH]), .row 0 5 1 26 (fun _ => [.int .i64 0, .int .i64 0, .str [], .int .i64 0, .nils]), .row 0 5 1 26 (fun _ => [.int .i64 y4, .int .i64 y5, .str s6, .int .i64 y7, sl 8 TEntry.cells l8])], (ACall.over (ok37 (g1000 := g1000) hv39) [0] [.row g1000 3 1 96 (fun _ => [sl 1 cB l1, .int .i64 y2, .int .i64 y3]), .row 0 5 1 26 (fun _ => [.int .i64 0, .int .i64 0, .str [], .int .i64 0, .nils]), .row 0 5 1 26 (fun _ => [.int .i64 y4, .int .i64 y5, .str s6, .int .i64 y7, sl 8 TEntry.cells l8])] rfl (by decide) (by simp) (by intro j o hj; exact match j, hj with | 0, hj => by cases hj; rfl | j + 1, hj => by cases hj) rfl).mono (by rintro _ _ ⟨_, _, ⟨rfl, rfl⟩, rfl, rfl⟩; exact ⟨rfl, rfl⟩), ?_⟩
    rintro _ _ ⟨rfl, rfl⟩
    refine splitB.mk (fun hb40 => ?_) (fun hb40 => ?_)
    · replace h := T_var hb40 h
      refine .direct ?_
      obtain ⟨⟨v41, v42⟩, hv43, h⟩ := bind_some h
      refine ⟨fun res h' => res = .agg [.int .i64 v41.fKind, .int .i64 v41.fNum, .str v41.fStr, .int .i64 v41.fNext, sl 8 TEntry.cells v41.fItems] ∧ h' = [.row g1000 3 1 96 (fun _ => [sl 1 cB v42.fB, .int .i64 v42.fI, .int .i64 v42.fH]), .row 0 5 1 26 (fun _ => [.int .i64 0, .int .i64 0, .str [], .int .i64 0, .nils]), .row 0 5 1 26 (fun _ => [.int .i64 y4, .int .i64 y5, .str s6, .int .i64 y7, sl 8 TEntry.cells l8])], (ACall.over (ok88 (g1000 := g1000) hv43) [0] [.row g1000 3 1 96 (fun _ => [sl 1 cB v38.fB, .int .i64 v38.fI, .int .i64 v38.fH]), .row 0 5 1 26 (fun _ => [.int .i64 0, .int .i64 0, .str [], .int .i64 0, .nils]), .row 0 5 1 26 (fun _ => [.int .i64 y4, .int .i64 y5, .str s6, .int .i64 y7, sl 8 TEntry.cells l8])] rfl (by decide) (by simp) (by intro j o hj; exact match j, hj with | 0, hj => by cases hj; rfl | j + 1, hj => by cases hj) rfl).mono (by rintro _ _ ⟨_, _, ⟨rfl, rfl⟩, rfl, rfl⟩; exact ⟨rfl, rfl⟩), ?_⟩
      rintro _ _ ⟨rfl, rfl⟩
      refine ⟨rfl, _, fun _ => [.int .i64 v41.fKind, .int .i64 v41.fNum, .str v41.fStr, .int .i64 v41.fNext, sl 8 TEntry.cells v41.fItems], rfl, one_set rfl, ?_⟩
      obtain rfl := Option.some.inj h
      refine ⟨rfl, _, rfl, ?_⟩
      exact ⟨[0], .agg [.int .i64 v41.fKind, .int .i64 v41.fNum, .str v41.fStr, .int .i64 v41.fNext, sl 8 TEntry.cells v41.fItems], [.row g1000 3 1 96 (fun _ => [sl 1 cB v42.fB, .int .i64 v42.fI, .int .i64 v42.fH])], by decide, (show 1 ≤ 1 by decide), .agg_l ⟨.int_eq rfl, .int_eq rfl, .str_eq rfl, .int_eq rfl, .slc_eq rfl (fun _ _ => rfl), trivial⟩, ⟨⟨fun _ => ⟨rfl, rfl⟩, rfl, rfl, rfl, fun _ _ => ⟨.slc_eq rfl (fun _ _ => rfl), .int_eq rfl, .int_eq rfl, trivial⟩⟩, trivial⟩, rfl, rfl⟩
    · replace h := F_var hb40 h
      refine .direct ?_
      refine ⟨rfl, _, rfl, ?_⟩
      refine ⟨rfl, _, fun _ => [.int .i64 y4, .int .i64 y5, .str s6, .int .i64 y7, sl 8 TEntry.cells l8], rfl, one_set rfl, ?_⟩
      obtain rfl := Option.some.inj h
      refine ⟨rfl, _, rfl, ?_⟩
      exact ⟨[0], .agg [.int .i64 ((TValue.mk y4 y5 s6 y7 l8).fKind), .int .i64 ((TValue.mk y4 y5 s6 y7 l8).fNum), .str ((TValue.mk y4 y5 s6 y7 l8).fStr), .int .i64 ((TValue.mk y4 y5 s6 y7 l8).fNext), sl 8 TEntry.cells ((TValue.mk y4 y5 s6 y7 l8).fItems)], [.row g1000 3 1 96 (fun _ => [sl 1 cB v38.fB, .int .i64 v38.fI, .int .i64 v38.fH])], by decide, (show 1 ≤ 1 by decide), .agg_l ⟨.int_eq rfl, .int_eq rfl, .str_eq rfl, .int_eq rfl, .slc_eq rfl (fun _ _ => rfl), trivial⟩, ⟨⟨fun _ => ⟨rfl, rfl⟩, rfl, rfl, rfl, fun _ _ => ⟨.slc_eq rfl (fun _ _ => rfl), .int_eq rfl, .int_eq rfl, trivial⟩⟩, trivial⟩, rfl, rfl⟩
end Go.Am
