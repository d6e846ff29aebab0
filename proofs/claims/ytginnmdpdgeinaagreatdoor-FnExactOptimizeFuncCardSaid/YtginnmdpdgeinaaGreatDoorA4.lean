/- Models of Go functions, and their walks. (Printed by tools/mg.py.) -/
import Derived.Test.YtginnmdpdgeinaaGreatDoorA3
set_option linter.unusedVariables false
set_option linter.unusedSimpArgs false
set_option maxRecDepth 100000
namespace Go.Am
open Go Go.RowKit Go.Proofs
def m_i_HeightsOf_c1 (a0 : Int) (a1 : Int) (a2 : List Int) (a3 : List Int) : Option (Bool × (List Int) × (List Int)) :=
 ((
 (if a0 ≥ (a2.length : Int) then
 some (.inr (false, a2, a3))
 else
 m_i_InRange a1 0 500 >>= fun v5 =>
 (if v5 = true then
 idx a2 a0 >>= fun x8 =>
 (if x8 ≥ 0 then
 idx a2 a0 >>= fun x11 =>
 (if x11 = a1 then
 some (.inl ())
 else
 some (.inr (false, a2, a3)))
 else
 some (.inl ()))
 else
 some (.inr (false, a2, a3))))
 : Option ((Unit) ⊕ (Bool × (List Int) × (List Int)))) >>= fun o1 => match o1 with
 | .inr r => some r
 | .inl _ =>
 idx a2 a0 >>= fun x14 =>
 (if x14 < 0 then
 idx a2 a0 >>= fun x17 =>
 lapp 8 a3 ([a0] : List Int) >>= fun l19 =>
 some (true, (a2.set a0.toNat a1), l19)
 else
 some (true, a2, a3))
 )
theorem ok_i_HeightsOf_c1 {a0 : Int} {a1 : Int} {a2 : List Int} {a3 : List Int} {r : Bool × (List Int) × (List Int)} {g1000 : Nat} {g1001 : Nat} {g1002 : Nat} {g1003 : Nat} (h : m_i_HeightsOf_c1 a0 a1 a2 a3 = some r) : ACall Tryz.prog 110 [.int .i64 a0, .int .i64 a1, .optr 0 g1000 0 0, .optr 2 g1002 0 0] [.row g1000 1 1 59 (fun _ => [.own 1 g1001 0 a2.length]), .row g1001 1 a2.length 3 (row cI a2), .row g1002 1 1 59 (fun _ => [.own 3 g1003 0 a3.length]), .row g1003 1 a3.length 3 (row cI a3)] (fun res h => ∃ G1 : Nat, ∃ G3 : Nat, res = .bool r.1 ∧ h = [.row g1000 1 1 59 (fun _ => [.own 1 G1 0 r.2.1.length]), .row G1 1 r.2.1.length 3 (row cI r.2.1), .row g1002 1 1 59 (fun _ => [.own 3 G3 0 r.2.2.length]), .row G3 1 r.2.2.length 3 (row cI r.2.2)]) := by
 refine vc1 Tryz.func110 ?_
 unfold m_i_HeightsOf_c1 at h
 refine .d ?_
 obtain ⟨o1, ho2, hk3⟩ := bd h
 replace h := ho2
 refine .cut (fun σ η => .inl () = o1 ∧ σ = [(0, .int .i64 a0), (1, .int .i64 a1), (2, .optr 0 g1000 0 0), (3, .optr 2 g1002 0 0)] ∧ η = [.row g1000 1 1 59 (fun _ => [.own 1 g1001 0 a2.length]), .row g1001 1 a2.length 3 (row cI a2), .row g1002 1 1 59 (fun _ => [.own 3 g1003 0 a3.length]), .row g1003 1 a3.length 3 (row cI a3)]) ?_ ?_
 refine .d ⟨rfl, _, rfl, ⟨rfl, (sD h (fun hb4 h => ?_) (fun hb4 h => ?_))⟩⟩
 refine .t (.t (.t (.t (.t (.t (.t (.t (.t (.t (.t (.t (.d ?_))))))))))))
 obtain rfl := si h
 replace h := hk3
 obtain rfl := si h
 exact en [0, 1, 2, 3] ⟨g1001, g1003, rfl, rfl⟩ .b ⟨(ob rfl ⟨.o, ⟨⟩⟩), od, (ob rfl ⟨.o, ⟨⟩⟩), od, ⟨⟩⟩
 refine .f (bk h fun v5 hv6 h => (pcP (ok_i_InRange hv6) (.f (.f (sVn h (fun hb7 h => ?_) (fun hb7 h => ?_))))))
 refine .t (.t (.t (.t (.t (.t (.t (.t (.d ?_))))))))
 obtain rfl := si h
 replace h := hk3
 obtain rfl := si h
 exact en [0, 1, 2, 3] ⟨g1001, g1003, rfl, rfl⟩ .b ⟨(ob rfl ⟨.o, ⟨⟩⟩), od, (ob rfl ⟨.o, ⟨⟩⟩), od, ⟨⟩⟩
 refine ⟨rfl, _, rfl, (.f (.f (bk h fun x8 hx9 h => ⟨rfl, idx_bd hx9, _, Nat.zero_add _, (.f ⟨rfl, _, ((idx_row hx9).trans rfl), (.f (.f (sD h (fun hb10 h => ?_) (fun hb10 h => ?_))))⟩)⟩)))⟩
 refine ⟨rfl, _, rfl, (.t (.t (bk h fun x11 hx12 h => ⟨rfl, idx_bd hx12, _, Nat.zero_add _, (.t ⟨rfl, _, ((idx_row hx12).trans rfl), (.t (.t (.f (.t (.f (sN h (fun hb13 h => ?_) (fun hb13 h => ?_)))))))⟩)⟩)))⟩
 refine .d ?_
 obtain rfl := si h
 replace h := hk3
 obtain rfl := si h
 exact en [0, 1, 2, 3] ⟨g1001, g1003, rfl, rfl⟩ .b ⟨(ob rfl ⟨.o, ⟨⟩⟩), od, (ob rfl ⟨.o, ⟨⟩⟩), od, ⟨⟩⟩
 exact ct ⟨si h, rfl, rfl⟩ (tk [0, 1, 2, 3] ⟨.i, .i, .p, .p, ⟨⟩⟩ ⟨(ob rfl ⟨.o, ⟨⟩⟩), od, (ob rfl ⟨.o, ⟨⟩⟩), od, ⟨⟩⟩)
 exact .f (.f (.f (.f (.f (.f (.f (.f (.f (ct ⟨si h, rfl, rfl⟩ (tk [0, 1, 2, 3] ⟨.i, .i, .p, .p, ⟨⟩⟩ ⟨(ob rfl ⟨.o, ⟨⟩⟩), od, (ob rfl ⟨.o, ⟨⟩⟩), od, ⟨⟩⟩))))))))))
 rintro _ _ ⟨rfl, rfl, rfl⟩
 replace h := hk3
 refine .d (.d ⟨rfl, _, rfl, (bk h fun x14 hx15 h => ⟨rfl, idx_bd hx15, _, Nat.zero_add _, ⟨rfl, _, ((idx_row hx15).trans rfl), (sD h (fun hb16 h => ?_) (fun hb16 h => ?_))⟩⟩)⟩)
 refine .d ⟨rfl, _, rfl, (bk h fun x17 hx18 h => ⟨rfl, idx_bd hx18, _, Nat.zero_add _, ⟨rfl, _, row cI (a2.set a0.toNat a1), ((idx_row hx18).trans rfl), row_set (idx_lt hx18) rfl ⟨.same _, trivial⟩, ⟨rfl, _, rfl, ⟨row cI ([a0] : List Int), row_lit cI ([a0] : List Int) rfl (cll_refl rfl), (bk h fun l19 hx20 h => ⟨rfl, rfl, lapp_bd hx20, l19.length, row cI l19, lapp_len hx20, lapp_row hx20 shows_all (src_own shows_all), ⟨rfl, _, fun _ => [.own 3 (g1003 + 1) 0 l19.length], rfl, one_set rfl, (.d ?_)⟩⟩)⟩⟩⟩⟩)⟩
 obtain rfl := si h
 exact en [0, 1, 2, 3] ⟨g1001, (g1003 + 1), rfl, rfl⟩ .b ⟨(ob rfl ⟨(.ox ln), ⟨⟩⟩), (odx rfl ln), (ob rfl ⟨.o, ⟨⟩⟩), od, ⟨⟩⟩
 refine .d ?_
 obtain rfl := si h
 exact en [0, 1, 2, 3] ⟨g1001, g1003, rfl, rfl⟩ .b ⟨(ob rfl ⟨.o, ⟨⟩⟩), od, (ob rfl ⟨.o, ⟨⟩⟩), od, ⟨⟩⟩
def m_i_HeightsOf_L2 (a0 : TFunc) (l8 : List Int) (y9 : Int) : Option (((List Int)) ⊕ ((List Int) × Bool)) :=
 (if y9 < (a0.fCode.length : Int) then
 idx a0.fCode y9 >>= fun x13 =>
 m_i_IsIns x13 (a0.fSlots.length : Int) (a0.fCode.length : Int) >>= fun v15 =>
 (if v15 = true then
 idx l8 y9 >>= fun x18 =>
 m_i_HeightsOf_L2 a0 (l8.set y9.toNat (-1)) (W64 (y9 + 1))
 else
 some (.inr ([], false)))
 else
 some (.inl l8))
partial_fixpoint
def m_i_HeightsOf_L4 (a0 : TFunc) (l28 : List Int) (l29 : List Int) : Option (((List Int)) ⊕ ((List Int) × Bool)) :=
 (if (l29.length : Int) > 0 then
 idx l29 (W64 ((l29.length : Int) - 1)) >>= fun x33 =>
 (
 lto l29 (W64 ((l29.length : Int) - 1)) >>= fun l39 =>
 some l39
 : Option ((List Int))) >>= fun l35 =>
 idx a0.fCode x33 >>= fun x41 =>
 idx l28 x33 >>= fun x43 =>
 m_i_InsNeed x41 >>= fun v45 =>
 (if v45 > x43 then
 some (.inr ([], false))
 else
 m_i_IsFinal x41.fOp >>= fun v48 =>
 (if v48 = true then
 m_i_HasTarget x41.fOp >>= fun v72 =>
 (if v72 = true then
 m_i_TargetChange x41.fOp >>= fun v75 =>
 m_i_HeightsOf_c1 x41.fA (W64 (x43 + v75)) l28 l35 >>= fun (v77, v78, v79) =>
 (if v77 = true then
 m_i_HeightsOf_L4 a0 v78 v79
 else
 some (.inr ([], false)))
 else
 m_i_HeightsOf_L4 a0 l28 l35)
 else
 m_i_InsChange x41 >>= fun v51 =>
 m_i_HeightsOf_c1 (W64 (x33 + 1)) (W64 (x43 + v51)) l28 l35 >>= fun (v53, v54, v55) =>
 (if v53 = true then
 m_i_HasTarget x41.fOp >>= fun v60 =>
 (if v60 = true then
 m_i_TargetChange x41.fOp >>= fun v63 =>
 m_i_HeightsOf_c1 x41.fA (W64 (x43 + v63)) v54 v55 >>= fun (v65, v66, v67) =>
 (if v65 = true then
 m_i_HeightsOf_L4 a0 v66 v67
 else
 some (.inr ([], false)))
 else
 m_i_HeightsOf_L4 a0 v54 v55)
 else
 some (.inr ([], false)))))
 else
 some (.inl l28))
partial_fixpoint
def m_i_HeightsOf (a0 : TFunc) : Option ((List Int) × Bool) :=
 (if (a0.fCode.length : Int) = 0 then
 some ([], false)
 else
 (lmake 8 (a0.fCode.length : Int) (a0.fCode.length : Int) : Option (List Int)) >>= fun l2 =>
 ((
 m_i_HeightsOf_L2 a0 l2 0
 : Option (((List Int)) ⊕ ((List Int) × Bool))) >>= fun o5 => match o5 with
 | .inr r => some r
 | .inl l4 =>
 idx l4 0 >>= fun x22 =>
 ((
 m_i_HeightsOf_L4 a0 (l4.set ((0 : Int).toNat) 0) ([0] : List Int)
 : Option (((List Int)) ⊕ ((List Int) × Bool))) >>= fun o25 => match o25 with
 | .inr r => some r
 | .inl l24 =>
 some (l24, true)
 )
 ))
theorem ok_i_HeightsOf {a0 : TFunc} {r : (List Int) × Bool} (h : m_i_HeightsOf a0 = some r) : ACall Tryz.prog 68 [.agg a0.lit] [] (fun res h => res = .tup [sl 1 cI r.1, .bool r.2] ∧ h = []) := by
 refine vc1 Tryz.func68 ?_
 unfold m_i_HeightsOf at h
 refine .d (.d (.d ⟨rfl, ⟨rfl, _, rfl, (sE h (fun hb1 h => ?_) (fun hb1 h => ?_))⟩⟩))
 refine .d ?_
 obtain rfl := si h
 exact en [] ⟨rfl, rfl⟩ (.tup_l ⟨.z, .b, ⟨⟩⟩) ⟨⟩
 refine .d ⟨rfl, ⟨rfl, _, rfl, (bk h fun l2 hx3 h => ⟨lmake_bd hx3, l2.length, row cI l2, lmake_len hx3, lmake_row hx3 rfl ⟨.same _, trivial⟩, ⟨rfl, _, fun _ => [.own 1 0 0 l2.length], rfl, one_set rfl, ?_⟩⟩)⟩⟩
 obtain ⟨o5, ho6, hk7⟩ := bd h
 replace h := ho6
 refine .cut (fun σ η => ∃ l4, .inl l4 = o5 ∧ σ = [(1, .optr 0 0 0 0), (4, .optr 1 0 0 0)] ∧ η = [.row 0 6 1 32 (fun _ => a0.lit), .row 0 1 1 59 (fun _ => [.own 2 0 0 l4.length]), .row 0 1 l4.length 3 (row cI l4)]) ?_ ?_
 refine .d ⟨rfl, ⟨rfl, _, rfl, ?_⟩⟩
 refine le (m_i_HeightsOf_L2.partial_correctness a0 (motive := fun l8 y9 o20 => o5 = o20 → LoopAt _ _ [(1, .optr 0 0 0 0), (4, .optr 1 0 0 0), (21, sl 5 TIns.cells a0.fCode), (22, .int .i64 (a0.fCode.length : Int)), (23, .int .i64 y9)] [.row 0 6 1 32 (fun _ => a0.lit), .row 0 1 1 59 (fun _ => [.own 2 0 0 l8.length]), .row 0 1 l8.length 3 (row cI l8)]) ?_ l2 0 o5 h rfl) (tk [0, 2, 1] ⟨.p, .p, .l, .i, .i, ⟨⟩⟩ ⟨(nbp rfl), (nb rfl ⟨.o, ⟨⟩⟩), nw, ⟨⟩⟩)
 intro F11 ih10 l8 y9 o20 h hr21
 subst hr21
 refine LoopAt.round (.d (.d (sD h (fun hb12 h => ?_) (fun hb12 h => ?_))))
 refine .d (.d (bk h fun x13 hx14 h => ⟨idx_bd hx14, _, (idx_row hx14).trans (TIns.cells_eq x13), ⟨rfl, _, fun _ => [.int .i64 x13.fOp, .int .i64 x13.fA, .int .i64 x13.fB, .str x13.fS, .str x13.fT], rfl, one_set rfl, (.d (.d ⟨rfl, _, rfl, ⟨rfl, ⟨rfl, _, rfl, ⟨rfl, ⟨rfl, _, rfl, (bk h fun v15 hv16 h => (pcP (ok_i_IsIns hv16) (sVn h (fun hb17 h => ?_) (fun hb17 h => ?_))))⟩⟩⟩⟩⟩))⟩⟩))
 refine .d ?_
 obtain rfl := si h
 replace h := hk7
 obtain rfl := si h
 exact en [] ⟨rfl, rfl⟩ (.tup_l ⟨.z, .b, ⟨⟩⟩) ⟨⟩
 exact ⟨rfl, _, rfl, (bk h fun x18 hx19 h => ⟨rfl, idx_bd hx19, _, Nat.zero_add _, ⟨rfl, _, row cI (l8.set y9.toNat (-1)), ((idx_row hx19).trans rfl), row_set (idx_lt hx19) rfl ⟨.same _, trivial⟩, (lg (ih10 _ _ _ h rfl) (tk [0, 1, 2] ⟨.p, .p, .l, .i, .i, ⟨⟩⟩ ⟨(nbp rfl), (nb rfl ⟨(.ox ln), ⟨⟩⟩), (nwx rfl ln), ⟨⟩⟩))⟩⟩)⟩
 exact ct ⟨_, si h, rfl, rfl⟩ (tk [0, 1, 2] ⟨.p, .p, ⟨⟩⟩ ⟨(nbp rfl), (nb rfl ⟨.o, ⟨⟩⟩), nw, ⟨⟩⟩)
 rintro _ _ ⟨l4, rfl, rfl, rfl⟩
 replace h := hk7
 refine .d ⟨rfl, _, rfl, (bk h fun x22 hx23 h => ⟨rfl, idx_bd hx23, _, Nat.zero_add _, ⟨rfl, _, row cI (l4.set ((0 : Int).toNat) 0), ((idx_row hx23).trans rfl), row_set (idx_lt hx23) rfl ⟨.same _, trivial⟩, (.d ⟨row cI ([0] : List Int), row_lit cI ([0] : List Int) rfl (cll_refl rfl), ⟨rfl, _, fun _ => [.own 3 0 0 ([0] : List Int).length], rfl, one_set rfl, (.d ?_)⟩⟩)⟩⟩)⟩
 obtain ⟨o25, ho26, hk27⟩ := bd h
 replace h := ho26
 refine .cut (fun σ η => ∃ l24, .inl l24 = o25 ∧ σ = [(4, .optr 0 0 0 0)] ∧ η = [.row 0 1 1 59 (fun _ => [.own 1 0 0 l24.length]), .row 0 1 l24.length 3 (row cI l24)]) ?_ ?_
 refine le (m_i_HeightsOf_L4.partial_correctness a0 (motive := fun l28 l29 o84 => o25 = o84 → LoopAt _ _ [(1, .optr 0 0 0 0), (4, .optr 1 0 0 0), (7, .optr 3 0 0 0), (8, .clo 110 [(1, 0), (3, 0)])] [.row 0 6 1 32 (fun _ => a0.lit), .row 0 1 1 59 (fun _ => [.own 2 0 0 l28.length]), .row 0 1 l28.length 3 (row cI l28), .row 0 1 1 59 (fun _ => [.own 4 0 0 l29.length]), .row 0 1 l29.length 3 (row cI l29)]) ?_ (l4.set ((0 : Int).toNat) 0) ([0] : List Int) o25 h rfl) (tk [0, 1, 2, 4, 3] ⟨.p, .p, .p, (.clo_l ⟨⟨rfl, ⟨_, _, _, _, rfl⟩, ⟨_, _, _, _, rfl, Nat.zero_lt_one⟩⟩, ⟨rfl, ⟨_, _, _, _, rfl⟩, ⟨_, _, _, _, rfl, Nat.zero_lt_one⟩⟩, trivial⟩), ⟨⟩⟩ ⟨(nbp rfl), (nb rfl ⟨(.ox ln), ⟨⟩⟩), (nwx rfl ln), (nb rfl ⟨.o, ⟨⟩⟩), nw, ⟨⟩⟩)
 intro F31 ih30 l28 l29 o84 h hr85
 subst hr85
 refine LoopAt.round (.d (.d ⟨rfl, _, rfl, ⟨rfl, (sD h (fun hb32 h => ?_) (fun hb32 h => ?_))⟩⟩))
 refine .d ⟨rfl, _, rfl, ⟨rfl, _, rfl, ⟨rfl, (bk h fun x33 hx34 h => ⟨rfl, idx_bd hx34, _, Nat.zero_add _, ⟨rfl, _, ((idx_row hx34).trans rfl), ?_⟩⟩)⟩⟩⟩
 obtain ⟨o36, ho37, hk38⟩ := bd h
 replace h := ho37
 refine .cut (fun σ η => ∃ l35, l35 = o36 ∧ σ = [(1, .optr 0 0 0 0), (4, .optr 1 0 0 0), (7, .optr 3 0 0 0), (8, .clo 110 [(1, 0), (3, 0)]), (9, .int .i64 x33)] ∧ η = [.row 0 6 1 32 (fun _ => a0.lit), .row 0 1 1 59 (fun _ => [.own 2 0 0 l28.length]), .row 0 1 l28.length 3 (row cI l28), .row 0 1 1 59 (fun _ => [.own 4 0 0 l35.length]), .row 0 1 l35.length 3 (row cI l35)]) ?_ ?_
 exact ⟨rfl, _, rfl, ⟨rfl, _, rfl, ⟨rfl, (bk h fun l39 hx40 h => ⟨rfl, trivial, lto_bd hx40, _, l39.length, rfl, lto_len hx40, ⟨rfl, _, fun _ => [.own 4 0 0 l39.length], rfl, one_set rfl, (ct ⟨_, si h, rfl, rfl⟩ (tk [0, 1, 2, 3, 4] ⟨.p, .p, .p, (.clo_l ⟨⟨rfl, ⟨_, _, _, _, rfl⟩, ⟨_, _, _, _, rfl, Nat.zero_lt_one⟩⟩, ⟨rfl, ⟨_, _, _, _, rfl⟩, ⟨_, _, _, _, rfl, Nat.zero_lt_one⟩⟩, trivial⟩), .i, ⟨⟩⟩ ⟨(nbp rfl), (nb rfl ⟨.o, ⟨⟩⟩), nw, (nb rfl ⟨.o, ⟨⟩⟩), ⟨fun h0 => absurd (show 4 < 0 from h0) (by decide), rfl, .inr ⟨(show 0 ≤ 4 by decide), (by decide), (lto_le hx40)⟩, rfl, (fz_shows cI_pure (shows_lto shows_all hx40))⟩, ⟨⟩⟩))⟩⟩)⟩⟩⟩
 rintro _ _ ⟨l35, rfl, rfl, rfl⟩
 replace h := hk38
 refine .d ⟨rfl, ⟨rfl, _, rfl, (bk h fun x41 hx42 h => ⟨idx_bd hx42, _, (idx_row hx42).trans (TIns.cells_eq x41), ⟨rfl, _, fun _ => [.int .i64 x41.fOp, .int .i64 x41.fA, .int .i64 x41.fB, .str x41.fS, .str x41.fT], rfl, one_set rfl, (.d ⟨rfl, _, rfl, (bk h fun x43 hx44 h => ⟨rfl, idx_bd hx44, _, Nat.zero_add _, ⟨rfl, _, ((idx_row hx44).trans rfl), (.d (.float [(0, true), (2, true), (1, false), (3, true), (4, true), (5, true), (6, true), (7, false), (8, true), (9, true), (10, true), (11, true), (12, true), (13, true), (14, true), (15, false), (16, true), (17, false), (18, true), (19, true), (20, true), (21, true), (22, true), (23, true), (24, false), (25, true), (26, true), (27, true), (28, true), (29, true), (30, true), (31, true), (32, false), (33, true), (34, false), (35, true), (36, true), (37, true)] (by kernel_rfl) ?_))⟩⟩)⟩)⟩⟩)⟩⟩
 refine ⟨rfl, _, rfl, (bk h fun v45 hv46 h => (pcP (ok_i_InsNeed hv46) (sD h (fun hb47 h => ?_) (fun hb47 h => ?_))))⟩
 refine .t (.t (.t (.t (.t (.t (.t (.t (.t (.t ⟨rfl, (.t (.t (.t (.d ?_))))⟩)))))))))
 obtain rfl := si h
 replace h := hk27
 obtain rfl := si h
 exact en [] ⟨rfl, rfl⟩ (.tup_l ⟨.z, .b, ⟨⟩⟩) ⟨⟩
 refine ⟨rfl, (.f ⟨rfl, _, rfl, (.f (bk h fun v48 hv49 h => (pcP (ok_i_IsFinal hv49) (.f (.f (sVn h (fun hb50 h => ?_) (fun hb50 h => ?_)))))))⟩)⟩
 refine .t (.t (.t (.t ⟨rfl, _, rfl, (.t (bk h fun v51 hv52 h => (pcP (ok_i_InsChange hv52) (.t (.t ?_)))))⟩)))
 obtain ⟨⟨v53, v54, v55⟩, hv56, h⟩ := bd h
 refine ⟨fun res h' => ∃ g57 : Nat, ∃ g58 : Nat, res = .bool v53 ∧ h' = [.row 0 6 1 32 (fun _ => a0.lit), .row 0 1 1 59 (fun _ => [.own 2 g57 0 v54.length]), .row g57 1 v54.length 3 (row cI v54), .row 0 1 1 59 (fun _ => [.own 4 g58 0 v55.length]), .row g58 1 v55.length 3 (row cI v55), .row 0 5 1 46 (fun _ => x41.lit)], (ACall.over (ok_i_HeightsOf_c1 (g1000 := 0) (g1001 := 0) (g1002 := 0) (g1003 := 0) hv56) [1, 2, 3, 4] [.row 0 6 1 32 (fun _ => a0.lit), .row 0 1 1 59 (fun _ => [.own 2 0 0 l28.length]), .row 0 1 l28.length 3 (row cI l28), .row 0 1 1 59 (fun _ => [.own 4 0 0 l35.length]), .row 0 1 l35.length 3 (row cI l35), .row 0 5 1 46 (fun _ => x41.lit)] rfl (by decide) (by simp) (by intro j o hj; exact match j, hj with | 0, hj => by cases hj; rfl | 1, hj => by cases hj; exact (congrArg some (renO_row cI_pure _ _ _ _ _ _)).symm | 2, hj => by cases hj; rfl | 3, hj => by cases hj; exact (congrArg some (renO_row cI_pure _ _ _ _ _ _)).symm | j + 4, hj => by cases hj) rfl).mono (by rintro _ _ ⟨_, _, ⟨g57, g58, rfl, rfl⟩, rfl, rfl⟩; exact ⟨g57, g58, rfl, (by simp only [nxtL, putSel, List.map_cons, List.map_nil, List.drop, List.length_cons, List.length_nil, renO_row cI_pure]; rfl)⟩), ?_⟩
 rintro _ _ ⟨g57, g58, rfl, rfl⟩
 refine .t (.f (.t (.f (sVn h (fun hb59 h => ?_) (fun hb59 h => ?_)))))
 refine .t (.t (.t ⟨rfl, (.t (.t (.t (.d ?_))))⟩))
 obtain rfl := si h
 replace h := hk27
 obtain rfl := si h
 exact en [] ⟨rfl, rfl⟩ (.tup_l ⟨.z, .b, ⟨⟩⟩) ⟨⟩
 refine ⟨rfl, (.f ⟨rfl, _, rfl, (.f (bk h fun v60 hv61 h => (pcP (ok_i_HasTarget hv61) (.f (sV h (fun hb62 h => ?_) (fun hb62 h => ?_))))))⟩)⟩
 refine .t ⟨rfl, (.t ⟨rfl, _, rfl, (.t (.t ⟨rfl, (.t ⟨rfl, _, rfl, (.t (bk h fun v63 hv64 h => (pcP (ok_i_TargetChange hv64) ⟨rfl, ⟨rfl, (.t ?_)⟩⟩)))⟩)⟩))⟩)⟩
 refine .t ?_
 obtain ⟨⟨v65, v66, v67⟩, hv68, h⟩ := bd h
 refine ⟨fun res h' => ∃ g69 : Nat, ∃ g70 : Nat, res = .bool v65 ∧ h' = [.row 0 6 1 32 (fun _ => a0.lit), .row 0 1 1 59 (fun _ => [.own 2 g69 0 v66.length]), .row g69 1 v66.length 3 (row cI v66), .row 0 1 1 59 (fun _ => [.own 4 g70 0 v67.length]), .row g70 1 v67.length 3 (row cI v67), .row 0 5 1 46 (fun _ => x41.lit)], (ACall.over (ok_i_HeightsOf_c1 (g1000 := 0) (g1001 := g57) (g1002 := 0) (g1003 := g58) hv68) [1, 2, 3, 4] [.row 0 6 1 32 (fun _ => a0.lit), .row 0 1 1 59 (fun _ => [.own 2 g57 0 v54.length]), .row g57 1 v54.length 3 (row cI v54), .row 0 1 1 59 (fun _ => [.own 4 g58 0 v55.length]), .row g58 1 v55.length 3 (row cI v55), .row 0 5 1 46 (fun _ => x41.lit)] rfl (by decide) (by simp) (by intro j o hj; exact match j, hj with | 0, hj => by cases hj; rfl | 1, hj => by cases hj; exact (congrArg some (renO_row cI_pure _ _ _ _ _ _)).symm | 2, hj => by cases hj; rfl | 3, hj => by cases hj; exact (congrArg some (renO_row cI_pure _ _ _ _ _ _)).symm | j + 4, hj => by cases hj) rfl).mono (by rintro _ _ ⟨_, _, ⟨g69, g70, rfl, rfl⟩, rfl, rfl⟩; exact ⟨g69, g70, rfl, (by simp only [nxtL, putSel, List.map_cons, List.map_nil, List.drop, List.length_cons, List.length_nil, renO_row cI_pure]; rfl)⟩), ?_⟩
 rintro _ _ ⟨g69, g70, rfl, rfl⟩
 refine .t (.f (.t (.f (sVn h (fun hb71 h => ?_) (fun hb71 h => ?_)))))
 refine .d ?_
 obtain rfl := si h
 replace h := hk27
 obtain rfl := si h
 exact en [] ⟨rfl, rfl⟩ (.tup_l ⟨.z, .b, ⟨⟩⟩) ⟨⟩
 exact lg (ih30 _ _ _ h rfl) (tk [0, 1, 2, 3, 4] ⟨.p, .p, .p, (.clo_l ⟨⟨rfl, ⟨_, _, _, _, rfl⟩, ⟨_, _, _, _, rfl, Nat.zero_lt_one⟩⟩, ⟨rfl, ⟨_, _, _, _, rfl⟩, ⟨_, _, _, _, rfl, Nat.zero_lt_one⟩⟩, trivial⟩), ⟨⟩⟩ ⟨(nbp rfl), (nb rfl ⟨.o, ⟨⟩⟩), nw, (nb rfl ⟨.o, ⟨⟩⟩), nw, ⟨⟩⟩)
 exact .f (.f (.f (.f (.f (.f ⟨rfl, (.f (.f (.f (.f (.f (.f (.f (lg (ih30 _ _ _ h rfl) (tk [0, 1, 2, 3, 4] ⟨.p, .p, .p, (.clo_l ⟨⟨rfl, ⟨_, _, _, _, rfl⟩, ⟨_, _, _, _, rfl, Nat.zero_lt_one⟩⟩, ⟨rfl, ⟨_, _, _, _, rfl⟩, ⟨_, _, _, _, rfl, Nat.zero_lt_one⟩⟩, trivial⟩), ⟨⟩⟩ ⟨(nbp rfl), (nb rfl ⟨.o, ⟨⟩⟩), nw, (nb rfl ⟨.o, ⟨⟩⟩), nw, ⟨⟩⟩)))))))))⟩)))))
 refine .f (.f (.f (.f (.f (.f (.f (.f (.f (.f (.f (.f ⟨rfl, (.f ⟨rfl, _, rfl, ?_⟩)⟩)))))))))))
 refine .f (bk h fun v72 hv73 h => (pcP (ok_i_HasTarget hv73) (.f (sV h (fun hb74 h => ?_) (fun hb74 h => ?_)))))
 refine .t ⟨rfl, (.t ⟨rfl, _, rfl, (.t (.t ⟨rfl, (.t ⟨rfl, _, rfl, (.t (bk h fun v75 hv76 h => (pcP (ok_i_TargetChange hv76) ⟨rfl, ⟨rfl, (.t ?_)⟩⟩)))⟩)⟩))⟩)⟩
 refine .t ?_
 obtain ⟨⟨v77, v78, v79⟩, hv80, h⟩ := bd h
 refine ⟨fun res h' => ∃ g81 : Nat, ∃ g82 : Nat, res = .bool v77 ∧ h' = [.row 0 6 1 32 (fun _ => a0.lit), .row 0 1 1 59 (fun _ => [.own 2 g81 0 v78.length]), .row g81 1 v78.length 3 (row cI v78), .row 0 1 1 59 (fun _ => [.own 4 g82 0 v79.length]), .row g82 1 v79.length 3 (row cI v79), .row 0 5 1 46 (fun _ => x41.lit)], (ACall.over (ok_i_HeightsOf_c1 (g1000 := 0) (g1001 := 0) (g1002 := 0) (g1003 := 0) hv80) [1, 2, 3, 4] [.row 0 6 1 32 (fun _ => a0.lit), .row 0 1 1 59 (fun _ => [.own 2 0 0 l28.length]), .row 0 1 l28.length 3 (row cI l28), .row 0 1 1 59 (fun _ => [.own 4 0 0 l35.length]), .row 0 1 l35.length 3 (row cI l35), .row 0 5 1 46 (fun _ => x41.lit)] rfl (by decide) (by simp) (by intro j o hj; exact match j, hj with | 0, hj => by cases hj; rfl | 1, hj => by cases hj; exact (congrArg some (renO_row cI_pure _ _ _ _ _ _)).symm | 2, hj => by cases hj; rfl | 3, hj => by cases hj; exact (congrArg some (renO_row cI_pure _ _ _ _ _ _)).symm | j + 4, hj => by cases hj) rfl).mono (by rintro _ _ ⟨_, _, ⟨g81, g82, rfl, rfl⟩, rfl, rfl⟩; exact ⟨g81, g82, rfl, (by simp only [nxtL, putSel, List.map_cons, List.map_nil, List.drop, List.length_cons, List.length_nil, renO_row cI_pure]; rfl)⟩), ?_⟩
 rintro _ _ ⟨g81, g82, rfl, rfl⟩
 refine .t (.f (.t (.f (sVn h (fun hb83 h => ?_) (fun hb83 h => ?_)))))
 refine .d ?_
 obtain rfl := si h
 replace h := hk27
 obtain rfl := si h
 exact en [] ⟨rfl, rfl⟩ (.tup_l ⟨.z, .b, ⟨⟩⟩) ⟨⟩
 exact lg (ih30 _ _ _ h rfl) (tk [0, 1, 2, 3, 4] ⟨.p, .p, .p, (.clo_l ⟨⟨rfl, ⟨_, _, _, _, rfl⟩, ⟨_, _, _, _, rfl, Nat.zero_lt_one⟩⟩, ⟨rfl, ⟨_, _, _, _, rfl⟩, ⟨_, _, _, _, rfl, Nat.zero_lt_one⟩⟩, trivial⟩), ⟨⟩⟩ ⟨(nbp rfl), (nb rfl ⟨.o, ⟨⟩⟩), nw, (nb rfl ⟨.o, ⟨⟩⟩), nw, ⟨⟩⟩)
 exact .f (.f (.f (.f (.f (.f ⟨rfl, (.f (.f (.f (.f (.f (.f (.f (lg (ih30 _ _ _ h rfl) (tk [0, 1, 2, 3, 4] ⟨.p, .p, .p, (.clo_l ⟨⟨rfl, ⟨_, _, _, _, rfl⟩, ⟨_, _, _, _, rfl, Nat.zero_lt_one⟩⟩, ⟨rfl, ⟨_, _, _, _, rfl⟩, ⟨_, _, _, _, rfl, Nat.zero_lt_one⟩⟩, trivial⟩), ⟨⟩⟩ ⟨(nbp rfl), (nb rfl ⟨.o, ⟨⟩⟩), nw, (nb rfl ⟨.o, ⟨⟩⟩), nw, ⟨⟩⟩)))))))))⟩)))))
 exact ct ⟨_, si h, rfl, rfl⟩ (tk [1, 2] ⟨.p, ⟨⟩⟩ ⟨(nb rfl ⟨.o, ⟨⟩⟩), nw, ⟨⟩⟩)
 rintro _ _ ⟨l24, rfl, rfl, rfl⟩
 replace h := hk27
 refine .d ⟨rfl, _, rfl, ?_⟩
 obtain rfl := si h
 exact en [] ⟨rfl, rfl⟩ (.tup_l ⟨.r, .b, ⟨⟩⟩) ⟨⟩
def m_s_l27Give (a0 : List Int) (a1 : Int) (a2 : Int) : Option (Bool × Bool × (List Int)) :=
 ((
 (if a1 ≥ (a0.length : Int) then
 some (.inr (false, false, a0))
 else
 m_s_l1In a2 0 500 >>= fun v5 =>
 (if v5 = true then
 idx a0 a1 >>= fun x8 =>
 (if x8 ≥ 0 then
 idx a0 a1 >>= fun x11 =>
 (if x11 = a2 then
 some (.inl ())
 else
 some (.inr (false, false, a0)))
 else
 some (.inl ()))
 else
 some (.inr (false, false, a0))))
 : Option ((Unit) ⊕ (Bool × Bool × (List Int)))) >>= fun o1 => match o1 with
 | .inr r => some r
 | .inl _ =>
 idx a0 a1 >>= fun x14 =>
 idx a0 a1 >>= fun x16 =>
 some ((decide (x14 < 0)), true, (a0.set a1.toNat a2))
 )
theorem ok_s_l27Give {a0 : List Int} {a1 : Int} {a2 : Int} {r : Bool × Bool × (List Int)} {g1000 : Nat} (h : m_s_l27Give a0 a1 a2 = some r) : ACall Tryz.prog 92 [.own 0 g1000 0 a0.length, .int .i64 a1, .int .i64 a2] [.row g1000 1 a0.length 3 (row cI a0)] (fun res h => res = .tup [.bool r.1, .bool r.2.1] ∧ h = [.row g1000 1 a0.length 3 (row cI r.2.2)]) := by
 refine vc1 Tryz.func92 ?_
 unfold m_s_l27Give at h
 refine .d ?_
 obtain ⟨o1, ho2, hk3⟩ := bd h
 replace h := ho2
 refine .cut (fun σ η => .inl () = o1 ∧ σ = [(0, .own 0 g1000 0 a0.length), (1, .int .i64 a1), (2, .int .i64 a2)] ∧ η = [.row g1000 1 a0.length 3 (row cI a0)]) ?_ ?_
 refine .d ⟨rfl, (sD h (fun hb4 h => ?_) (fun hb4 h => ?_))⟩
 refine .t (.t (.t (.t (.t (.t (.t (.t (.t (.t (.t (.t (.d ?_))))))))))))
 obtain rfl := si h
 replace h := hk3
 obtain rfl := si h
 exact en [0] ⟨rfl, rfl⟩ (.tup_l ⟨.b, .b, ⟨⟩⟩) ⟨od, ⟨⟩⟩
 refine .f (bk h fun v5 hv6 h => (pcP (ok_s_l1In hv6) (.f (.f (sVn h (fun hb7 h => ?_) (fun hb7 h => ?_))))))
 refine .t (.t (.t (.t (.t (.t (.t (.t (.d ?_))))))))
 obtain rfl := si h
 replace h := hk3
 obtain rfl := si h
 exact en [0] ⟨rfl, rfl⟩ (.tup_l ⟨.b, .b, ⟨⟩⟩) ⟨od, ⟨⟩⟩
 refine .f (.f (bk h fun x8 hx9 h => ⟨rfl, idx_bd hx9, _, Nat.zero_add _, (.f ⟨rfl, _, ((idx_row hx9).trans rfl), (.f (.f (sD h (fun hb10 h => ?_) (fun hb10 h => ?_))))⟩)⟩))
 refine .t (.t (bk h fun x11 hx12 h => ⟨rfl, idx_bd hx12, _, Nat.zero_add _, (.t ⟨rfl, _, ((idx_row hx12).trans rfl), (.t (.t (.f (.t (.f (sN h (fun hb13 h => ?_) (fun hb13 h => ?_)))))))⟩)⟩))
 refine .d ?_
 obtain rfl := si h
 replace h := hk3
 obtain rfl := si h
 exact en [0] ⟨rfl, rfl⟩ (.tup_l ⟨.b, .b, ⟨⟩⟩) ⟨od, ⟨⟩⟩
 exact ct ⟨si h, rfl, rfl⟩ (tk [0] ⟨.o, .i, .i, ⟨⟩⟩ ⟨od, ⟨⟩⟩)
 exact .f (.f (.f (.f (.f (.f (.f (.f (.f (ct ⟨si h, rfl, rfl⟩ (tk [0] ⟨.o, .i, .i, ⟨⟩⟩ ⟨od, ⟨⟩⟩))))))))))
 rintro _ _ ⟨rfl, rfl, rfl⟩
 replace h := hk3
 refine .d (bk h fun x14 hx15 h => ⟨rfl, idx_bd hx15, _, Nat.zero_add _, ⟨rfl, _, ((idx_row hx15).trans rfl), (.d (bk h fun x16 hx17 h => ⟨rfl, idx_bd hx17, _, Nat.zero_add _, ⟨rfl, _, row cI (a0.set a1.toNat a2), ((idx_row hx17).trans rfl), row_set (idx_lt hx17) rfl ⟨.same _, trivial⟩, (.d ?_)⟩⟩))⟩⟩)
 obtain rfl := si h
 exact en [0] ⟨rfl, rfl⟩ (.tup_l ⟨.b, .b, ⟨⟩⟩) ⟨(odx rfl ln), ⟨⟩⟩
end Go.Am
