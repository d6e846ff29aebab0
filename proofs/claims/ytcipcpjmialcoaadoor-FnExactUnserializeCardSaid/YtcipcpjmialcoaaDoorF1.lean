/- Models of Go functions, and their walks. (Printed by tools/mg.py.) -/
import Derived.Test.YtcipcpjmialcoaaDoorTy
set_option linter.unusedVariables false
set_option linter.unusedSimpArgs false
namespace Go.Am
open Go Go.RowKit Go.Proofs
def m53 (a0 : Int) (a1 : Int) (a2 : Int) : Option (Bool) :=
 (if a0 ≥ a1 then
 some (decide (a0 ≤ a2))
 else
 some false)
theorem ok53 {a0 : Int} {a1 : Int} {a2 : Int} {r : Bool} (h : m53 a0 a1 a2 = some r) : ACall Tryd.prog 42 [.int .i64 a0, .int .i64 a1, .int .i64 a2] [] (fun res h => res = .bool r ∧ h = []) := by
 refine vc1 Tryd.func42 ?_
 unfold m53 at h
 refine .d (.d (sD h (fun hb1 h => ?_) (fun hb1 h => ?_)))
 exact .t (.t (.t (eB h)))
 exact .f (.f (.f (eB h)))
def m_i_NullValue : Option (TValue) :=
 some (TValue.mk 0 0 [] 0 [])
theorem ok_i_NullValue {r : TValue} (h : m_i_NullValue  = some r) : ACall Tryd.prog 19 [] [] (fun res h => res = .agg r.lit ∧ h = []) := by
 refine vc1 Tryd.func19 ?_
 unfold m_i_NullValue at h
 refine .d (.d ⟨rfl, _, fun _ => [.int .i64 0, .int .i64 0, .str [], .int .i64 0, .nils], rfl, one_set rfl, ?_⟩)
 obtain rfl := si h
 exact ⟨rfl, _, rfl, (en [] ⟨rfl, rfl⟩ (.agg_l ⟨.i, .i, .s, .i, .z, ⟨⟩⟩) ⟨⟩)⟩
theorem ok_i_NullValuex : ACall Tryd.prog 19 [] [] (fun res h => res = .agg [.int .i64 0, .int .i64 0, .str [], .int .i64 0, .nils] ∧ h = []) := by
 refine vc1 Tryd.func19 ?_
 exact .d (.d ⟨rfl, _, fun _ => [.int .i64 0, .int .i64 0, .str [], .int .i64 0, .nils], rfl, one_set rfl, ⟨rfl, _, rfl, (en [] ⟨rfl, rfl⟩ (.agg_l ⟨.i, .i, .s, .i, .nils, ⟨⟩⟩) ⟨⟩)⟩⟩)
def m92 (a0 : Int) (a1 : Int) (a2 : Int) : Option (Bool) :=
 (if a1 ≤ a0 then
 some (decide (a0 ≤ a2))
 else
 some false)
theorem ok92 {a0 : Int} {a1 : Int} {a2 : Int} {r : Bool} (h : m92 a0 a1 a2 = some r) : ACall Tryd.prog 71 [.int .i64 a0, .int .i64 a1, .int .i64 a2] [] (fun res h => res = .bool r ∧ h = []) := by
 refine vc1 Tryd.func71 ?_
 unfold m92 at h
 refine .d (.d (sD h (fun hb1 h => ?_) (fun hb1 h => ?_)))
 exact .t (.t (.t (eB h)))
 exact .f (.f (.f (eB h)))
def m_i_intKey (a0 : Int) : Option (TKey) :=
 some (TKey.mk false a0 [])
theorem ok_i_intKey {a0 : Int} {r : TKey} (h : m_i_intKey a0 = some r) : ACall Tryd.prog 64 [.int .i64 a0] [] (fun res h => res = .agg r.lit ∧ h = []) := by
 refine vc1 Tryd.func64 ?_
 unfold m_i_intKey at h
 refine .d (.d ⟨rfl, _, fun _ => [.bool false, .int .i64 a0, .str []], rfl, one_set rfl, ?_⟩)
 obtain rfl := si h
 exact ⟨rfl, _, rfl, (en [] ⟨rfl, rfl⟩ (.agg_l ⟨.b, .i, .s, ⟨⟩⟩) ⟨⟩)⟩
theorem ok_i_intKeyx (a0 : Int) : ACall Tryd.prog 64 [.int .i64 a0] [] (fun res h => res = .agg [.bool false, .int .i64 a0, .str []] ∧ h = []) := by
 refine vc1 Tryd.func64 ?_
 exact .d (.d ⟨rfl, _, fun _ => [.bool false, .int .i64 a0, .str []], rfl, one_set rfl, ⟨rfl, _, rfl, (en [] ⟨rfl, rfl⟩ (.agg_l ⟨.b, .i, .s, ⟨⟩⟩) ⟨⟩)⟩⟩)
def m_i_IntValue (a0 : Int) : Option (TValue) :=
 some (TValue.mk 2 a0 [] 0 [])
theorem ok_i_IntValue {a0 : Int} {r : TValue} (h : m_i_IntValue a0 = some r) : ACall Tryd.prog 46 [.int .i64 a0] [] (fun res h => res = .agg r.lit ∧ h = []) := by
 refine vc1 Tryd.func46 ?_
 unfold m_i_IntValue at h
 refine .d (.d ⟨rfl, _, fun _ => [.int .i64 2, .int .i64 a0, .str [], .int .i64 0, .nils], rfl, one_set rfl, ?_⟩)
 obtain rfl := si h
 exact ⟨rfl, _, rfl, (en [] ⟨rfl, rfl⟩ (.agg_l ⟨.i, .i, .s, .i, .z, ⟨⟩⟩) ⟨⟩)⟩
theorem ok_i_IntValuex (a0 : Int) : ACall Tryd.prog 46 [.int .i64 a0] [] (fun res h => res = .agg [.int .i64 2, .int .i64 a0, .str [], .int .i64 0, .nils] ∧ h = []) := by
 refine vc1 Tryd.func46 ?_
 exact .d (.d ⟨rfl, _, fun _ => [.int .i64 2, .int .i64 a0, .str [], .int .i64 0, .nils], rfl, one_set rfl, ⟨rfl, _, rfl, (en [] ⟨rfl, rfl⟩ (.agg_l ⟨.i, .i, .s, .i, .nils, ⟨⟩⟩) ⟨⟩)⟩⟩)
def m_i_TextValue (a0 : Str) : Option (TValue) :=
 some (TValue.mk 3 0 a0 0 [])
theorem ok_i_TextValue {a0 : Str} {r : TValue} (h : m_i_TextValue a0 = some r) : ACall Tryd.prog 48 [.str a0] [] (fun res h => res = .agg r.lit ∧ h = []) := by
 refine vc1 Tryd.func48 ?_
 unfold m_i_TextValue at h
 refine .d (.d ⟨rfl, _, fun _ => [.int .i64 3, .int .i64 0, .str a0, .int .i64 0, .nils], rfl, one_set rfl, ?_⟩)
 obtain rfl := si h
 exact ⟨rfl, _, rfl, (en [] ⟨rfl, rfl⟩ (.agg_l ⟨.i, .i, .s, .i, .z, ⟨⟩⟩) ⟨⟩)⟩
theorem ok_i_TextValuex (a0 : Str) : ACall Tryd.prog 48 [.str a0] [] (fun res h => res = .agg [.int .i64 3, .int .i64 0, .str a0, .int .i64 0, .nils] ∧ h = []) := by
 refine vc1 Tryd.func48 ?_
 exact .d (.d ⟨rfl, _, fun _ => [.int .i64 3, .int .i64 0, .str a0, .int .i64 0, .nils], rfl, one_set rfl, ⟨rfl, _, rfl, (en [] ⟨rfl, rfl⟩ (.agg_l ⟨.i, .i, .s, .i, .nils, ⟨⟩⟩) ⟨⟩)⟩⟩)
def m_i_ArrayValue : Option (TValue) :=
 some (TValue.mk 4 0 [] 0 [])
theorem ok_i_ArrayValue {r : TValue} (h : m_i_ArrayValue  = some r) : ACall Tryd.prog 62 [] [] (fun res h => res = .agg r.lit ∧ h = []) := by
 refine vc1 Tryd.func62 ?_
 unfold m_i_ArrayValue at h
 refine .d (.d ⟨rfl, _, fun _ => [.int .i64 4, .int .i64 0, .str [], .int .i64 0, .nils], rfl, one_set rfl, ?_⟩)
 obtain rfl := si h
 exact ⟨rfl, _, rfl, (en [] ⟨rfl, rfl⟩ (.agg_l ⟨.i, .i, .s, .i, .z, ⟨⟩⟩) ⟨⟩)⟩
theorem ok_i_ArrayValuex : ACall Tryd.prog 62 [] [] (fun res h => res = .agg [.int .i64 4, .int .i64 0, .str [], .int .i64 0, .nils] ∧ h = []) := by
 refine vc1 Tryd.func62 ?_
 exact .d (.d ⟨rfl, _, fun _ => [.int .i64 4, .int .i64 0, .str [], .int .i64 0, .nils], rfl, one_set rfl, ⟨rfl, _, rfl, (en [] ⟨rfl, rfl⟩ (.agg_l ⟨.i, .i, .s, .i, .nils, ⟨⟩⟩) ⟨⟩)⟩⟩)
def m93 (a0 : Int) (a1 : Int) : Option (Int) :=
 (if a1 > a0 then
 some a1
 else
 some a0)
theorem ok93 {a0 : Int} {a1 : Int} {r : Int} (h : m93 a0 a1 = some r) : ACall Tryd.prog 80 [.int .i64 a0, .int .i64 a1] [] (fun res h => res = .int .i64 r ∧ h = []) := by
 refine vc1 Tryd.func80 ?_
 unfold m93 at h
 refine .d (.d (.d (sD h (fun hb1 h => ?_) (fun hb1 h => ?_))))
 exact .d (eI h)
 exact .d (eI h)
def m91 (a0 : Int) (a1 : Int) : Option (Int) :=
 (if a1 > a0 then
 some a1
 else
 some a0)
theorem ok91 {a0 : Int} {a1 : Int} {r : Int} (h : m91 a0 a1 = some r) : ACall Tryd.prog 59 [.int .i64 a0, .int .i64 a1] [] (fun res h => res = .int .i64 r ∧ h = []) := by
 refine vc1 Tryd.func59 ?_
 unfold m91 at h
 refine .d (.d (.d (sD h (fun hb1 h => ?_) (fun hb1 h => ?_))))
 exact .d (eI h)
 exact .d (eI h)
def m_s_ArrayValue : Option (TValue) :=
 some (TValue.mk 4 0 [] 0 [])
theorem ok_s_ArrayValue {r : TValue} (h : m_s_ArrayValue  = some r) : ACall Tryd.prog 41 [] [] (fun res h => res = .agg r.lit ∧ h = []) := by
 refine vc1 Tryd.func41 ?_
 unfold m_s_ArrayValue at h
 refine .d (.d ⟨rfl, _, fun _ => [.int .i64 4, .int .i64 0, .str [], .int .i64 0, .nils], rfl, one_set rfl, ?_⟩)
 obtain rfl := si h
 exact ⟨rfl, _, rfl, (en [] ⟨rfl, rfl⟩ (.agg_l ⟨.i, .i, .s, .i, .z, ⟨⟩⟩) ⟨⟩)⟩
theorem ok_s_ArrayValuex : ACall Tryd.prog 41 [] [] (fun res h => res = .agg [.int .i64 4, .int .i64 0, .str [], .int .i64 0, .nils] ∧ h = []) := by
 refine vc1 Tryd.func41 ?_
 exact .d (.d ⟨rfl, _, fun _ => [.int .i64 4, .int .i64 0, .str [], .int .i64 0, .nils], rfl, one_set rfl, ⟨rfl, _, rfl, (en [] ⟨rfl, rfl⟩ (.agg_l ⟨.i, .i, .s, .i, .nils, ⟨⟩⟩) ⟨⟩)⟩⟩)
def m_s_IntValue (a0 : Int) : Option (TValue) :=
 some (TValue.mk 2 a0 [] 0 [])
theorem ok_s_IntValue {a0 : Int} {r : TValue} (h : m_s_IntValue a0 = some r) : ACall Tryd.prog 39 [.int .i64 a0] [] (fun res h => res = .agg r.lit ∧ h = []) := by
 refine vc1 Tryd.func39 ?_
 unfold m_s_IntValue at h
 refine .d (.d ⟨rfl, _, fun _ => [.int .i64 2, .int .i64 a0, .str [], .int .i64 0, .nils], rfl, one_set rfl, ?_⟩)
 obtain rfl := si h
 exact ⟨rfl, _, rfl, (en [] ⟨rfl, rfl⟩ (.agg_l ⟨.i, .i, .s, .i, .z, ⟨⟩⟩) ⟨⟩)⟩
theorem ok_s_IntValuex (a0 : Int) : ACall Tryd.prog 39 [.int .i64 a0] [] (fun res h => res = .agg [.int .i64 2, .int .i64 a0, .str [], .int .i64 0, .nils] ∧ h = []) := by
 refine vc1 Tryd.func39 ?_
 exact .d (.d ⟨rfl, _, fun _ => [.int .i64 2, .int .i64 a0, .str [], .int .i64 0, .nils], rfl, one_set rfl, ⟨rfl, _, rfl, (en [] ⟨rfl, rfl⟩ (.agg_l ⟨.i, .i, .s, .i, .nils, ⟨⟩⟩) ⟨⟩)⟩⟩)
def m_s_TextValue (a0 : Str) : Option (TValue) :=
 some (TValue.mk 3 0 a0 0 [])
theorem ok_s_TextValue {a0 : Str} {r : TValue} (h : m_s_TextValue a0 = some r) : ACall Tryd.prog 40 [.str a0] [] (fun res h => res = .agg r.lit ∧ h = []) := by
 refine vc1 Tryd.func40 ?_
 unfold m_s_TextValue at h
 refine .d (.d ⟨rfl, _, fun _ => [.int .i64 3, .int .i64 0, .str a0, .int .i64 0, .nils], rfl, one_set rfl, ?_⟩)
 obtain rfl := si h
 exact ⟨rfl, _, rfl, (en [] ⟨rfl, rfl⟩ (.agg_l ⟨.i, .i, .s, .i, .z, ⟨⟩⟩) ⟨⟩)⟩
theorem ok_s_TextValuex (a0 : Str) : ACall Tryd.prog 40 [.str a0] [] (fun res h => res = .agg [.int .i64 3, .int .i64 0, .str a0, .int .i64 0, .nils] ∧ h = []) := by
 refine vc1 Tryd.func40 ?_
 exact .d (.d ⟨rfl, _, fun _ => [.int .i64 3, .int .i64 0, .str a0, .int .i64 0, .nils], rfl, one_set rfl, ⟨rfl, _, rfl, (en [] ⟨rfl, rfl⟩ (.agg_l ⟨.i, .i, .s, .i, .nils, ⟨⟩⟩) ⟨⟩)⟩⟩)
def m_i_KeyValue (a0 : TKey) : Option (TValue) :=
 (if a0.fText = true then
 some (TValue.mk 3 0 a0.fStr 0 [])
 else
 some (TValue.mk 2 a0.fNum [] 0 []))
theorem ok_i_KeyValue {a0 : TKey} {r : TValue} (h : m_i_KeyValue a0 = some r) : ACall Tryd.prog 73 [.agg a0.lit] [] (fun res h => res = .agg r.lit ∧ h = []) := by
 refine vc1 Tryd.func73 ?_
 unfold m_i_KeyValue at h
 refine .d (.d (.d ⟨rfl, ⟨rfl, _, rfl, (sV h (fun hb1 h => ?_) (fun hb1 h => ?_))⟩⟩))
 refine .d ⟨rfl, ⟨rfl, _, rfl, (pcP (ok_i_TextValuex a0.fStr) ⟨rfl, _, fun _ => [.int .i64 3, .int .i64 0, .str a0.fStr, .int .i64 0, .nils], rfl, one_set rfl, ?_⟩)⟩⟩
 obtain rfl := si h
 exact ⟨rfl, _, rfl, (en [] ⟨rfl, rfl⟩ (.agg_l ⟨.i, .i, .s, .i, .z, ⟨⟩⟩) ⟨⟩)⟩
 refine .d ⟨rfl, ⟨rfl, _, rfl, (pcP (ok_i_IntValuex a0.fNum) ⟨rfl, _, fun _ => [.int .i64 2, .int .i64 a0.fNum, .str [], .int .i64 0, .nils], rfl, one_set rfl, ?_⟩)⟩⟩
 obtain rfl := si h
 exact ⟨rfl, _, rfl, (en [] ⟨rfl, rfl⟩ (.agg_l ⟨.i, .i, .s, .i, .z, ⟨⟩⟩) ⟨⟩)⟩
def m_l_big (a0 : List UInt8) : Option (Bool) :=
 some (decide ((a0.length : Int) > 1048576))
theorem ok_l_big {a0 : List UInt8} {r : Bool} (h : m_l_big a0 = some r) : ACall Tryd.prog 10 [sl 1 cB a0] [] (fun res h => res = .bool r ∧ h = []) := by
 refine vc1 Tryd.func10 ?_
 unfold m_l_big at h
 exact .d (.d (eB h))
theorem ok_l_bigx (a0 : List UInt8) : ACall Tryd.prog 10 [sl 1 cB a0] [] (fun res h => res = .bool (decide ((a0.length : Int) > 1048576)) ∧ h = []) := by
 refine vc1 Tryd.func10 ?_
 exact .d (.d (en [] ⟨rfl, rfl⟩ .b ⟨⟩))
def m90_L2 (a0 : TValue) (a1 : TKey) (y4 : Int) : Option ((Unit) ⊕ Int) :=
 (if a0.fKind = 4 then
 (if y4 < (a0.fItems.length : Int) then
 idx a0.fItems y4 >>= fun x9 =>
 (if x9.fKey = a1 then
 some (.inr y4)
 else
 m90_L2 a0 a1 (W64 (y4 + 1)))
 else
 some (.inl ()))
 else
 some (.inl ()))
partial_fixpoint
def m90 (a0 : TValue) (a1 : TKey) : Option (Int) :=
 ((
 m90_L2 a0 a1 0
 : Option ((Unit) ⊕ Int)) >>= fun o1 => match o1 with
 | .inr r => some r
 | .inl _ =>
 some (-1)
 )
theorem ok90 {a0 : TValue} {a1 : TKey} {r : Int} (h : m90 a0 a1 = some r) : ACall Tryd.prog 58 [.agg a0.lit, .agg a1.lit] [] (fun res h => res = .int .i64 r ∧ h = []) := by
 refine vc1 Tryd.func58 ?_
 unfold m90 at h
 refine .d ?_
 obtain ⟨o1, ho2, hk3⟩ := bd h
 replace h := ho2
 refine .cut (fun σ η => .inl () = o1 ∧ σ = [] ∧ η = []) ?_ ?_
 refine .d ?_
 refine le (m90_L2.partial_correctness a0 a1 (motive := fun y4 o12 => o1 = o12 → LoopAt _ _ [(2, .optr 0 0 0 0), (3, .optr 1 0 0 0), (5, .int .i64 y4)] [.row 0 5 1 24 (fun _ => a0.lit), .row 0 3 1 40 (fun _ => a1.lit)]) ?_ 0 o1 h rfl) (tk [0, 1] ⟨.p, .p, .i, ⟨⟩⟩ ⟨(nbp rfl), (nbp rfl), ⟨⟩⟩)
 intro F6 ih5 y4 o12 h hr13
 subst hr13
 refine LoopAt.round (.d (.d ⟨rfl, ⟨rfl, _, rfl, (sE h (fun hb7 h => ?_) (fun hb7 h => ?_))⟩⟩))
 refine .t ⟨rfl, (.t ⟨rfl, _, rfl, (.t (.t (.t (sD h (fun hb8 h => ?_) (fun hb8 h => ?_)))))⟩)⟩
 refine .d (.d ⟨rfl, ⟨rfl, _, rfl, (bk h fun x9 hx10 h => ⟨idx_bd hx10, _, (idx_row hx10).trans (TEntry.cells_eq x9), ⟨rfl, _, rfl, ⟨_, TKey.eq_cells x9.fKey a1, (sD h (fun hb11 h => ?_) (fun hb11 h => ?_))⟩⟩⟩)⟩⟩)
 refine .d ?_
 obtain rfl := si h
 replace h := hk3
 exact eI h
 exact lg (ih5 _ _ h rfl) (tk [0, 1] ⟨.p, .p, .i, ⟨⟩⟩ ⟨(nbp rfl), (nbp rfl), ⟨⟩⟩)
 exact ct ⟨si h, rfl, rfl⟩ (tk [] ⟨⟩ ⟨⟩)
 exact .f (.f (.f (.f (.f (.f (ct ⟨si h, rfl, rfl⟩ (tk [] ⟨⟩ ⟨⟩)))))))
 rintro _ _ ⟨rfl, rfl, rfl⟩
 replace h := hk3
 exact .d (eI h)
def m27_L2 (a0 : TValue) (a1 : TKey) (y5 : Int) : Option ((Unit) ⊕ Int) :=
 (if y5 < (a0.fItems.length : Int) then
 idx a0.fItems y5 >>= fun x9 =>
 (if x9.fKey = a1 then
 some (.inr y5)
 else
 m27_L2 a0 a1 (W64 (y5 + 1)))
 else
 some (.inl ()))
partial_fixpoint
def m27 (a0 : TValue) (a1 : TKey) : Option (Int) :=
 (if a0.fKind = 4 then
 ((
 m27_L2 a0 a1 0
 : Option ((Unit) ⊕ Int)) >>= fun o2 => match o2 with
 | .inr r => some r
 | .inl _ =>
 some (-1)
 )
 else
 some (-1))
theorem ok27 {a0 : TValue} {a1 : TKey} {r : Int} (h : m27 a0 a1 = some r) : ACall Tryd.prog 36 [.agg a0.lit, .agg a1.lit] [] (fun res h => res = .int .i64 r ∧ h = []) := by
 refine vc1 Tryd.func36 ?_
 unfold m27 at h
 refine .d (.d (.d ⟨rfl, ⟨rfl, _, rfl, (sN h (fun hb1 h => ?_) (fun hb1 h => ?_))⟩⟩))
 exact .d (eI h)
 obtain ⟨o2, ho3, hk4⟩ := bd h
 replace h := ho3
 refine .cut (fun σ η => .inl () = o2 ∧ σ = [] ∧ η = []) ?_ ?_
 refine .d ⟨rfl, ⟨rfl, _, rfl, ?_⟩⟩
 refine le (m27_L2.partial_correctness a0 a1 (motive := fun y5 o12 => o2 = o12 → LoopAt _ _ [(3, .optr 0 0 0 0), (11, sl 8 TEntry.cells a0.fItems), (12, .int .i64 (a0.fItems.length : Int)), (13, .int .i64 y5)] [.row 0 3 1 40 (fun _ => a1.lit)]) ?_ 0 o2 h rfl) (tk [1] ⟨.p, .l, .i, .i, ⟨⟩⟩ ⟨(nbp rfl), ⟨⟩⟩)
 intro F7 ih6 y5 o12 h hr13
 subst hr13
 refine LoopAt.round (.d (.d (sD h (fun hb8 h => ?_) (fun hb8 h => ?_))))
 refine .d (.d (bk h fun x9 hx10 h => ⟨idx_bd hx10, _, (idx_row hx10).trans (TEntry.cells_eq x9), ⟨rfl, _, fun _ => [.bool x9.fKey.fText, .int .i64 x9.fKey.fNum, .str x9.fKey.fStr, .int .i64 x9.fVal.fKind, .int .i64 x9.fVal.fNum, .str x9.fVal.fStr, .int .i64 x9.fVal.fNext, sl 8 TEntry.cells x9.fVal.fItems], rfl, one_set rfl, (.d ⟨rfl, ⟨rfl, _, rfl, ⟨rfl, _, rfl, ⟨_, TKey.eq_cells x9.fKey a1, (sD h (fun hb11 h => ?_) (fun hb11 h => ?_))⟩⟩⟩⟩)⟩⟩))
 refine .d ?_
 obtain rfl := si h
 replace h := hk4
 exact eI h
 exact lg (ih6 _ _ h rfl) (tk [0] ⟨.p, .l, .i, .i, ⟨⟩⟩ ⟨(nbp rfl), ⟨⟩⟩)
 exact ct ⟨si h, rfl, rfl⟩ (tk [] ⟨⟩ ⟨⟩)
 rintro _ _ ⟨rfl, rfl, rfl⟩
 replace h := hk4
 exact .d (eI h)
end Go.Am
