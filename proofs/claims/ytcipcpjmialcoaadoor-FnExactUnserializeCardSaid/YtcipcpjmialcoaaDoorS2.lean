/- Models of Go functions, and their walks. (Printed by tools/mg.py.) -/
import Derived.Test.YtcipcpjmialcoaaDoorS1
set_option linter.unusedVariables false
set_option linter.unusedSimpArgs false
set_option synthInstance.maxHeartbeats 400000
set_option synthInstance.maxSize 4000
set_option maxRecDepth 100000
namespace Go.Am
open Go Go.RowKit Go.Proofs
def m_i_ParseInt (a0 : Str) : Option (Int × Bool) :=
 m98 a0 0 1000000000000 >>= fun (v1, v2) =>
 some (v1, v2)
theorem ok_i_ParseInt {a0 : Str} {r : Int × Bool} (h : m_i_ParseInt a0 = some r) : ACall Tryd.prog 69 [.str a0] [] (fun res h => res = .tup [.int .i64 r.1, .bool r.2] ∧ h = []) := by
 refine vc1 Tryd.func69 ?_
 unfold m_i_ParseInt at h
 refine .d (.d ?_)
 obtain ⟨⟨v1, v2⟩, hv3, h⟩ := bd h
 refine pcP (ok98 hv3) ?_
 obtain rfl := si h
 exact en [] ⟨rfl, rfl⟩ (.tup_l ⟨.i, .b, ⟨⟩⟩) ⟨⟩
def m_i_TextKey (a0 : Str) : Option (TKey) :=
 m69 a0 >>= fun (v1, v2) =>
 (if v2 = true then
 some (TKey.mk false v1 [])
 else
 some (TKey.mk true 0 a0))
theorem ok_i_TextKey {a0 : Str} {r : TKey} (h : m_i_TextKey a0 = some r) : ACall Tryd.prog 85 [.str a0] [] (fun res h => res = .agg r.lit ∧ h = []) := by
 refine vc1 Tryd.func85 ?_
 unfold m_i_TextKey at h
 refine .d (.d ?_)
 obtain ⟨⟨v1, v2⟩, hv3, h⟩ := bd h
 refine pcP (ok69 hv3) (.d (.d (sV h (fun hb4 h => ?_) (fun hb4 h => ?_))))
 refine .d (pcP (ok_i_intKeyx v1) ⟨rfl, _, fun _ => [.bool false, .int .i64 v1, .str []], rfl, one_set rfl, ?_⟩)
 obtain rfl := si h
 exact ⟨rfl, _, rfl, (en [] ⟨rfl, rfl⟩ (.agg_l ⟨.b, .i, .s, ⟨⟩⟩) ⟨⟩)⟩
 refine .d ⟨rfl, _, fun _ => [.bool true, .int .i64 0, .str a0], rfl, one_set rfl, ?_⟩
 obtain rfl := si h
 exact ⟨rfl, _, rfl, (en [] ⟨rfl, rfl⟩ (.agg_l ⟨.b, .i, .s, ⟨⟩⟩) ⟨⟩)⟩
def m_i_KeyOf (a0 : TValue) : Option (TKey × Bool) :=
 (if a0.fKind = 0 then
 some ((TKey.mk true 0 []), true)
 else
 (
 (if a0.fKind = 1 then
 some (a0.fKind == 1)
 else
 some (a0.fKind == 2))
 : Option (Bool)) >>= fun b2 =>
 (if b2 = true then
 some ((TKey.mk false a0.fNum []), true)
 else
 (if a0.fKind = 3 then
 m_i_TextKey a0.fStr >>= fun v9 =>
 some (v9, true)
 else
 some ((TKey.mk false 0 []), false))))
theorem ok_i_KeyOf {a0 : TValue} {r : TKey × Bool} (h : m_i_KeyOf a0 = some r) : ACall Tryd.prog 70 [.agg a0.lit] [] (fun res h => res = .tup [.agg r.1.lit, .bool r.2] ∧ h = []) := by
 refine vc1 Tryd.func70 ?_
 unfold m_i_KeyOf at h
 refine .d (.d (.d ⟨rfl, ⟨rfl, _, rfl, (.d (sE h (fun hb1 h => ?_) (fun hb1 h => ?_)))⟩⟩))
 refine .d ⟨rfl, _, fun _ => [.bool true, .int .i64 0, .str []], rfl, one_set rfl, ?_⟩
 obtain rfl := si h
 exact ⟨rfl, _, rfl, (en [] ⟨rfl, rfl⟩ (.tup_l ⟨.agg_l ⟨.b, .i, .s, ⟨⟩⟩, .b, ⟨⟩⟩) ⟨⟩)⟩
 obtain ⟨o3, ho4, hk5⟩ := bd h
 replace h := ho4
 refine .cut (fun σ η => ∃ b2, b2 = o3 ∧ σ = [(1, .optr 0 0 0 0), (2, .optr 1 0 0 0), (5, .int .i64 a0.fKind), (9, .bool b2)] ∧ η = [.row 0 5 1 24 (fun _ => a0.lit), .row 0 3 1 40 (fun _ => [.bool false, .int .i64 0, .str []])]) ?_ ?_
 refine .d (sE h (fun hb6 h => ?_) (fun hb6 h => ?_))
 exact ct ⟨_, si h, rfl, rfl⟩ (tk [0, 1] ⟨.p, .p, .i, .b, ⟨⟩⟩ ⟨(nbp rfl), (nbp rfl), ⟨⟩⟩)
 exact ct ⟨_, si h, rfl, rfl⟩ (tk [0, 1] ⟨.p, .p, .i, .b, ⟨⟩⟩ ⟨(nbp rfl), (nbp rfl), ⟨⟩⟩)
 rintro _ _ ⟨b2, rfl, rfl, rfl⟩
 replace h := hk5
 refine sV h (fun hb7 h => ?_) (fun hb7 h => ?_)
 refine .d ⟨rfl, ⟨rfl, _, rfl, (pcP (ok_i_intKeyx a0.fNum) ⟨rfl, _, fun _ => [.bool false, .int .i64 a0.fNum, .str []], rfl, one_set rfl, ?_⟩)⟩⟩
 obtain rfl := si h
 exact ⟨rfl, _, rfl, (en [] ⟨rfl, rfl⟩ (.tup_l ⟨.agg_l ⟨.b, .i, .s, ⟨⟩⟩, .b, ⟨⟩⟩) ⟨⟩)⟩
 refine .d (sE h (fun hb8 h => ?_) (fun hb8 h => ?_))
 refine .d ⟨rfl, ⟨rfl, _, rfl, (bk h fun v9 hv10 h => (pcP (ok_i_TextKey hv10) ⟨rfl, _, fun _ => [.bool v9.fText, .int .i64 v9.fNum, .str v9.fStr], rfl, one_set rfl, ?_⟩))⟩⟩
 obtain rfl := si h
 exact ⟨rfl, _, rfl, (en [] ⟨rfl, rfl⟩ (.tup_l ⟨.agg_l ⟨.b, .i, .s, ⟨⟩⟩, .b, ⟨⟩⟩) ⟨⟩)⟩
 refine .d ⟨rfl, _, fun _ => [.bool false, .int .i64 0, .str []], rfl, one_set rfl, ?_⟩
 obtain rfl := si h
 exact ⟨rfl, _, rfl, (en [] ⟨rfl, rfl⟩ (.tup_l ⟨.agg_l ⟨.b, .i, .s, ⟨⟩⟩, .b, ⟨⟩⟩) ⟨⟩)⟩
def m_i_serialReaderuntil_L2 (a0 : TSerialReader) (a1 : Int) (y4 : Int) : Option ((Unit) ⊕ (Str × TSerialReader)) :=
 (if y4 < (a0.fS.length : Int) then
 (if y4 < (W64 (a0.fAt + 20)) then
 sidx a0.fS y4 >>= fun c9 =>
 (if (c9.toNat : Int) = a1 then
 ssub a0.fS a0.fAt y4 >>= fun s12 =>
 some (.inr (s12, (TSerialReader.mk a0.fS (W64 (y4 + 1)) a0.fBad)))
 else
 m_i_serialReaderuntil_L2 a0 a1 (W64 (y4 + 1)))
 else
 some (.inl ()))
 else
 some (.inl ()))
partial_fixpoint
def m_i_serialReaderuntil (a0 : TSerialReader) (a1 : Int) : Option (Str × TSerialReader) :=
 ((
 m_i_serialReaderuntil_L2 a0 a1 a0.fAt
 : Option ((Unit) ⊕ (Str × TSerialReader))) >>= fun o1 => match o1 with
 | .inr r => some r
 | .inl _ =>
 some ([], (TSerialReader.mk a0.fS a0.fAt true))
 )
theorem ok_i_serialReaderuntil {a0 : TSerialReader} {a1 : Int} {r : Str × TSerialReader} {g1000 : Nat} (h : m_i_serialReaderuntil a0 a1 = some r) : ACall Tryd.prog 45 [.optr 0 g1000 0 0, .int .u8 a1] [.row g1000 3 1 44 (fun _ => a0.lit)] (fun res h => res = .str r.1 ∧ h = [.row g1000 3 1 44 (fun _ => r.2.lit)]) := by
 refine vc1 Tryd.func45 ?_
 unfold m_i_serialReaderuntil at h
 refine .d (.d ⟨rfl, ⟨rfl, ⟨rfl, _, rfl, ?_⟩⟩⟩)
 obtain ⟨o1, ho2, hk3⟩ := bd h
 replace h := ho2
 refine .cut (fun σ η => .inl () = o1 ∧ σ = [(0, .optr 0 g1000 0 0)] ∧ η = [.row g1000 3 1 44 (fun _ => a0.lit)]) ?_ ?_
 refine .d ?_
 refine le (m_i_serialReaderuntil_L2.partial_correctness a0 a1 (motive := fun y4 o14 => o1 = o14 → LoopAt _ _ [(0, .optr 0 g1000 0 0), (1, .int .u8 a1), (5, .int .i64 a0.fAt), (6, .int .i64 y4)] [.row g1000 3 1 44 (fun _ => a0.lit)]) ?_ a0.fAt o1 h rfl) (tk [0] ⟨.p, .i, .i, .i, ⟨⟩⟩ ⟨(obp rfl), ⟨⟩⟩)
 intro F6 ih5 y4 o14 h hr15
 subst hr15
 refine LoopAt.round (.d (.d ⟨rfl, ⟨rfl, ⟨rfl, _, rfl, (sD h (fun hb7 h => ?_) (fun hb7 h => ?_))⟩⟩⟩))
 refine .t (.t (.t (.t (sD h (fun hb8 h => ?_) (fun hb8 h => ?_)))))
 refine .d (.d ⟨rfl, ⟨rfl, ⟨rfl, _, rfl, (bk h fun c9 hx10 h => ⟨sidx_bd hx10, c9, sidx_at hx10, (sE h (fun hb11 h => ?_) (fun hb11 h => ?_))⟩)⟩⟩⟩)
 refine .d ⟨rfl, ⟨rfl, ⟨rfl, _, fun _ => [.str a0.fS, .int .i64 (W64 (y4 + 1)), .bool a0.fBad], rfl, one_set rfl, (.d ⟨rfl, ⟨rfl, ⟨rfl, _, rfl, (bk h fun s12 hx13 h => ⟨ssub_bd hx13, s12, ssub_at hx13, ?_⟩)⟩⟩⟩)⟩⟩⟩
 obtain rfl := si h
 replace h := hk3
 obtain rfl := si h
 exact en [0] ⟨rfl, rfl⟩ .s ⟨(ob rfl ⟨.s, .i, .b, ⟨⟩⟩), ⟨⟩⟩
 exact lg (ih5 _ _ h rfl) (tk [0] ⟨.p, .i, .i, .i, ⟨⟩⟩ ⟨(obp rfl), ⟨⟩⟩)
 exact ct ⟨si h, rfl, rfl⟩ (tk [0] ⟨.p, ⟨⟩⟩ ⟨(obp rfl), ⟨⟩⟩)
 exact .f (.f (.f (.f (.f (ct ⟨si h, rfl, rfl⟩ (tk [0] ⟨.p, ⟨⟩⟩ ⟨(obp rfl), ⟨⟩⟩))))))
 rintro _ _ ⟨rfl, rfl, rfl⟩
 replace h := hk3
 refine .d ⟨rfl, ⟨rfl, ⟨rfl, _, fun _ => [.str a0.fS, .int .i64 a0.fAt, .bool true], rfl, one_set rfl, (.d ?_)⟩⟩⟩
 obtain rfl := si h
 exact en [0] ⟨rfl, rfl⟩ .s ⟨(ob rfl ⟨.s, .i, .b, ⟨⟩⟩), ⟨⟩⟩
def m_i_serialReadercount (a0 : TSerialReader) : Option (Int × TSerialReader) :=
 m_i_serialReaderuntil a0 58 >>= fun (v1, v2) =>
 m_i_ParseInt v1 >>= fun (v4, v5) =>
 (if v2.fBad = true then
 some (v4, (TSerialReader.mk v2.fS v2.fAt true))
 else
 some (v4, (TSerialReader.mk v2.fS v2.fAt (!v5))))
theorem ok_i_serialReadercount {a0 : TSerialReader} {r : Int × TSerialReader} {g1000 : Nat} (h : m_i_serialReadercount a0 = some r) : ACall Tryd.prog 47 [.optr 0 g1000 0 0] [.row g1000 3 1 44 (fun _ => a0.lit)] (fun res h => res = .int .i64 r.1 ∧ h = [.row g1000 3 1 44 (fun _ => r.2.lit)]) := by
 refine vc1 Tryd.func47 ?_
 unfold m_i_serialReadercount at h
 refine .d (.d ?_)
 obtain ⟨⟨v1, v2⟩, hv3, h⟩ := bd h
 refine pcO (ok_i_serialReaderuntil (g1000 := g1000) hv3) [0] ⟨rfl, ⟨⟩⟩ (.str v1) [.row g1000 3 1 44 (fun _ => v2.lit)] ?_
 obtain ⟨⟨v4, v5⟩, hv6, h⟩ := bd h
 refine pcP (ok_i_ParseInt hv6) (.d ⟨rfl, ⟨rfl, ⟨rfl, _, rfl, (sV h (fun hb7 h => ?_) (fun hb7 h => ?_))⟩⟩⟩)
 refine .t (.t ⟨rfl, ⟨rfl, ⟨rfl, _, fun _ => [.str v2.fS, .int .i64 v2.fAt, .bool true], rfl, one_set rfl, (.d ?_)⟩⟩⟩)
 obtain rfl := si h
 exact en [0] ⟨rfl, rfl⟩ .i ⟨(ob rfl ⟨.s, .i, .b, ⟨⟩⟩), ⟨⟩⟩
 refine .f (.f ⟨rfl, ⟨rfl, ⟨rfl, _, fun _ => [.str v2.fS, .int .i64 v2.fAt, .bool (!v5)], rfl, one_set rfl, (.d ?_)⟩⟩⟩)
 obtain rfl := si h
 exact en [0] ⟨rfl, rfl⟩ .i ⟨(ob rfl ⟨.s, .i, .b, ⟨⟩⟩), ⟨⟩⟩
def m_i_serialReadereat (a0 : TSerialReader) (a1 : Str) : Option (TSerialReader) :=
 sfrom a0.fS a0.fAt >>= fun s1 =>
 m66 s1 a1 >>= fun v3 =>
 (if v3 = true then
 some (TSerialReader.mk a0.fS (W64 (a0.fAt + (a1.length : Int))) a0.fBad)
 else
 some (TSerialReader.mk a0.fS a0.fAt true))
theorem ok_i_serialReadereat {a0 : TSerialReader} {a1 : Str} {r : TSerialReader} {g1000 : Nat} (h : m_i_serialReadereat a0 a1 = some r) : ACall Tryd.prog 43 [.optr 0 g1000 0 0, .str a1] [.row g1000 3 1 44 (fun _ => a0.lit)] (fun res h => res = .tup [] ∧ h = [.row g1000 3 1 44 (fun _ => r.lit)]) := by
 refine vc1 Tryd.func43 ?_
 unfold m_i_serialReadereat at h
 refine .d (.d (.float [(0, true), (1, true), (2, true), (3, true), (4, true), (5, true), (6, true), (7, true), (8, true), (9, true), (10, false), (11, true)] (by kernel_rfl) ?_))
 refine ⟨rfl, ⟨rfl, ⟨rfl, _, rfl, ⟨rfl, ⟨rfl, ⟨rfl, _, rfl, (bk h fun s1 hx2 h => ⟨sfrom_bd hx2, s1, sfrom_at hx2, (bk h fun v3 hv4 h => (pcP (ok66 hv4) (sVn h (fun hb5 h => ?_) (fun hb5 h => ?_))))⟩)⟩⟩⟩⟩⟩⟩
 refine .d ⟨rfl, ⟨rfl, ⟨rfl, _, fun _ => [.str a0.fS, .int .i64 a0.fAt, .bool true], rfl, one_set rfl, ?_⟩⟩⟩
 obtain rfl := si h
 exact en [0] ⟨rfl, rfl⟩ (.tup_l ⟨⟩) ⟨(ob rfl ⟨.s, .i, .b, ⟨⟩⟩), ⟨⟩⟩
 refine ⟨rfl, ⟨rfl, ⟨rfl, _, rfl, ⟨rfl, ⟨rfl, ⟨rfl, _, fun _ => [.str a0.fS, .int .i64 (W64 (a0.fAt + (a1.length : Int))), .bool a0.fBad], rfl, one_set rfl, ?_⟩⟩⟩⟩⟩⟩
 obtain rfl := si h
 exact en [0] ⟨rfl, rfl⟩ (.tup_l ⟨⟩) ⟨(ob rfl ⟨.s, .i, .b, ⟨⟩⟩), ⟨⟩⟩
mutual
def m_i_serialReadervalue (a0 : TSerialReader) (a1 : Int) : Option (TValue × TSerialReader) :=
 (if a0.fAt ≥ (a0.fS.length : Int) then
 some ((TValue.mk 0 0 [] 0 []), (TSerialReader.mk a0.fS a0.fAt true))
 else
 (if a1 > 200 then
 some ((TValue.mk 0 0 [] 0 []), (TSerialReader.mk a0.fS a0.fAt true))
 else
 sidx a0.fS a0.fAt >>= fun c3 =>
 (if (c3.toNat : Int) = 78 then
 m_i_serialReadereat a0 [78, 59] >>= fun v6 =>
 some ((TValue.mk 0 0 [] 0 []), v6)
 else
 m_i_serialReadereat a0 ([c3, (58 : UInt8)] : List UInt8) >>= fun v8 =>
 (if v8.fBad = true then
 some ((TValue.mk 0 0 [] 0 []), v8)
 else
 (
 (if (c3.toNat : Int) = 98 then
 some ((c3.toNat : Int) == 98)
 else
 some ((c3.toNat : Int) == 105))
 : Option (Bool)) >>= fun b11 =>
 (if b11 = true then
 m_i_serialReaderuntil v8 59 >>= fun (v17, v18) =>
 m69 v17 >>= fun (v20, v21) =>
 (if v18.fBad = true then
 (if (c3.toNat : Int) = 98 then
 some ((TValue.mk 1 v20 [] 0 []), (TSerialReader.mk v18.fS v18.fAt true))
 else
 some ((TValue.mk 2 v20 [] 0 []), (TSerialReader.mk v18.fS v18.fAt true)))
 else
 (if (c3.toNat : Int) = 98 then
 some ((TValue.mk 1 v20 [] 0 []), (TSerialReader.mk v18.fS v18.fAt (!v21)))
 else
 some ((TValue.mk 2 v20 [] 0 []), (TSerialReader.mk v18.fS v18.fAt (!v21)))))
 else
 (if (c3.toNat : Int) = 115 then
 m_i_serialReadercount v8 >>= fun (v27, v28) =>
 (if v28.fBad = true then
 some ((TValue.mk 0 0 [] 0 []), (TSerialReader.mk v28.fS v28.fAt true))
 else
 (if v27 > (W64 ((v28.fS.length : Int) - v28.fAt)) then
 some ((TValue.mk 0 0 [] 0 []), (TSerialReader.mk v28.fS v28.fAt true))
 else
 (
 ssub v28.fS v28.fAt (W64 (v28.fAt + v27)) >>= fun s36 =>
 some s36
 : Option (Str)) >>= fun s32 =>
 m_i_serialReadereat (TSerialReader.mk v28.fS (W64 (v28.fAt + v27)) v28.fBad) [59] >>= fun v38 =>
 some ((TValue.mk 3 0 s32 0 ([] : List TEntry)), v38)))
 else
 (if (c3.toNat : Int) = 97 then
 m_i_serialReaderarray v8 a1 >>= fun (v41, v42) =>
 some (v41, v42)
 else
 some ((TValue.mk 0 0 [] 0 []), (TSerialReader.mk v8.fS v8.fAt true)))))))))
partial_fixpoint
def m_i_serialReaderarray (a0 : TSerialReader) (a1 : Int) : Option (TValue × TSerialReader) :=
 m_i_serialReadercount a0 >>= fun (v46, v47) =>
 m_i_serialReaderuntil v47 123 >>= fun (v49, v50) =>
 m_i_ParseInt v49 >>= fun (v52, v53) =>
 (
 (if v53 = true then
 (if v46 > 200 then
 some true
 else
 some v50.fBad)
 else
 some true)
 : Option (Bool)) >>= fun b55 =>
 ((
 m_i_serialReaderarray_L2 a1 v46 v52 v50.fS v50.fAt b55 ([] : List TEntry) 0
 : Option ((Str × Int × Bool × (List TEntry)) ⊕ (TValue × TSerialReader))) >>= fun o67 => match o67 with
 | .inr r => some r
 | .inl (s61, y62, b63, l64) =>
 (if b63 = true then
 some ((TValue.mk 4 0 [] v52 l64), (TSerialReader.mk s61 y62 b63))
 else
 m_i_serialReadereat (TSerialReader.mk s61 y62 b63) [125] >>= fun v109 =>
 some ((TValue.mk 4 0 [] v52 l64), v109))
 )
partial_fixpoint
def m_i_serialReaderarray_L2 (a1 : Int) (v46 : Int) (v52 : Int) (s70 : Str) (y71 : Int) (b72 : Bool) (l73 : List TEntry) (y76 : Int) : Option ((Str × Int × Bool × (List TEntry)) ⊕ (TValue × TSerialReader)) :=
 (if y76 < v46 then
 (if b72 = true then
 some (.inl (s70, y71, b72, l73))
 else
 m_i_serialReadervalue (TSerialReader.mk s70 y71 b72) (W64 (a1 + 1)) >>= fun (v83, v84) =>
 m_i_KeyOf v83 >>= fun (v88, v89) =>
 (if v89 = true then
 m_i_serialReadervalue v84 (W64 (a1 + 1)) >>= fun (v92, v93) =>
 lapp 96 l73 [(TEntry.mk v88 v92)] >>= fun l97 =>
 m_i_serialReaderarray_L2 a1 v46 v52 v93.fS v93.fAt v93.fBad l97 (W64 (y76 + 1))
 else
 some (.inr ((TValue.mk 4 0 [] v52 l73), (TSerialReader.mk v84.fS v84.fAt true)))))
 else
 some (.inl (s70, y71, b72, l73)))
partial_fixpoint
end
def okS18 (a0 : TSerialReader) (a1 : Int) (r : TValue × TSerialReader) : Prop := ∀ g1000 : Nat, ACall Tryd.prog 18 [.optr 0 g1000 0 0, .int .i64 a1] [.row g1000 3 1 44 (fun _ => a0.lit)] (fun res h => ∃ F1 : Nat → List PV, DR TEntry.D r.1.fItems.length F1 r.1.fItems ∧ res = .agg [.int .i64 r.1.fKind, .int .i64 r.1.fNum, .str r.1.fStr, .int .i64 r.1.fNext, .own 1 0 0 r.1.fItems.length] ∧ h = [.row g1000 3 1 44 (fun _ => r.2.lit), .row 0 8 r.1.fItems.length 63 F1])
def okS49 (a0 : TSerialReader) (a1 : Int) (r : TValue × TSerialReader) : Prop := ∀ g1000 : Nat, ACall Tryd.prog 49 [.optr 0 g1000 0 0, .int .i64 a1] [.row g1000 3 1 44 (fun _ => a0.lit)] (fun res h => ∃ F1 : Nat → List PV, DR TEntry.D r.1.fItems.length F1 r.1.fItems ∧ res = .agg [.int .i64 r.1.fKind, .int .i64 r.1.fNum, .str r.1.fStr, .int .i64 r.1.fNext, .own 1 0 0 r.1.fItems.length] ∧ h = [.row g1000 3 1 44 (fun _ => r.2.lit), .row 0 8 r.1.fItems.length 63 F1])
inductive m_i_serialReaderarray_L2_I : Int → Int → Int → Str → Int → Bool → (List TEntry) → Int → ((Str × Int × Bool × (List TEntry)) ⊕ (TValue × TSerialReader)) → Prop
 | mk (G18 : TSerialReader → Int → Option (TValue × TSerialReader)) (hG18 : ∀ a0 a1 r, G18 a0 a1 = some r → okS18 a0 a1 r) (F_m_i_serialReaderarray_L2 : Int → Int → Int → Str → Int → Bool → (List TEntry) → Int → Option ((Str × Int × Bool × (List TEntry)) ⊕ (TValue × TSerialReader))) (hF_m_i_serialReaderarray_L2 : ∀ a1 v46 v52 s70 y71 b72 l73 y76 o, F_m_i_serialReaderarray_L2 a1 v46 v52 s70 y71 b72 l73 y76 = some o → m_i_serialReaderarray_L2_I a1 v46 v52 s70 y71 b72 l73 y76 o) (a1 : Int) (v46 : Int) (v52 : Int) (s70 : Str) (y71 : Int) (b72 : Bool) (l73 : List TEntry) (y76 : Int) (o : (Str × Int × Bool × (List TEntry)) ⊕ (TValue × TSerialReader)) (h : (
 (if y76 < v46 then
 (if b72 = true then
 some (.inl (s70, y71, b72, l73))
 else
 G18 (TSerialReader.mk s70 y71 b72) (W64 (a1 + 1)) >>= fun (v83, v84) =>
 m_i_KeyOf v83 >>= fun (v88, v89) =>
 (if v89 = true then
 G18 v84 (W64 (a1 + 1)) >>= fun (v92, v93) =>
 lapp 96 l73 [(TEntry.mk v88 v92)] >>= fun l97 =>
 F_m_i_serialReaderarray_L2 a1 v46 v52 v93.fS v93.fAt v93.fBad l97 (W64 (y76 + 1))
 else
 some (.inr ((TValue.mk 4 0 [] v52 l73), (TSerialReader.mk v84.fS v84.fAt true)))))
 else
 some (.inl (s70, y71, b72, l73)))
 ) = some o) : m_i_serialReaderarray_L2_I a1 v46 v52 s70 y71 b72 l73 y76 o
theorem m_i_serialReaderarray_L2_ind {motive : Int → Int → Int → Str → Int → Bool → (List TEntry) → Int → ((Str × Int × Bool × (List TEntry)) ⊕ (TValue × TSerialReader)) → Prop} (step : ∀ (G18 : TSerialReader → Int → Option (TValue × TSerialReader)) (hG18 : ∀ a0 a1 r, G18 a0 a1 = some r → okS18 a0 a1 r) (F_m_i_serialReaderarray_L2 : Int → Int → Int → Str → Int → Bool → (List TEntry) → Int → Option ((Str × Int × Bool × (List TEntry)) ⊕ (TValue × TSerialReader))) (hF_m_i_serialReaderarray_L2 : ∀ a1 v46 v52 s70 y71 b72 l73 y76 o, F_m_i_serialReaderarray_L2 a1 v46 v52 s70 y71 b72 l73 y76 = some o → m_i_serialReaderarray_L2_I a1 v46 v52 s70 y71 b72 l73 y76 o) (a1 : Int) (v46 : Int) (v52 : Int) (s70 : Str) (y71 : Int) (b72 : Bool) (l73 : List TEntry) (y76 : Int) (o : (Str × Int × Bool × (List TEntry)) ⊕ (TValue × TSerialReader)) (h : (
 (if y76 < v46 then
 (if b72 = true then
 some (.inl (s70, y71, b72, l73))
 else
 G18 (TSerialReader.mk s70 y71 b72) (W64 (a1 + 1)) >>= fun (v83, v84) =>
 m_i_KeyOf v83 >>= fun (v88, v89) =>
 (if v89 = true then
 G18 v84 (W64 (a1 + 1)) >>= fun (v92, v93) =>
 lapp 96 l73 [(TEntry.mk v88 v92)] >>= fun l97 =>
 F_m_i_serialReaderarray_L2 a1 v46 v52 v93.fS v93.fAt v93.fBad l97 (W64 (y76 + 1))
 else
 some (.inr ((TValue.mk 4 0 [] v52 l73), (TSerialReader.mk v84.fS v84.fAt true)))))
 else
 some (.inl (s70, y71, b72, l73)))
 ) = some o) (ih : ∀ a1 v46 v52 s70 y71 b72 l73 y76 o, F_m_i_serialReaderarray_L2 a1 v46 v52 s70 y71 b72 l73 y76 = some o → motive a1 v46 v52 s70 y71 b72 l73 y76 o), motive a1 v46 v52 s70 y71 b72 l73 y76 o) : ∀ a1 v46 v52 s70 y71 b72 l73 y76 o, m_i_serialReaderarray_L2_I a1 v46 v52 s70 y71 b72 l73 y76 o → motive a1 v46 v52 s70 y71 b72 l73 y76 o :=
 fun a1 v46 v52 s70 y71 b72 l73 y76 o h => m_i_serialReaderarray_L2_I.rec (motive := fun a1 v46 v52 s70 y71 b72 l73 y76 o _ => motive a1 v46 v52 s70 y71 b72 l73 y76 o) step h
theorem grp__i_serialReadervalue : (∀ a0 a1 r, m_i_serialReadervalue a0 a1 = some r → okS18 a0 a1 r) ∧ (∀ a0 a1 r, m_i_serialReaderarray a0 a1 = some r → okS49 a0 a1 r) ∧ (∀ a1 v46 v52 s70 y71 b72 l73 y76 o, m_i_serialReaderarray_L2 a1 v46 v52 s70 y71 b72 l73 y76 = some o → m_i_serialReaderarray_L2_I a1 v46 v52 s70 y71 b72 l73 y76 o) := by
 refine m_i_serialReadervalue.mutual_partial_correctness okS18 okS49 m_i_serialReaderarray_L2_I ?_ ?_ ?_
 intro _ ihf49 a0 a1 r h g1000
 refine vc1 Tryd.func18 ?_
 refine .d (.d (.d ⟨rfl, ⟨rfl, ⟨rfl, _, rfl, ⟨rfl, ⟨rfl, ⟨rfl, _, rfl, (sD h (fun hb1 h => ?_) (fun hb1 h => ?_))⟩⟩⟩⟩⟩⟩))
 refine .t (.t (.t (.d ⟨rfl, ⟨rfl, ⟨rfl, _, fun _ => [.str a0.fS, .int .i64 a0.fAt, .bool true], rfl, one_set rfl, (.d ⟨rfl, _, fun _ => [.int .i64 0, .int .i64 0, .str [], .int .i64 0, .nils], rfl, one_set rfl, ?_⟩)⟩⟩⟩)))
 obtain rfl := si h
 exact ⟨rfl, _, rfl, (en [0, 3] ⟨(fun _ => []), (DR.nil (D := TEntry.D)), rfl, rfl⟩ (.agg_l ⟨.i, .i, .s, .i, .g, ⟨⟩⟩) ⟨(ob rfl ⟨.s, .i, .b, ⟨⟩⟩), gh, ⟨⟩⟩)⟩
 refine .f (.f (sD h (fun hb2 h => ?_) (fun hb2 h => ?_)))
 refine .d ⟨rfl, ⟨rfl, ⟨rfl, _, fun _ => [.str a0.fS, .int .i64 a0.fAt, .bool true], rfl, one_set rfl, (.d ⟨rfl, _, fun _ => [.int .i64 0, .int .i64 0, .str [], .int .i64 0, .nils], rfl, one_set rfl, ?_⟩)⟩⟩⟩
 obtain rfl := si h
 exact ⟨rfl, _, rfl, (en [0, 3] ⟨(fun _ => []), (DR.nil (D := TEntry.D)), rfl, rfl⟩ (.agg_l ⟨.i, .i, .s, .i, .g, ⟨⟩⟩) ⟨(ob rfl ⟨.s, .i, .b, ⟨⟩⟩), gh, ⟨⟩⟩)⟩
 refine .d ⟨rfl, ⟨rfl, ⟨rfl, _, rfl, ⟨rfl, ⟨rfl, ⟨rfl, _, rfl, (bk h fun c3 hx4 h => ⟨sidx_bd hx4, c3, sidx_at hx4, (.d (.d (sE h (fun hb5 h => ?_) (fun hb5 h => ?_))))⟩)⟩⟩⟩⟩⟩⟩
 refine .d (bk h fun v6 hv7 h => (pcO (ok_i_serialReadereat (g1000 := g1000) hv7) [0] ⟨rfl, ⟨⟩⟩ (.tup []) [.row g1000 3 1 44 (fun _ => v6.lit), .row 0 5 1 24 (fun _ => [.int .i64 0, .int .i64 0, .str [], .int .i64 0, .nils])] (.d (pcP (ok_i_NullValuex) ⟨rfl, _, fun _ => [.int .i64 0, .int .i64 0, .str [], .int .i64 0, .nils], rfl, one_set rfl, ?_⟩))))
 obtain rfl := si h
 exact ⟨rfl, _, rfl, (en [0, 3] ⟨(fun _ => []), (DR.nil (D := TEntry.D)), rfl, rfl⟩ (.agg_l ⟨.i, .i, .s, .i, .g, ⟨⟩⟩) ⟨(ob rfl ⟨.s, .i, .b, ⟨⟩⟩), gh, ⟨⟩⟩)⟩
 refine .d ⟨row cB ([c3, (58 : UInt8)] : List UInt8), row_lit cB ([c3, (58 : UInt8)] : List UInt8) rfl (cll_refl rfl), ⟨rfl, ([c3, (58 : UInt8)] : List UInt8), rfl, bytes_shows shows_all rfl, (bk h fun v8 hv9 h => (pcO (ok_i_serialReadereat (g1000 := g1000) hv9) [0] ⟨rfl, ⟨⟩⟩ (.tup []) [.row g1000 3 1 44 (fun _ => v8.lit), .row 0 5 1 24 (fun _ => [.int .i64 0, .int .i64 0, .str [], .int .i64 0, .nils]), .row 0 1 ([c3, (58 : UInt8)] : List UInt8).length 5 (row cB ([c3, (58 : UInt8)] : List UInt8))] (.d (.d ⟨rfl, ⟨rfl, ⟨rfl, _, rfl, (sV h (fun hb10 h => ?_) (fun hb10 h => ?_))⟩⟩⟩))))⟩⟩
 refine .d ⟨rfl, _, fun _ => [.int .i64 0, .int .i64 0, .str [], .int .i64 0, .nils], rfl, one_set rfl, ?_⟩
 obtain rfl := si h
 exact ⟨rfl, _, rfl, (en [0, 4] ⟨(fun _ => []), (DR.nil (D := TEntry.D)), rfl, rfl⟩ (.agg_l ⟨.i, .i, .s, .i, .g, ⟨⟩⟩) ⟨(ob rfl ⟨.s, .i, .b, ⟨⟩⟩), gh, ⟨⟩⟩)⟩
 refine .d (.d ?_)
 obtain ⟨o12, ho13, hk14⟩ := bd h
 replace h := ho13
 refine .cut (fun σ η => ∃ b11, b11 = o12 ∧ σ = [(0, .optr 0 g1000 0 0), (1, .int .i64 a1), (4, .optr 1 0 0 0), (5, .int .u8 (c3.toNat : Int)), (52, .int .u8 (c3.toNat : Int)), (53, .bool b11)] ∧ η = [.row g1000 3 1 44 (fun _ => v8.lit), .row 0 5 1 24 (fun _ => [.int .i64 0, .int .i64 0, .str [], .int .i64 0, .own 2 0 0 0]), .row 0 8 0 63 (fun _ => [])]) ?_ ?_
 refine .d (sE h (fun hb15 h => ?_) (fun hb15 h => ?_))
 exact ct ⟨_, si h, rfl, rfl⟩ (tk [0, 1, 5] ⟨.p, .i, .p, .i, .i, .b, ⟨⟩⟩ ⟨(obp rfl), (nb rfl ⟨.i, .i, .s, .i, .g, ⟨⟩⟩), gh, ⟨⟩⟩)
 exact ct ⟨_, si h, rfl, rfl⟩ (tk [0, 1, 5] ⟨.p, .i, .p, .i, .i, .b, ⟨⟩⟩ ⟨(obp rfl), (nb rfl ⟨.i, .i, .s, .i, .g, ⟨⟩⟩), gh, ⟨⟩⟩)
 rintro _ _ ⟨b11, rfl, rfl, rfl⟩
 replace h := hk14
 refine sV h (fun hb16 h => ?_) (fun hb16 h => ?_)
 refine .d ?_
 obtain ⟨⟨v17, v18⟩, hv19, h⟩ := bd h
 refine pcO (ok_i_serialReaderuntil (g1000 := g1000) hv19) [0] ⟨rfl, ⟨⟩⟩ (.str v17) [.row g1000 3 1 44 (fun _ => v18.lit), .row 0 5 1 24 (fun _ => [.int .i64 0, .int .i64 0, .str [], .int .i64 0, .own 2 0 0 0]), .row 0 8 0 63 (fun _ => [])] ?_
 obtain ⟨⟨v20, v21⟩, hv22, h⟩ := bd h
 refine pcP (ok69 hv22) (.d ⟨rfl, ⟨rfl, ⟨rfl, _, rfl, (sV h (fun hb23 h => ?_) (fun hb23 h => ?_))⟩⟩⟩)
 refine .t (.t ⟨rfl, ⟨rfl, ⟨rfl, _, fun _ => [.str v18.fS, .int .i64 v18.fAt, .bool true], rfl, one_set rfl, (.d (.d (sE h (fun hb24 h => ?_) (fun hb24 h => ?_))))⟩⟩⟩)
 refine .d ⟨rfl, _, fun _ => [.int .i64 1, .int .i64 v20, .str [], .int .i64 0, .nils], rfl, one_set rfl, ?_⟩
 obtain rfl := si h
 exact ⟨rfl, _, rfl, (en [0, 4] ⟨(fun _ => []), (DR.nil (D := TEntry.D)), rfl, rfl⟩ (.agg_l ⟨.i, .i, .s, .i, .g, ⟨⟩⟩) ⟨(ob rfl ⟨.s, .i, .b, ⟨⟩⟩), gh, ⟨⟩⟩)⟩
 refine .d (pcP (ok_i_IntValuex v20) ⟨rfl, _, fun _ => [.int .i64 2, .int .i64 v20, .str [], .int .i64 0, .nils], rfl, one_set rfl, ?_⟩)
 obtain rfl := si h
 exact ⟨rfl, _, rfl, (en [0, 4] ⟨(fun _ => []), (DR.nil (D := TEntry.D)), rfl, rfl⟩ (.agg_l ⟨.i, .i, .s, .i, .g, ⟨⟩⟩) ⟨(ob rfl ⟨.s, .i, .b, ⟨⟩⟩), gh, ⟨⟩⟩)⟩
 refine .f (.f ⟨rfl, ⟨rfl, ⟨rfl, _, fun _ => [.str v18.fS, .int .i64 v18.fAt, .bool (!v21)], rfl, one_set rfl, (.d (.d (sE h (fun hb25 h => ?_) (fun hb25 h => ?_))))⟩⟩⟩)
 refine .d ⟨rfl, _, fun _ => [.int .i64 1, .int .i64 v20, .str [], .int .i64 0, .nils], rfl, one_set rfl, ?_⟩
 obtain rfl := si h
 exact ⟨rfl, _, rfl, (en [0, 4] ⟨(fun _ => []), (DR.nil (D := TEntry.D)), rfl, rfl⟩ (.agg_l ⟨.i, .i, .s, .i, .g, ⟨⟩⟩) ⟨(ob rfl ⟨.s, .i, .b, ⟨⟩⟩), gh, ⟨⟩⟩)⟩
 refine .d (pcP (ok_i_IntValuex v20) ⟨rfl, _, fun _ => [.int .i64 2, .int .i64 v20, .str [], .int .i64 0, .nils], rfl, one_set rfl, ?_⟩)
 obtain rfl := si h
 exact ⟨rfl, _, rfl, (en [0, 4] ⟨(fun _ => []), (DR.nil (D := TEntry.D)), rfl, rfl⟩ (.agg_l ⟨.i, .i, .s, .i, .g, ⟨⟩⟩) ⟨(ob rfl ⟨.s, .i, .b, ⟨⟩⟩), gh, ⟨⟩⟩)⟩
 refine .d (sE h (fun hb26 h => ?_) (fun hb26 h => ?_))
 refine .d ?_
 obtain ⟨⟨v27, v28⟩, hv29, h⟩ := bd h
 refine pcO (ok_i_serialReadercount (g1000 := g1000) hv29) [0] ⟨rfl, ⟨⟩⟩ (.int .i64 v27) [.row g1000 3 1 44 (fun _ => v28.lit), .row 0 5 1 24 (fun _ => [.int .i64 0, .int .i64 0, .str [], .int .i64 0, .own 2 0 0 0]), .row 0 8 0 63 (fun _ => [])] (.d (.d ⟨rfl, ⟨rfl, ⟨rfl, _, rfl, (sV h (fun hb30 h => ?_) (fun hb30 h => ?_))⟩⟩⟩))
 refine .t (.t (.t (.t (.t (.t (.t (.t (.t (.t (.t (.t (.t (.d ⟨rfl, ?_⟩)))))))))))))
 refine ⟨rfl, ⟨rfl, _, fun _ => [.str v28.fS, .int .i64 v28.fAt, .bool true], rfl, one_set rfl, (.d ⟨rfl, _, fun _ => [.int .i64 0, .int .i64 0, .str [], .int .i64 0, .nils], rfl, one_set rfl, ?_⟩)⟩⟩
 obtain rfl := si h
 exact ⟨rfl, _, rfl, (en [0, 4] ⟨(fun _ => []), (DR.nil (D := TEntry.D)), rfl, rfl⟩ (.agg_l ⟨.i, .i, .s, .i, .g, ⟨⟩⟩) ⟨(ob rfl ⟨.s, .i, .b, ⟨⟩⟩), gh, ⟨⟩⟩)⟩
 refine .f (.f ⟨rfl, (.f ⟨rfl, (.f ⟨rfl, _, rfl, (.f (.f (.f ⟨rfl, (.f ⟨rfl, (.f ⟨rfl, _, rfl, ?_⟩)⟩)⟩)))⟩)⟩)⟩)
 refine .f (.f (.f (sD h (fun hb31 h => ?_) (fun hb31 h => ?_))))
 refine .d ⟨rfl, ⟨rfl, ⟨rfl, _, fun _ => [.str v28.fS, .int .i64 v28.fAt, .bool true], rfl, one_set rfl, (.d ⟨rfl, _, fun _ => [.int .i64 0, .int .i64 0, .str [], .int .i64 0, .nils], rfl, one_set rfl, ?_⟩)⟩⟩⟩
 obtain rfl := si h
 exact ⟨rfl, _, rfl, (en [0, 4] ⟨(fun _ => []), (DR.nil (D := TEntry.D)), rfl, rfl⟩ (.agg_l ⟨.i, .i, .s, .i, .g, ⟨⟩⟩) ⟨(ob rfl ⟨.s, .i, .b, ⟨⟩⟩), gh, ⟨⟩⟩)⟩
 obtain ⟨o33, ho34, hk35⟩ := bd h
 replace h := ho34
 refine .cut (fun σ η => ∃ s32, s32 = o33 ∧ σ = [(0, .optr 0 g1000 0 0), (4, .optr 1 0 0 0), (8, .int .i64 v27), (9, .optr 3 0 0 0)] ∧ η = [.row g1000 3 1 44 (fun _ => v28.lit), .row 0 5 1 24 (fun _ => [.int .i64 0, .int .i64 0, .str [], .int .i64 0, .own 2 0 0 0]), .row 0 8 0 63 (fun _ => []), .row 0 5 1 24 (fun _ => [.int .i64 3, .int .i64 0, .str s32, .int .i64 0, .own 4 0 0 0]), .row 0 8 0 63 (fun _ => [])]) ?_ ?_
 refine .float2 [(0, true), (1, true), (2, true), (3, true), (4, true), (5, true), (6, true), (7, true), (8, true), (9, true), (10, true), (11, true), (12, true), (13, true), (14, true)] 15 [(16, false), (17, false)] 16 [(15, false), (17, false)] (by kernel_rfl) ?_
 refine ⟨rfl, ⟨rfl, ⟨rfl, _, rfl, ⟨rfl, ⟨rfl, ⟨rfl, _, rfl, ⟨rfl, ⟨rfl, ⟨rfl, _, rfl, (bk h fun s36 hx37 h => ⟨ssub_bd hx37, s36, ssub_at hx37, ⟨?_, ?_⟩⟩)⟩⟩⟩⟩⟩⟩⟩⟩⟩
 exact pcP (ok_i_TextValuex s36) ⟨rfl, ⟨rfl, ⟨rfl, ⟨rfl, ⟨rfl, ⟨rfl, ⟨rfl, ⟨rfl, ⟨rfl, ⟨rfl, _, fun _ => [.int .i64 3, .int .i64 0, .str s36, .int .i64 0, .nils], rfl, one_set rfl, (ct ⟨_, si h, rfl, rfl⟩ (tk [0, 1, 2, 3, 8] ⟨.p, .p, .i, .p, ⟨⟩⟩ ⟨(obp rfl), (nb rfl ⟨.i, .i, .s, .i, (.od (by first | rfl | exact (DR.nil (D := TEntry.D)).len | exact (DR.nil (D := TEntry.D)).len.symm)), ⟨⟩⟩), (nwd (DR.nil (D := TEntry.D))), (nb rfl ⟨.i, .i, .s, .i, .g, ⟨⟩⟩), gh, ⟨⟩⟩))⟩⟩⟩⟩⟩⟩⟩⟩⟩⟩
 exact ⟨rfl, ⟨rfl, ⟨rfl, ⟨rfl, ⟨rfl, ⟨rfl, ⟨rfl, ⟨rfl, ⟨rfl, (pcP (ok_i_TextValuex s36) ⟨rfl, _, fun _ => [.int .i64 3, .int .i64 0, .str s36, .int .i64 0, .nils], rfl, one_set rfl, (ct ⟨_, si h, rfl, rfl⟩ (tk [0, 1, 2, 3, 8] ⟨.p, .p, .i, .p, ⟨⟩⟩ ⟨(obp rfl), (nb rfl ⟨.i, .i, .s, .i, (.od (by first | rfl | exact (DR.nil (D := TEntry.D)).len | exact (DR.nil (D := TEntry.D)).len.symm)), ⟨⟩⟩), (nwd (DR.nil (D := TEntry.D))), (nb rfl ⟨.i, .i, .s, .i, .g, ⟨⟩⟩), gh, ⟨⟩⟩))⟩)⟩⟩⟩⟩⟩⟩⟩⟩⟩
 rintro _ _ ⟨s32, rfl, rfl, rfl⟩
 replace h := hk35
 refine .d ⟨rfl, ⟨rfl, ⟨rfl, _, rfl, ⟨rfl, ⟨rfl, ⟨rfl, _, fun _ => [.str v28.fS, .int .i64 (W64 (v28.fAt + v27)), .bool v28.fBad], rfl, one_set rfl, (.d (bk h fun v38 hv39 h => (pcO (ok_i_serialReadereat (g1000 := g1000) hv39) [0] ⟨rfl, ⟨⟩⟩ (.tup []) [.row g1000 3 1 44 (fun _ => v38.lit), .row 0 5 1 24 (fun _ => [.int .i64 0, .int .i64 0, .str [], .int .i64 0, .own 2 0 0 0]), .row 0 8 0 63 (fun _ => []), .row 0 5 1 24 (fun _ => [.int .i64 3, .int .i64 0, .str s32, .int .i64 0, .own 4 0 0 0]), .row 0 8 0 63 (fun _ => [])] (.d ⟨rfl, _, rfl, ⟨rfl, _, fun _ => [.int .i64 3, .int .i64 0, .str s32, .int .i64 0, .own 4 0 0 0], rfl, one_set rfl, ?_⟩⟩))))⟩⟩⟩⟩⟩⟩
 obtain rfl := si h
 exact ⟨rfl, _, rfl, (en [0, 4] ⟨(fun _ => []), (DR.nil (D := TEntry.D)).self, rfl, rfl⟩ (.agg_l ⟨.i, .i, .s, .i, (.od (by first | rfl | exact (DR.nil (D := TEntry.D)).len | exact (DR.nil (D := TEntry.D)).len.symm)), ⟨⟩⟩) ⟨(ob rfl ⟨.s, .i, .b, ⟨⟩⟩), (nwd (DR.nil (D := TEntry.D)) (by first | rfl | exact (DR.nil (D := TEntry.D)).len | exact (DR.nil (D := TEntry.D)).len.symm) (by first | rfl | exact (DR.nil (D := TEntry.D)).len | exact (DR.nil (D := TEntry.D)).len.symm)), ⟨⟩⟩)⟩
 refine .d (sE h (fun hb40 h => ?_) (fun hb40 h => ?_))
 refine .d ?_
 obtain ⟨⟨v41, v42⟩, hv43, h⟩ := bd h
 refine pcOq (ihf49 _ _ _ hv43 _) [0] ⟨rfl, ⟨⟩⟩ ?_
 rintro _ _ ⟨f44, d45, rfl, rfl⟩
 refine ⟨.agg [.int .i64 v41.fKind, .int .i64 v41.fNum, .str v41.fStr, .int .i64 v41.fNext, .own 3 0 0 v41.fItems.length], [.row g1000 3 1 44 (fun _ => v42.lit), .row 0 5 1 24 (fun _ => [.int .i64 0, .int .i64 0, .str [], .int .i64 0, .own 2 0 0 0]), .row 0 8 0 63 (fun _ => []), .row 0 8 v41.fItems.length 63 f44], rfl, (by simp only [nxtL, putSel, List.map_cons, List.map_nil, List.drop, List.length_cons, List.length_nil, rer, red d45]; rfl), ⟨rfl, _, fun _ => [.int .i64 v41.fKind, .int .i64 v41.fNum, .str v41.fStr, .int .i64 v41.fNext, .own 3 0 0 v41.fItems.length], rfl, one_set rfl, ?_⟩⟩
 obtain rfl := si h
 exact ⟨rfl, _, rfl, (en [0, 3] ⟨f44, d45.self, rfl, rfl⟩ (.agg_l ⟨.i, .i, .s, .i, (.od (by first | rfl | exact d45.len | exact d45.len.symm)), ⟨⟩⟩) ⟨(ob rfl ⟨.s, .i, .b, ⟨⟩⟩), (nwd d45 (by first | rfl | exact d45.len | exact d45.len.symm) (by first | rfl | exact d45.len | exact d45.len.symm)), ⟨⟩⟩)⟩
 refine .d ⟨rfl, ⟨rfl, ⟨rfl, _, fun _ => [.str v8.fS, .int .i64 v8.fAt, .bool true], rfl, one_set rfl, (.d ⟨rfl, _, fun _ => [.int .i64 0, .int .i64 0, .str [], .int .i64 0, .nils], rfl, one_set rfl, ?_⟩)⟩⟩⟩
 obtain rfl := si h
 exact ⟨rfl, _, rfl, (en [0, 4] ⟨(fun _ => []), (DR.nil (D := TEntry.D)), rfl, rfl⟩ (.agg_l ⟨.i, .i, .s, .i, .g, ⟨⟩⟩) ⟨(ob rfl ⟨.s, .i, .b, ⟨⟩⟩), gh, ⟨⟩⟩)⟩
 intro _ hI107 a0 a1 r h g1000
 refine vc1 Tryd.func49 ?_
 refine .d (.d ?_)
 obtain ⟨⟨v46, v47⟩, hv48, h⟩ := bd h
 refine pcO (ok_i_serialReadercount (g1000 := g1000) hv48) [0] ⟨rfl, ⟨⟩⟩ (.int .i64 v46) [.row g1000 3 1 44 (fun _ => v47.lit), .row 0 5 1 24 (fun _ => [.int .i64 0, .int .i64 0, .str [], .int .i64 0, .nils])] (.d ?_)
 obtain ⟨⟨v49, v50⟩, hv51, h⟩ := bd h
 refine pcO (ok_i_serialReaderuntil (g1000 := g1000) hv51) [0] ⟨rfl, ⟨⟩⟩ (.str v49) [.row g1000 3 1 44 (fun _ => v50.lit), .row 0 5 1 24 (fun _ => [.int .i64 0, .int .i64 0, .str [], .int .i64 0, .nils])] ?_
 obtain ⟨⟨v52, v53⟩, hv54, h⟩ := bd h
 refine pcP (ok_i_ParseInt hv54) ?_
 obtain ⟨o56, ho57, hk58⟩ := bd h
 replace h := ho57
 refine .cut (fun σ η => ∃ b55, b55 = o56 ∧ σ = [(0, .optr 0 g1000 0 0), (1, .int .i64 a1), (4, .optr 1 0 0 0), (5, .int .i64 v46), (6, .int .i64 v52)] ∧ η = [.row g1000 3 1 44 (fun _ => [.str v50.fS, .int .i64 v50.fAt, .bool b55]), .row 0 5 1 24 (fun _ => [.int .i64 0, .int .i64 0, .str [], .int .i64 0, .own 2 0 0 0]), .row 0 8 0 63 (fun _ => [])]) ?_ ?_
 refine .d (sVn h (fun hb59 h => ?_) (fun hb59 h => ?_))
 exact .t (.t (.t ⟨rfl, ⟨rfl, ⟨rfl, _, fun _ => [.str v50.fS, .int .i64 v50.fAt, .bool true], rfl, one_set rfl, (ct ⟨_, si h, rfl, rfl⟩ (tk [0, 1, 4] ⟨.p, .i, .p, .i, .i, ⟨⟩⟩ ⟨(obp rfl), (nb rfl ⟨.i, .i, .s, .i, .g, ⟨⟩⟩), gh, ⟨⟩⟩))⟩⟩⟩))
 refine .f (.f (sD h (fun hb60 h => ?_) (fun hb60 h => ?_)))
 exact ⟨rfl, ⟨rfl, ⟨rfl, _, fun _ => [.str v50.fS, .int .i64 v50.fAt, .bool true], rfl, one_set rfl, (ct ⟨_, si h, rfl, rfl⟩ (tk [0, 1, 4] ⟨.p, .i, .p, .i, .i, ⟨⟩⟩ ⟨(obp rfl), (nb rfl ⟨.i, .i, .s, .i, .g, ⟨⟩⟩), gh, ⟨⟩⟩))⟩⟩⟩
 exact ct ⟨_, si h, rfl, rfl⟩ (tk [0, 1, 4] ⟨.p, .i, .p, .i, .i, ⟨⟩⟩ ⟨(obp rfl), (nb rfl ⟨.i, .i, .s, .i, .g, ⟨⟩⟩), gh, ⟨⟩⟩)
 rintro _ _ ⟨b55, rfl, rfl, rfl⟩
 replace h := hk58
 refine .d ⟨rfl, _, fun _ => [.int .i64 4, .int .i64 0, .str [], .int .i64 v52, .nils], rfl, one_set rfl, ?_⟩
 obtain ⟨o67, ho68, hk69⟩ := bd h
 replace h := ho68
 refine .cut (fun σ η => ∃ s61, ∃ y62, ∃ b63, ∃ l64, ∃ f65 : Nat → List PV, DR TEntry.D l64.length f65 l64 ∧ .inl (s61, y62, b63, l64) = o67 ∧ σ = [(0, .optr 0 g1000 0 0), (4, .optr 1 0 0 0), (8, .optr 3 0 0 0)] ∧ η = [.row g1000 3 1 44 (fun _ => [.str s61, .int .i64 y62, .bool b63]), .row 0 5 1 24 (fun _ => [.int .i64 0, .int .i64 0, .str [], .int .i64 0, .own 2 0 0 0]), .row 0 8 0 63 (fun _ => []), .row 0 5 1 24 (fun _ => [.int .i64 4, .int .i64 0, .str [], .int .i64 v52, .own 4 0 0 l64.length]), .row 0 8 l64.length 63 f65]) ?_ ?_
 refine .d ?_
 have hL106 := hI107 _ _ _ _ _ _ _ _ _ h
 refine le (m_i_serialReaderarray_L2_ind (motive := fun p103 p104 p105 s70 y71 b72 l73 y76 o101 => ∀ f74 : Nat → List PV, DR TEntry.D l73.length f74 l73 → a1 = p103 → v46 = p104 → v52 = p105 → o67 = o101 → LoopAt _ _ [(0, .optr 0 g1000 0 0), (1, .int .i64 a1), (4, .optr 1 0 0 0), (5, .int .i64 v46), (8, .optr 3 0 0 0), (9, .int .i64 y76)] [.row g1000 3 1 44 (fun _ => [.str s70, .int .i64 y71, .bool b72]), .row 0 5 1 24 (fun _ => [.int .i64 0, .int .i64 0, .str [], .int .i64 0, .own 2 0 0 0]), .row 0 8 0 63 (fun _ => []), .row 0 5 1 24 (fun _ => [.int .i64 4, .int .i64 0, .str [], .int .i64 v52, .own 4 0 0 l73.length]), .row 0 8 l73.length 63 f74]) ?_ a1 v46 v52 v50.fS v50.fAt b55 ([] : List TEntry) 0 o67 hL106 (fun _ => []) (DR.nil (D := TEntry.D)) rfl rfl rfl rfl) (tk [0, 1, 2, 3, 8] ⟨.p, .i, .p, .i, .p, .i, ⟨⟩⟩ ⟨(obp rfl), (nb rfl ⟨.i, .i, .s, .i, (.od (by first | rfl | exact (DR.nil (D := TEntry.D)).len | exact (DR.nil (D := TEntry.D)).len.symm)), ⟨⟩⟩), (nwd (DR.nil (D := TEntry.D))), (nb rfl ⟨.i, .i, .s, .i, .g, ⟨⟩⟩), gh, ⟨⟩⟩)
 intro _ hG79 _ _ p103 p104 p105 s70 y71 b72 l73 y76 o101 h ih77 f74 d75 hp_p103 hp_p104 hp_p105 hr102
 subst hp_p103
 subst hp_p104
 subst hp_p105
 subst hr102
 refine LoopAt.round (.d (.d (sD h (fun hb81 h => ?_) (fun hb81 h => ?_))))
 refine .t ⟨rfl, (.t ⟨rfl, (.t ⟨rfl, _, rfl, (.t (.t (sVn h (fun hb82 h => ?_) (fun hb82 h => ?_))))⟩)⟩)⟩
 refine .d (.d ?_)
 obtain ⟨⟨v83, v84⟩, hv85, h⟩ := bd h
 refine pcOq (hG79 _ _ _ hv85 _) [0] ⟨rfl, ⟨⟩⟩ ?_
 rintro _ _ ⟨f86, d87, rfl, rfl⟩
 refine ⟨.agg [.int .i64 v83.fKind, .int .i64 v83.fNum, .str v83.fStr, .int .i64 v83.fNext, .own 5 0 0 v83.fItems.length], [.row g1000 3 1 44 (fun _ => v84.lit), .row 0 5 1 24 (fun _ => [.int .i64 0, .int .i64 0, .str [], .int .i64 0, .own 2 0 0 0]), .row 0 8 0 63 (fun _ => []), .row 0 5 1 24 (fun _ => [.int .i64 4, .int .i64 0, .str [], .int .i64 v52, .own 4 0 0 l73.length]), .row 0 8 l73.length 63 f74, .row 0 8 v83.fItems.length 63 f86], rfl, (by simp only [nxtL, putSel, List.map_cons, List.map_nil, List.drop, List.length_cons, List.length_nil, rer, red d87]; rfl), ?_⟩
 obtain ⟨⟨v88, v89⟩, hv90, h⟩ := bd h
 refine pcS (ok_i_KeyOf hv90) ⟨.agg_l ⟨.i, .i, .s, .i, (.rd d87), ⟨⟩⟩, ⟨⟩⟩ ⟨rfl, _, fun _ => [.bool v88.fText, .int .i64 v88.fNum, .str v88.fStr], rfl, one_set rfl, (.d (.d (sVn h (fun hb91 h => ?_) (fun hb91 h => ?_))))⟩
 refine .d ⟨rfl, ⟨rfl, ⟨rfl, _, fun _ => [.str v84.fS, .int .i64 v84.fAt, .bool true], rfl, one_set rfl, (.d ⟨rfl, _, rfl, ⟨rfl, _, fun _ => [.int .i64 4, .int .i64 0, .str [], .int .i64 v52, .own 4 0 0 l73.length], rfl, one_set rfl, ?_⟩⟩)⟩⟩⟩
 obtain rfl := si h
 replace h := hk69
 obtain rfl := si h
 exact ⟨rfl, _, rfl, (en [0, 4] ⟨f74, d75.self, rfl, rfl⟩ (.agg_l ⟨.i, .i, .s, .i, (.od (by first | rfl | exact d75.len | exact d75.len.symm)), ⟨⟩⟩) ⟨(ob rfl ⟨.s, .i, .b, ⟨⟩⟩), (nwd d75 (by first | rfl | exact d75.len | exact d75.len.symm) (by first | rfl | exact d75.len | exact d75.len.symm)), ⟨⟩⟩)⟩
 refine .d ?_
 obtain ⟨⟨v92, v93⟩, hv94, h⟩ := bd h
 refine pcOq (hG79 _ _ _ hv94 _) [0] ⟨rfl, ⟨⟩⟩ ?_
 rintro _ _ ⟨f95, d96, rfl, rfl⟩
 refine ⟨.agg [.int .i64 v92.fKind, .int .i64 v92.fNum, .str v92.fStr, .int .i64 v92.fNext, .own 7 0 0 v92.fItems.length], [.row g1000 3 1 44 (fun _ => v93.lit), .row 0 5 1 24 (fun _ => [.int .i64 0, .int .i64 0, .str [], .int .i64 0, .own 2 0 0 0]), .row 0 8 0 63 (fun _ => []), .row 0 5 1 24 (fun _ => [.int .i64 4, .int .i64 0, .str [], .int .i64 v52, .own 4 0 0 l73.length]), .row 0 8 l73.length 63 f74, .row 0 8 v83.fItems.length 63 f86, .row 0 3 1 40 (fun _ => v88.lit), .row 0 8 v92.fItems.length 63 f95], rfl, (by simp only [nxtL, putSel, List.map_cons, List.map_nil, List.drop, List.length_cons, List.length_nil, rer, red d96]; rfl), ⟨rfl, _, fun _ => [.int .i64 v92.fKind, .int .i64 v92.fNum, .str v92.fStr, .int .i64 v92.fNext, .own 7 0 0 v92.fItems.length], rfl, one_set rfl, ⟨rfl, ⟨rfl, _, rfl, ⟨rfl, _, rfl, ⟨rfl, _, rfl, ⟨fun _ => [.bool v88.fText, .int .i64 v88.fNum, .str v88.fStr, .int .i64 v92.fKind, .int .i64 v92.fNum, .str v92.fStr, .int .i64 v92.fNext, .own 7 0 0 v92.fItems.length], lit_one, (bk h fun l97 hx98 h => ⟨rfl, rfl, (fun _ _ => rfl), DR.lbd d75 hx98, l97.length, fset f74 l73.length [.bool v88.fText, .int .i64 v88.fNum, .str v88.fStr, .int .i64 v92.fKind, .int .i64 v92.fNum, .str v92.fStr, .int .i64 v92.fNext, .own 7 0 0 v92.fItems.length], DR.ln d75 hx98, app_one (DR.ln d75 hx98) ⟨.same _, .same _, .same _, .same _, .same _, .same _, .same _, .same _, trivial⟩, ⟨rfl, ⟨rfl, _, fun _ => [.int .i64 4, .int .i64 0, .str [], .int .i64 v52, .own 4 (0 + 1) 0 l97.length], rfl, one_set rfl, (.ab 4 l73.length 7 7 (fun F99 => [.row g1000 3 1 44 (fun _ => v93.lit), .row 0 5 1 24 (fun _ => [.int .i64 0, .int .i64 0, .str [], .int .i64 0, .own 2 0 0 0]), .row 0 8 0 63 (fun _ => []), .row 0 5 1 24 (fun _ => [.int .i64 4, .int .i64 0, .str [], .int .i64 v52, .own 4 (0 + 1) 0 l97.length]), .row (0 + 1) 8 l97.length 63 (fset f74 l73.length [.bool v88.fText, .int .i64 v88.fNum, .str v88.fStr, .int .i64 v92.fKind, .int .i64 v92.fNum, .str v92.fStr, .int .i64 v92.fNext, .osl 8 v92.fItems.length 63 f95 F99]), .row 0 8 v83.fItems.length 63 f86, .row 0 3 1 40 (fun _ => v88.lit), .dead, .row 0 5 1 24 (fun _ => [.int .i64 v92.fKind, .int .i64 v92.fNum, .str v92.fStr, .int .i64 v92.fNext, .own 7 0 0 v92.fItems.length]), .row 0 8 1 63 (fun _ => [.bool v88.fText, .int .i64 v88.fNum, .str v88.fStr, .int .i64 v92.fKind, .int .i64 v92.fNum, .str v92.fStr, .int .i64 v92.fNext, .own 7 0 0 v92.fItems.length])]) (fun F99 => abs_ [.bool v88.fText, .int .i64 v88.fNum, .str v88.fStr, .int .i64 v92.fKind, .int .i64 v92.fNum, .str v92.fStr, .int .i64 v92.fNext, .own 7 0 0 v92.fItems.length] [.bool v88.fText, .int .i64 v88.fNum, .str v88.fStr, .int .i64 v92.fKind, .int .i64 v92.fNum, .str v92.fStr, .int .i64 v92.fNext, .osl 8 v92.fItems.length 63 f95 F99] (fset f74 l73.length [.bool v88.fText, .int .i64 v88.fNum, .str v88.fStr, .int .i64 v92.fKind, .int .i64 v92.fNum, .str v92.fStr, .int .i64 v92.fNext, .osl 8 v92.fItems.length 63 f95 F99]) (DR.lq d75 hx98) fset_at fset_at fset_kk (d96).po rfl rfl rfl rfl (by decide) rfl) fun F99 => ?_)⟩⟩⟩)⟩⟩⟩⟩⟩⟩⟩
 have d100 : DR TEntry.D l97.length (fset f74 l73.length [.bool v88.fText, .int .i64 v88.fNum, .str v88.fStr, .int .i64 v92.fKind, .int .i64 v92.fNum, .str v92.fStr, .int .i64 v92.fNext, .osl 8 v92.fItems.length 63 f95 F99]) l97 := DR.appq d75 hx98 (TEntry.D_mk (x := (TEntry.mk v88 v92)) d96 : TEntry.D [.bool v88.fText, .int .i64 v88.fNum, .str v88.fStr, .int .i64 v92.fKind, .int .i64 v92.fNum, .str v92.fStr, .int .i64 v92.fNext, .osl 8 v92.fItems.length 63 f95 F99] (TEntry.mk v88 v92))
 exact lg (ih77 _ _ _ _ _ _ _ _ _ h (fset f74 l73.length [.bool v88.fText, .int .i64 v88.fNum, .str v88.fStr, .int .i64 v92.fKind, .int .i64 v92.fNum, .str v92.fStr, .int .i64 v92.fNext, .osl 8 v92.fItems.length 63 f95 F99]) d100 rfl rfl rfl rfl) (tk [0, 1, 2, 3, 4] ⟨.p, .i, .p, .i, .p, .i, ⟨⟩⟩ ⟨(obp rfl), (nb rfl ⟨.i, .i, .s, .i, (.od (by first | rfl | exact (DR.nil (D := TEntry.D)).len | exact (DR.nil (D := TEntry.D)).len.symm)), ⟨⟩⟩), (nwd (DR.nil (D := TEntry.D))), (nb rfl ⟨.i, .i, .s, .i, (.od (by first | rfl | exact d100.len | exact d100.len.symm)), ⟨⟩⟩), (nwd d100), ⟨⟩⟩)
 exact ct ⟨_, _, _, _, f74, d75, si h, rfl, rfl⟩ (tk [0, 1, 2, 3, 4] ⟨.p, .p, .p, ⟨⟩⟩ ⟨(obp rfl), (nb rfl ⟨.i, .i, .s, .i, (.od (by first | rfl | exact (DR.nil (D := TEntry.D)).len | exact (DR.nil (D := TEntry.D)).len.symm)), ⟨⟩⟩), (nwd (DR.nil (D := TEntry.D))), (nb rfl ⟨.i, .i, .s, .i, (.od (by first | rfl | exact d75.len | exact d75.len.symm)), ⟨⟩⟩), (nwd d75), ⟨⟩⟩)
 exact .f (.f (.f (.f (.f (.f (ct ⟨_, _, _, _, f74, d75, si h, rfl, rfl⟩ (tk [0, 1, 2, 3, 4] ⟨.p, .p, .p, ⟨⟩⟩ ⟨(obp rfl), (nb rfl ⟨.i, .i, .s, .i, (.od (by first | rfl | exact (DR.nil (D := TEntry.D)).len | exact (DR.nil (D := TEntry.D)).len.symm)), ⟨⟩⟩), (nwd (DR.nil (D := TEntry.D))), (nb rfl ⟨.i, .i, .s, .i, (.od (by first | rfl | exact d75.len | exact d75.len.symm)), ⟨⟩⟩), (nwd d75), ⟨⟩⟩)))))))
 rintro _ _ ⟨s61, y62, b63, l64, f65, d66, rfl, rfl, rfl⟩
 replace h := hk69
 refine .d (.d ⟨rfl, ⟨rfl, ⟨rfl, _, rfl, (sVn h (fun hb108 h => ?_) (fun hb108 h => ?_))⟩⟩⟩)
 refine bk h fun v109 hv110 h => (pcO (ok_i_serialReadereat (g1000 := g1000) hv110) [0] ⟨rfl, ⟨⟩⟩ (.tup []) [.row g1000 3 1 44 (fun _ => v109.lit), .row 0 5 1 24 (fun _ => [.int .i64 0, .int .i64 0, .str [], .int .i64 0, .own 2 0 0 0]), .row 0 8 0 63 (fun _ => []), .row 0 5 1 24 (fun _ => [.int .i64 4, .int .i64 0, .str [], .int .i64 v52, .own 4 0 0 l64.length]), .row 0 8 l64.length 63 f65] (.d ⟨rfl, _, rfl, ⟨rfl, _, fun _ => [.int .i64 4, .int .i64 0, .str [], .int .i64 v52, .own 4 0 0 l64.length], rfl, one_set rfl, ?_⟩⟩))
 obtain rfl := si h
 exact ⟨rfl, _, rfl, (en [0, 4] ⟨f65, d66.self, rfl, rfl⟩ (.agg_l ⟨.i, .i, .s, .i, (.od (by first | rfl | exact d66.len | exact d66.len.symm)), ⟨⟩⟩) ⟨(ob rfl ⟨.s, .i, .b, ⟨⟩⟩), (nwd d66 (by first | rfl | exact d66.len | exact d66.len.symm) (by first | rfl | exact d66.len | exact d66.len.symm)), ⟨⟩⟩)⟩
 refine .d ⟨rfl, _, rfl, ⟨rfl, _, fun _ => [.int .i64 4, .int .i64 0, .str [], .int .i64 v52, .own 4 0 0 l64.length], rfl, one_set rfl, ?_⟩⟩
 obtain rfl := si h
 exact ⟨rfl, _, rfl, (en [0, 4] ⟨f65, d66.self, rfl, rfl⟩ (.agg_l ⟨.i, .i, .s, .i, (.od (by first | rfl | exact d66.len | exact d66.len.symm)), ⟨⟩⟩) ⟨(ob rfl ⟨.s, .i, .b, ⟨⟩⟩), (nwd d66 (by first | rfl | exact d66.len | exact d66.len.symm) (by first | rfl | exact d66.len | exact d66.len.symm)), ⟨⟩⟩)⟩
 intro F0 F1 hF0 hF1 a1 v46 v52 s70 y71 b72 l73 y76 o h
 exact .mk F0 hF0 F1 hF1 a1 v46 v52 s70 y71 b72 l73 y76 o h
theorem ok_i_serialReadervalue {a0 : TSerialReader} {a1 : Int} {r : TValue × TSerialReader} {g1000 : Nat} (h : m_i_serialReadervalue a0 a1 = some r) : ACall Tryd.prog 18 [.optr 0 g1000 0 0, .int .i64 a1] [.row g1000 3 1 44 (fun _ => a0.lit)] (fun res h => ∃ F1 : Nat → List PV, DR TEntry.D r.1.fItems.length F1 r.1.fItems ∧ res = .agg [.int .i64 r.1.fKind, .int .i64 r.1.fNum, .str r.1.fStr, .int .i64 r.1.fNext, .own 1 0 0 r.1.fItems.length] ∧ h = [.row g1000 3 1 44 (fun _ => r.2.lit), .row 0 8 r.1.fItems.length 63 F1]) := grp__i_serialReadervalue.1 a0 a1 r h g1000
theorem ok_i_serialReaderarray {a0 : TSerialReader} {a1 : Int} {r : TValue × TSerialReader} {g1000 : Nat} (h : m_i_serialReaderarray a0 a1 = some r) : ACall Tryd.prog 49 [.optr 0 g1000 0 0, .int .i64 a1] [.row g1000 3 1 44 (fun _ => a0.lit)] (fun res h => ∃ F1 : Nat → List PV, DR TEntry.D r.1.fItems.length F1 r.1.fItems ∧ res = .agg [.int .i64 r.1.fKind, .int .i64 r.1.fNum, .str r.1.fStr, .int .i64 r.1.fNext, .own 1 0 0 r.1.fItems.length] ∧ h = [.row g1000 3 1 44 (fun _ => r.2.lit), .row 0 8 r.1.fItems.length 63 F1]) := grp__i_serialReadervalue.2.1 a0 a1 r h g1000
def m_i_Unserialize (a0 : Str) : Option (TValue × Bool) :=
 m_i_serialReadervalue (TSerialReader.mk a0 0 false) 0 >>= fun (v1, v2) =>
 (if v2.fBad = true then
 some ((TValue.mk 0 0 [] 0 []), false)
 else
 (if v2.fAt = (a0.length : Int) then
 m_i_Serialize v1 >>= fun (v8, v9) =>
 (if v9 = true then
 (if v8 = a0 then
 some (v1, true)
 else
 some ((TValue.mk 0 0 [] 0 []), false))
 else
 some ((TValue.mk 0 0 [] 0 []), false))
 else
 some ((TValue.mk 0 0 [] 0 []), false)))
theorem ok_i_Unserialize {a0 : Str} {r : TValue × Bool} (h : m_i_Unserialize a0 = some r) : ACall Tryd.prog 6 [.str a0] [] (fun res h => ∃ F0 : Nat → List PV, DR TEntry.D r.1.fItems.length F0 r.1.fItems ∧ res = .tup [.agg [.int .i64 r.1.fKind, .int .i64 r.1.fNum, .str r.1.fStr, .int .i64 r.1.fNext, .own 0 0 0 r.1.fItems.length], .bool r.2] ∧ h = [.row 0 8 r.1.fItems.length 63 F0]) := by
 refine vc1 Tryd.func6 ?_
 unfold m_i_Unserialize at h
 refine .d (.d ⟨rfl, _, fun _ => [.str a0, .int .i64 0, .bool false], rfl, one_set rfl, (.d ?_)⟩)
 obtain ⟨⟨v1, v2⟩, hv3, h⟩ := bd h
 refine pcOq (ok_i_serialReadervalue (g1000 := 0) hv3) [1] ⟨rfl, ⟨⟩⟩ ?_
 rintro _ _ ⟨f4, d5, rfl, rfl⟩
 refine ⟨.agg [.int .i64 v1.fKind, .int .i64 v1.fNum, .str v1.fStr, .int .i64 v1.fNext, .own 2 0 0 v1.fItems.length], [.row 0 5 1 24 (fun _ => [.int .i64 0, .int .i64 0, .str [], .int .i64 0, .nils]), .row 0 3 1 44 (fun _ => v2.lit), .row 0 8 v1.fItems.length 63 f4], rfl, (by simp only [nxtL, putSel, List.map_cons, List.map_nil, List.drop, List.length_cons, List.length_nil, rer, red d5]; rfl), ⟨rfl, _, fun _ => [.int .i64 v1.fKind, .int .i64 v1.fNum, .str v1.fStr, .int .i64 v1.fNext, .own 2 0 0 v1.fItems.length], rfl, one_set rfl, (.d (.d ⟨rfl, ⟨rfl, _, rfl, (sV h (fun hb6 h => ?_) (fun hb6 h => ?_))⟩⟩))⟩⟩
 refine .t (.t (.t (.t (.t (.t (.d (pcP (ok_i_NullValuex) ⟨rfl, _, fun _ => [.int .i64 0, .int .i64 0, .str [], .int .i64 0, .nils], rfl, one_set rfl, ?_⟩)))))))
 obtain rfl := si h
 exact ⟨rfl, _, rfl, (en [4] ⟨(fun _ => []), (DR.nil (D := TEntry.D)), rfl, rfl⟩ (.tup_l ⟨.agg_l ⟨.i, .i, .s, .i, .g, ⟨⟩⟩, .b, ⟨⟩⟩) ⟨gh, ⟨⟩⟩)⟩
 refine ⟨rfl, (.f ⟨rfl, _, rfl, (.f (.f (.f (.f (sN h (fun hb7 h => ?_) (fun hb7 h => ?_))))))⟩)⟩
 refine .d (pcP (ok_i_NullValuex) ⟨rfl, _, fun _ => [.int .i64 0, .int .i64 0, .str [], .int .i64 0, .nils], rfl, one_set rfl, ?_⟩)
 obtain rfl := si h
 exact ⟨rfl, _, rfl, (en [4] ⟨(fun _ => []), (DR.nil (D := TEntry.D)), rfl, rfl⟩ (.tup_l ⟨.agg_l ⟨.i, .i, .s, .i, .g, ⟨⟩⟩, .b, ⟨⟩⟩) ⟨gh, ⟨⟩⟩)⟩
 refine .d ⟨rfl, _, rfl, ?_⟩
 obtain ⟨⟨v8, v9⟩, hv10, h⟩ := bd h
 refine pcS (ok_i_Serialize hv10) ⟨.agg_l ⟨.i, .i, .s, .i, (.rd d5), ⟨⟩⟩, ⟨⟩⟩ (.d (.d (sVn h (fun hb11 h => ?_) (fun hb11 h => ?_))))
 refine .t (.t (.t (.t (.d (pcP (ok_i_NullValuex) ⟨rfl, _, fun _ => [.int .i64 0, .int .i64 0, .str [], .int .i64 0, .nils], rfl, one_set rfl, ?_⟩)))))
 obtain rfl := si h
 exact ⟨rfl, _, rfl, (en [4] ⟨(fun _ => []), (DR.nil (D := TEntry.D)), rfl, rfl⟩ (.tup_l ⟨.agg_l ⟨.i, .i, .s, .i, .g, ⟨⟩⟩, .b, ⟨⟩⟩) ⟨gh, ⟨⟩⟩)⟩
 refine .f (.f (.f (sEn h (fun hb12 h => ?_) (fun hb12 h => ?_))))
 refine .d (pcP (ok_i_NullValuex) ⟨rfl, _, fun _ => [.int .i64 0, .int .i64 0, .str [], .int .i64 0, .nils], rfl, one_set rfl, ?_⟩)
 obtain rfl := si h
 exact ⟨rfl, _, rfl, (en [4] ⟨(fun _ => []), (DR.nil (D := TEntry.D)), rfl, rfl⟩ (.tup_l ⟨.agg_l ⟨.i, .i, .s, .i, .g, ⟨⟩⟩, .b, ⟨⟩⟩) ⟨gh, ⟨⟩⟩)⟩
 refine .d ⟨rfl, _, rfl, ⟨rfl, _, fun _ => [.int .i64 v1.fKind, .int .i64 v1.fNum, .str v1.fStr, .int .i64 v1.fNext, .own 2 0 0 v1.fItems.length], rfl, one_set rfl, ?_⟩⟩
 obtain rfl := si h
 exact ⟨rfl, _, rfl, (en [2] ⟨f4, d5.self, rfl, rfl⟩ (.tup_l ⟨.agg_l ⟨.i, .i, .s, .i, (.od (by first | rfl | exact d5.len | exact d5.len.symm)), ⟨⟩⟩, .b, ⟨⟩⟩) ⟨(nwd d5 (by first | rfl | exact d5.len | exact d5.len.symm) (by first | rfl | exact d5.len | exact d5.len.symm)), ⟨⟩⟩)⟩
end Go.Am
