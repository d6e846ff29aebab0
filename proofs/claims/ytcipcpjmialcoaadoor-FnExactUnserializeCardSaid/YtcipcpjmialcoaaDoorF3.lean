/- Models of Go functions, and their walks. (Printed by tools/mg.py.) -/
import Derived.Test.YtcipcpjmialcoaaDoorF2
import Derived.Test.YtcipcpjmialcoaaDoorL1
set_option linter.unusedVariables false
set_option linter.unusedSimpArgs false
namespace Go.Am
open Go Go.RowKit Go.Proofs
def m69 (a0 : Str) : Option (Int × Bool) :=
 m98 a0 (-1000000000) 1000000000 >>= fun (v1, v2) =>
 some (v1, v2)
theorem ok69 {a0 : Str} {r : Int × Bool} (h : m69 a0 = some r) : ACall Tryd.prog 44 [.str a0] [] (fun res h => res = .tup [.int .i64 r.1, .bool r.2] ∧ h = []) := by
 refine vc1 Tryd.func44 ?_
 unfold m69 at h
 refine .d (.d ?_)
 obtain ⟨⟨v1, v2⟩, hv3, h⟩ := bd h
 refine pcP (ok98 hv3) ?_
 obtain rfl := si h
 exact en [] ⟨rfl, rfl⟩ (.tup_l ⟨.i, .b, ⟨⟩⟩) ⟨⟩
def m55 (a0 : TKey) : Option (Bool) :=
 (if a0.fText = true then
 m69 a0.fStr >>= fun (v5, v6) =>
 (if a0.fNum = 0 then
 (if (a0.fStr.length : Int) ≤ 400 then
 some (!v6)
 else
 some false)
 else
 some false)
 else
 (if a0.fStr = ([] : Str) then
 m92 a0.fNum (-1000000000) 1000000000 >>= fun v3 =>
 some v3
 else
 some false))
theorem ok55 {a0 : TKey} {r : Bool} (h : m55 a0 = some r) : ACall Tryd.prog 61 [.agg a0.lit] [] (fun res h => res = .bool r ∧ h = []) := by
 refine vc1 Tryd.func61 ?_
 unfold m55 at h
 refine .d (.d (.d ⟨rfl, ⟨rfl, _, rfl, (sVn h (fun hb1 h => ?_) (fun hb1 h => ?_))⟩⟩))
 refine .d ⟨rfl, ⟨rfl, _, rfl, (sE h (fun hb2 h => ?_) (fun hb2 h => ?_))⟩⟩
 exact ⟨rfl, (.t ⟨rfl, _, rfl, (.t (bk h fun v3 hv4 h => (pcP (ok92 hv4) (.t (eB h)))))⟩)⟩
 exact .f (.f (.f (eB h)))
 refine .d ⟨rfl, ⟨rfl, _, rfl, ?_⟩⟩
 obtain ⟨⟨v5, v6⟩, hv7, h⟩ := bd h
 refine pcP (ok69 hv7) (.d ⟨rfl, ⟨rfl, _, rfl, (sE h (fun hb8 h => ?_) (fun hb8 h => ?_))⟩⟩)
 refine ⟨rfl, (.t ⟨rfl, _, rfl, (.t (.t (.t (sD h (fun hb9 h => ?_) (fun hb9 h => ?_)))))⟩)⟩
 exact .t (.t (eB h))
 exact .f (.f (eB h))
 exact .f (.f (.f (.f (.f (.f (.f (eB h)))))))
end Go.Am
