/- Marking keeps a row's length. -/
import Derived.Test.YtginnmdpdgeinaaGreatDoorA7
set_option linter.unusedVariables false
namespace Go.Am
open Go Go.RowKit Go.Proofs
theorem markParamS_len {a0 : List TParam} {a1 : Int} {r : Int × List TParam} (hv : m_l_markParamS a0 a1 = some r) : r.2.length = a0.length := by
 unfold m_l_markParamS at hv
 obtain ⟨o, h1, h2⟩ := bind_some hv
 cases h2
 exact m_l_markParamS_L2.partial_correctness (motive := fun l _ _ r => r.2.length = l.length) (fun F ih l y k r h => by
  split at h
  ·obtain ⟨_, _, h⟩ := bind_some h
   obtain ⟨_, _, h⟩ := bind_some h
   obtain ⟨_, _, h⟩ := bind_some h
   simpa using ih _ _ _ _ h
  ·cases h; rfl) _ _ _ _ h1
theorem markStringS_len {a0 : List Str} {a1 : Int} {r : Int × List Str} (hv : m_l_markStringS a0 a1 = some r) : r.2.length = a0.length := by
 unfold m_l_markStringS at hv
 obtain ⟨o, h1, h2⟩ := bind_some hv
 cases h2
 exact m_l_markStringS_L2.partial_correctness (motive := fun l _ _ r => r.2.length = l.length) (fun F ih l y k r h => by
  split at h
  ·obtain ⟨_, _, h⟩ := bind_some h
   obtain ⟨_, _, h⟩ := bind_some h
   simpa using ih _ _ _ _ h
  ·cases h; rfl) _ _ _ _ h1
theorem markInsS_len {a0 : List TIns} {a1 : Int} {r : Int × List TIns} (hv : m_l_markInsS a0 a1 = some r) : r.2.length = a0.length := by
 unfold m_l_markInsS at hv
 obtain ⟨o, h1, h2⟩ := bind_some hv
 cases h2
 exact m_l_markInsS_L2.partial_correctness (motive := fun l _ _ r => r.2.length = l.length) (fun F ih l y k r h => by
  split at h
  ·obtain ⟨_, _, h⟩ := bind_some h
   obtain ⟨_, _, h⟩ := bind_some h
   obtain ⟨_, _, h⟩ := bind_some h
   obtain ⟨_, _, h⟩ := bind_some h
   obtain ⟨_, _, h⟩ := bind_some h
   obtain ⟨_, _, h⟩ := bind_some h
   obtain ⟨_, _, h⟩ := bind_some h
   simpa using ih _ _ _ _ h
  ·cases h; rfl) _ _ _ _ h1
end Go.Am
