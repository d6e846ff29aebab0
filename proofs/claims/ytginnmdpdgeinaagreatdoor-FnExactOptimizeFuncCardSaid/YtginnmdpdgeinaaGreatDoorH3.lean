/- Marking a function keeps its rows' lengths. -/
import Derived.Test.YtginnmdpdgeinaaGreatDoorA8
set_option linter.unusedVariables false
namespace Go.Am
open Go Go.RowKit Go.Proofs
theorem markFunc_len {a0 : TFunc} {a1 : Int} {r : Int × TFunc} (hv : m_l_markFunc a0 a1 = some r) : r.2.fParams.length = a0.fParams.length ∧ r.2.fUses.length = a0.fUses.length ∧ r.2.fSlots.length = a0.fSlots.length ∧ r.2.fCode.length = a0.fCode.length := by
 unfold m_l_markFunc at hv
 obtain ⟨⟨k1, l1⟩, h1, hv⟩ := bind_some hv
 obtain ⟨⟨k2, l2⟩, h2, hv⟩ := bind_some hv
 obtain ⟨⟨k3, l3⟩, h3, hv⟩ := bind_some hv
 obtain ⟨⟨k4, l4⟩, h4, hv⟩ := bind_some hv
 cases hv
 exact ⟨markParamS_len h1, markParamS_len h2, markStringS_len h3, markInsS_len h4⟩
end Go.Am
