/- Union: no answer. -/
import Derived.Test.YtginnmdpdgeinaaGreatDoorB2
set_option linter.unusedVariables false
namespace Go.Am
open Go Go.RowKit Go.Proofs
def m_i_Union (a0 a1 : TValue) : Option (TValue × Int) := none
theorem ok_i_Union {a0 : TValue} {a1 : TValue} {r : TValue × Int} (h : m_i_Union a0 a1 = some r) : ACall Tryz.prog 121 [.agg a0.lit, .agg a1.lit] [] (fun res h => res = .tup [.agg r.1.lit, .int .i64 r.2] ∧ h = []) := by cases h
def m_s_Union (a0 a1 : TValue) : Option (TValue × Int) := none
theorem ok_s_Union {a0 : TValue} {a1 : TValue} {r : TValue × Int} (h : m_s_Union a0 a1 = some r) : ACall Tryz.prog 98 [.agg a0.lit, .agg a1.lit] [] (fun res h => res = .tup [.agg r.1.lit, .int .i64 r.2] ∧ h = []) := by cases h
end Go.Am
