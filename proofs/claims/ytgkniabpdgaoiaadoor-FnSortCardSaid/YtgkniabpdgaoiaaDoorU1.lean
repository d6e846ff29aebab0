/- Models of Go functions, and their walks. (Printed by tools/mg.py.) -/
import Derived.Test.YtgkniabpdgaoiaaDoorF3
set_option linter.unusedVariables false
set_option linter.unusedSimpArgs false
set_option maxRecDepth 100000
namespace Go.Am
open Go Go.RowKit Go.Proofs
def okS50 (a0 : TValue) (r : Bool) : Prop := ACall Tryd.prog 50 [.agg a0.lit] [] (fun res h => res = .bool r ∧ h = [])
inductive m_i_wellFormed_L4_I : TValue → (List (TKey × Bool)) → Int → ((Unit) ⊕ ((Unit) ⊕ Bool)) → Prop
 | mk (G50 : TValue → Option (Bool)) (hG50 : ∀ a0 r, G50 a0 = some r → okS50 a0 r) (F_m_i_wellFormed_L4 : TValue → (List (TKey × Bool)) → Int → Option ((Unit) ⊕ ((Unit) ⊕ Bool))) (hF_m_i_wellFormed_L4 : ∀ a0 l40 y41 o, F_m_i_wellFormed_L4 a0 l40 y41 = some o → m_i_wellFormed_L4_I a0 l40 y41 o) (a0 : TValue) (l40 : List (TKey × Bool)) (y41 : Int) (o : (Unit) ⊕ ((Unit) ⊕ Bool)) (h : (
 (if y41 < (a0.fItems.length : Int) then
 idx a0.fItems y41 >>= fun x46 =>
 m55 x46.fKey >>= fun v48 =>
 (if v48 = true then
 (if (mgd l40 x46.fKey false) = true then
 some (.inr (.inr false))
 else
 (if x46.fKey.fText = true then
 G50 x46.fVal >>= fun v57 =>
 (if v57 = true then
 F_m_i_wellFormed_L4 a0 (mput l40 x46.fKey true) (W64 (y41 + 1))
 else
 some (.inr (.inr false)))
 else
 (if x46.fKey.fNum ≥ a0.fNext then
 some (.inr (.inr false))
 else
 G50 x46.fVal >>= fun v54 =>
 (if v54 = true then
 F_m_i_wellFormed_L4 a0 (mput l40 x46.fKey true) (W64 (y41 + 1))
 else
 some (.inr (.inr false))))))
 else
 some (.inr (.inr false)))
 else
 some (.inl ()))
 ) = some o) : m_i_wellFormed_L4_I a0 l40 y41 o
end Go.Am
