/- The end of a law over bytes. -/
import Derived.Test.YtgkniabpdgaoiaaDoorV3
set_option linter.unusedVariables false
set_option linter.unusedSimpArgs false
namespace Go.Am
open Go Go.RowKit Go.Proofs
theorem prep_congr {S : Nat → Prop} {w : World} {sz n : Nat} {f g : Nat → List PV} {v : Value} (h : PRep S w (.slc sz n f) v) (e : ∀ i, i < n → f i = g i) : PRep S w (.slc sz n g) v := by
 cases h with
 | slc0 => exact .slc0 _ _ _ _
 | slc _ _ _ b off c vf hS hlen hc hcell hrep =>
  exact .slc sz n g b off c vf hS (fun i hi => by rw [← e i hi]; exact hlen i hi) hc (fun i j pv hi hj => hcell i j pv hi (by rw [e i hi]; exact hj)) (fun i j pv hi hj => hrep i j pv hi (by rw [e i hi]; exact hj))
theorem prep_bytes {S : Nat → Prop} {w : World} {a : Option Addr} {len cap : Nat} {zs : List Int}
  (h : (a = none ∧ len = 0 ∧ cap = 0 ∧ zs = []) ∨ ∃ x, a = some x ∧ len ≤ cap ∧ cap ≤ maxLen ∧ zs.length = cap ∧ (∀ i, i < zs.length → w.cell? (x.add i) = some (.int .u8 (zs.getD i 0))) ∧ ∀ n ∈ zs, (Lit.int .u8 n).wf = true)
  (hS : ∀ b, b < w.heap.size → S b) : ∃ bs : List UInt8, PRep S w (sl 1 cB bs) (.slice a len cap) := by
 have hp := prep_ints h hS
 have hz : len ≤ zs.length := by
  rcases h with ⟨rfl, rfl, rfl, rfl⟩ | ⟨x, rfl, hl, hm, hz, hcell, hwz⟩
  ·simp
  ·omega
 have hb : ∀ i, 0 ≤ zs.getD i 0 ∧ zs.getD i 0 ≤ 255 := bytes_bd h
 refine ⟨(zs.take len).map fun z => UInt8.ofNat z.toNat, ?_⟩
 have hlen : ((zs.take len).map fun z => UInt8.ofNat z.toNat).length = len := by simp; omega
 show PRep S w (.slc 1 ((zs.take len).map fun z => UInt8.ofNat z.toNat).length (row cB _)) _
 rw [hlen]
 refine prep_congr hp (fun i hi => ?_)
 have hb2 := hb i
 rw [row_lt (by rw [hlen]; exact hi), List.getElem_map, List.getElem_take]
 have e1 : zs.getD i 0 = zs[i]'(by omega) := by
  rw [List.getD_eq_getElem?_getD]; simp [show i < zs.length by omega]
 rw [← e1]
 show _ = [PV.int .u8 ((UInt8.ofNat (zs.getD i 0).toNat).toNat : Int)]
 congr 2
 rw [UInt8.toNat_ofNat']
 omega
end Go.Am
