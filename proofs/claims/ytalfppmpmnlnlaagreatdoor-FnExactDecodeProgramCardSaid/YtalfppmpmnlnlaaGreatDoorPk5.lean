/- Texts of the proof, joined and shortened. -/
import Derived.Test.YtalfppmpmnlnlaaGreatDoorPk4
set_option linter.unusedVariables false
set_option linter.unusedSimpArgs false
set_option maxRecDepth 100000
namespace Go.Am
open Go Go.RowKit Go.Proofs
def rv (a0 : aL) (a1 : aL) : Option (Bool) :=
 (if a0.a8 = a1.a8 then
 (if a0.fA = a1.fA then
 (if a0.fB = a1.fB then
 (if a0.fS = a1.fS then
 (if a0.fT = a1.fT then
 some true
 else
 some false)
 else
 some false)
 else
 some false)
 else
 some false)
 else
 some false)
theorem H8 {a0 : aL} {a1 : aL} {r : Bool} (h : rv a0 a1 = some r) : ACall Tryz.prog 162 [.agg a0.lit, .agg a1.lit] [] (fun res h => res = .bool r ∧ h = []) := by
 refine dx Tryz.func162 ?_
 unfold rv at h
 refine .d (.d (.d ⟨rfl, ⟨rfl, _, rfl, ⟨rfl, ⟨rfl, _, rfl, (sN h (fun eD h => ?_) (fun eD h => ?_))⟩⟩⟩⟩))
 exact agP
 refine .d (.d ⟨rfl, ⟨rfl, _, rfl, ⟨rfl, ⟨rfl, _, rfl, (sN h (fun jo h => ?_) (fun jo h => ?_))⟩⟩⟩⟩)
 exact agP
 refine .d (.d ⟨rfl, ⟨rfl, _, rfl, ⟨rfl, ⟨rfl, _, rfl, (sN h (fun lE h => ?_) (fun lE h => ?_))⟩⟩⟩⟩)
 exact agP
 refine .d (.d ⟨rfl, ⟨rfl, _, rfl, ⟨rfl, ⟨rfl, _, rfl, (nq h (fun oN h => ?_) (fun oN h => ?_))⟩⟩⟩⟩)
 exact agP
 refine .d (.d ⟨rfl, ⟨rfl, _, rfl, ⟨rfl, ⟨rfl, _, rfl, (nq h (fun lY h => ?_) (fun lY h => ?_))⟩⟩⟩⟩)
 exact agP
 exact agP
def nT (a0 : TParam) (a1 : TParam) : Option (Bool) :=
 (if a0.az = a1.az then
 (if a0.Gi = a1.Gi then
 some true
 else
 some false)
 else
 some false)
theorem Ep {a0 : TParam} {a1 : TParam} {r : Bool} (h : nT a0 a1 = some r) : ACall Tryz.prog 161 [.agg a0.lit, .agg a1.lit] [] (fun res h => res = .bool r ∧ h = []) := by
 refine dx Tryz.func161 ?_
 unfold nT at h
 refine .d (.d (.d ⟨rfl, ⟨rfl, _, rfl, ⟨rfl, ⟨rfl, _, rfl, (nq h (fun eD h => ?_) (fun eD h => ?_))⟩⟩⟩⟩))
 exact agP
 refine .d (.d ⟨rfl, ⟨rfl, _, rfl, ⟨rfl, ⟨rfl, _, rfl, (nq h (fun jo h => ?_) (fun jo h => ?_))⟩⟩⟩⟩)
 exact agP
 exact agP
def kj (a0 : List aL) (a1 : List aL) (y5 : Int) : Option ((Unit) ⊕ Bool) :=
 (if y5 < (a0.length : Int) then
 idx a0 y5 >>= fun x9 =>
 idx a1 y5 >>= fun qq =>
 rv x9 qq >>= fun lZ =>
 (if lZ = true then
 kj a0 a1 (ai (y5 + 1))
 else
 some (.inr false))
 else
 some (.inl ()))
partial_fixpoint
def pA (a0 : List aL) (a1 : List aL) : Option (Bool) :=
 (if (a0.length : Int) = (a1.length : Int) then
 ((
 kj a0 a1 0
 : Option ((Unit) ⊕ Bool)) >>= fun o2 => match o2 with
 | .inr r => some r
 | .inl _ =>
 some true
 )
 else
 some false)
theorem Gj {a0 : List aL} {a1 : List aL} {r : Bool} (h : pA a0 a1 = some r) : ACall Tryz.prog 118 [sl 5 aL.cells a0, sl 5 aL.cells a1] [] (fun res h => res = .bool r ∧ h = []) := by
 refine dx Tryz.func118 ?_
 unfold pA at h
 refine .d (.d (.d (sN h (fun eD h => ?_) (fun eD h => ?_))))
 exact agP
 obtain ⟨o2, mD, ft⟩ := bd h
 replace h := mD
 refine .cut (fun σ η => .inl () = o2 ∧ σ = [] ∧ η = []) ?_ ?_
 refine .d ?_
 refine le (kj.partial_correctness a0 a1 (motive := fun y5 sd => o2 = sd → aB _ _ [(0, sl 5 aL.cells a0), (1, sl 5 aL.cells a1), (5, .int .i64 y5)] []) ?_ 0 o2 h rfl) (tk [] ⟨.l, .l, .i, ⟨⟩⟩ ⟨⟩)
 intro F7 zo y5 sd h se
 subst se
 refine aB.round (.d (.d (sD h (fun mI h => ?_) (fun mI h => ?_))))
 refine .d (.d (.float [(0, true), (1, true), (2, true), (3, true), (4, true), (5, true), (6, true), (7, true), (8, false), (9, true)] ahA ?_))
 refine bk h fun x9 iN h => ⟨aK iN, _, (aD iN).trans (aL.aA x9), (bk h fun qq iB h => ⟨aK iB, _, (aD iB).trans (aL.aA qq), (bk h fun lZ yl h => (bJ (H8 yl) (hB h (fun eE h => ?_) (fun eE h => ?_))))⟩)⟩
 refine .d ?_
 exact agd
 exact aha
 exact agQ
 exact agb
def iD (a0 : List TParam) (a1 : List TParam) (y5 : Int) : Option ((Unit) ⊕ Bool) :=
 (if y5 < (a0.length : Int) then
 idx a0 y5 >>= fun x9 =>
 idx a1 y5 >>= fun qq =>
 nT x9 qq >>= fun lZ =>
 (if lZ = true then
 iD a0 a1 (ai (y5 + 1))
 else
 some (.inr false))
 else
 some (.inl ()))
partial_fixpoint
def lx (a0 : List TParam) (a1 : List TParam) : Option (Bool) :=
 (if (a0.length : Int) = (a1.length : Int) then
 ((
 iD a0 a1 0
 : Option ((Unit) ⊕ Bool)) >>= fun o2 => match o2 with
 | .inr r => some r
 | .inl _ =>
 some true
 )
 else
 some false)
theorem vE {a0 : List TParam} {a1 : List TParam} {r : Bool} (h : lx a0 a1 = some r) : ACall Tryz.prog 116 [sl 2 TParam.cells a0, sl 2 TParam.cells a1] [] (fun res h => res = .bool r ∧ h = []) := by
 refine dx Tryz.func116 ?_
 unfold lx at h
 refine .d (.d (.d (sN h (fun eD h => ?_) (fun eD h => ?_))))
 exact agP
 obtain ⟨o2, mD, ft⟩ := bd h
 replace h := mD
 refine .cut (fun σ η => .inl () = o2 ∧ σ = [] ∧ η = []) ?_ ?_
 refine .d ?_
 refine le (iD.partial_correctness a0 a1 (motive := fun y5 sd => o2 = sd → aB _ _ [(0, sl 2 TParam.cells a0), (1, sl 2 TParam.cells a1), (5, .int .i64 y5)] []) ?_ 0 o2 h rfl) (tk [] ⟨.l, .l, .i, ⟨⟩⟩ ⟨⟩)
 intro F7 zo y5 sd h se
 subst se
 refine aB.round (.d (.d (sD h (fun mI h => ?_) (fun mI h => ?_))))
 refine .d (.d (.float [(0, true), (1, true), (2, true), (3, true), (4, true), (5, true), (6, true), (7, true), (8, false), (9, true)] ahA ?_))
 refine bk h fun x9 iN h => ⟨aK iN, _, (aD iN).trans (TParam.aA x9), (bk h fun qq iB h => ⟨aK iB, _, (aD iB).trans (TParam.aA qq), (bk h fun lZ yl h => (bJ (Ep yl) (hB h (fun eE h => ?_) (fun eE h => ?_))))⟩)⟩
 refine .d ?_
 exact agd
 exact aha
 exact agQ
 exact agb
def hC (a0 : List aU) (a1 : List aU) (y5 : Int) : Option ((Unit) ⊕ Bool) :=
 (if y5 < (a0.length : Int) then
 idx a0 y5 >>= fun x9 =>
 idx a1 y5 >>= fun qq =>
 (if x9 = qq then
 hC a0 a1 (ai (y5 + 1))
 else
 some (.inr false))
 else
 some (.inl ()))
partial_fixpoint
def lL (a0 : List aU) (a1 : List aU) : Option (Bool) :=
 (if (a0.length : Int) = (a1.length : Int) then
 ((
 hC a0 a1 0
 : Option ((Unit) ⊕ Bool)) >>= fun o2 => match o2 with
 | .inr r => some r
 | .inl _ =>
 some true
 )
 else
 some false)
theorem A1 {a0 : List aU} {a1 : List aU} {r : Bool} (h : lL a0 a1 = some r) : ACall Tryz.prog 117 [sl 1 cS a0, sl 1 cS a1] [] (fun res h => res = .bool r ∧ h = []) := by
 refine dx Tryz.func117 ?_
 unfold lL at h
 refine .d (.d (.d (sN h (fun eD h => ?_) (fun eD h => ?_))))
 exact agP
 obtain ⟨o2, mD, ft⟩ := bd h
 replace h := mD
 refine .cut (fun σ η => .inl () = o2 ∧ σ = [] ∧ η = []) ?_ ?_
 refine .d ?_
 refine le (hC.partial_correctness a0 a1 (motive := fun y5 HV => o2 = HV → aB _ _ [(0, sl 1 cS a0), (1, sl 1 cS a1), (5, .int .i64 y5)] []) ?_ 0 o2 h rfl) (tk [] ⟨.l, .l, .i, ⟨⟩⟩ ⟨⟩)
 intro F7 zo y5 HV h My
 subst My
 refine aB.round (.d (.d (sD h (fun mI h => ?_) (fun mI h => ?_))))
 refine .d (.d (bk h fun x9 iN h => ⟨aK iN, _, (aD iN).trans rfl, (bk h fun qq iB h => ⟨aK iB, _, (aD iB).trans rfl, (nq h (fun kM h => ?_) (fun kM h => ?_))⟩)⟩))
 refine .d ?_
 exact agd
 exact aha
 exact agQ
 exact agb
def pB (a0 : aC) (a1 : aC) : Option (Bool) :=
 (if a0.az = a1.az then
 lx a0.av a1.av >>= fun v2 =>
 (if v2 = true then
 lx a0.aM a1.aM >>= fun v5 =>
 (if v5 = true then
 lL a0.ay a1.ay >>= fun v8 =>
 (if v8 = true then
 (if a0.eN = a1.eN then
 pA a0.ax a1.ax >>= fun v12 =>
 (if v12 = true then
 some true
 else
 some false)
 else
 some false)
 else
 some false)
 else
 some false)
 else
 some false)
 else
 some false)
theorem Gk {a0 : aC} {a1 : aC} {r : Bool} (h : pB a0 a1 = some r) : ACall Tryz.prog 63 [.agg a0.lit, .agg a1.lit] [] (fun res h => res = .bool r ∧ h = []) := by
 refine dx Tryz.func63 ?_
 unfold pB at h
 refine .d (.d (.d ⟨rfl, ⟨rfl, _, rfl, ⟨rfl, ⟨rfl, _, rfl, (nq h (fun eD h => ?_) (fun eD h => ?_))⟩⟩⟩⟩))
 exact agP
 refine .d (.d ⟨rfl, ⟨rfl, _, rfl, ⟨rfl, ⟨rfl, _, rfl, (bk h fun v2 qs h => (bJ (vE qs) (hB h (fun oN h => ?_) (fun oN h => ?_))))⟩⟩⟩⟩)
 exact agP
 refine .d (.d ⟨rfl, ⟨rfl, _, rfl, ⟨rfl, ⟨rfl, _, rfl, (bk h fun v5 Ac h => (bJ (vE Ac) (hB h (fun nr h => ?_) (fun nr h => ?_))))⟩⟩⟩⟩)
 exact agP
 refine .d (.d ⟨rfl, ⟨rfl, _, rfl, ⟨rfl, ⟨rfl, _, rfl, (bk h fun v8 KW h => (bJ (A1 KW) (hB h (fun iy h => ?_) (fun iy h => ?_))))⟩⟩⟩⟩)
 exact agP
 refine .d (.d ⟨rfl, ⟨rfl, _, rfl, ⟨rfl, ⟨rfl, _, rfl, (nq h (fun jt h => ?_) (fun jt h => ?_))⟩⟩⟩⟩)
 exact agP
 refine .d (.d ⟨rfl, ⟨rfl, _, rfl, ⟨rfl, ⟨rfl, _, rfl, (bk h fun v12 tz h => (bJ (Gj tz) (hB h (fun jd h => ?_) (fun jd h => ?_))))⟩⟩⟩⟩)
 exact agP
 exact agP
def ju (a0 : List aC) (a1 : List aC) (y5 : Int) : Option ((Unit) ⊕ Bool) :=
 (if y5 < (a0.length : Int) then
 idx a0 y5 >>= fun x9 =>
 idx a1 y5 >>= fun qq =>
 pB x9 qq >>= fun lZ =>
 (if lZ = true then
 ju a0 a1 (ai (y5 + 1))
 else
 some (.inr false))
 else
 some (.inl ()))
partial_fixpoint
def nU (a0 : List aC) (a1 : List aC) : Option (Bool) :=
 (if (a0.length : Int) = (a1.length : Int) then
 ((
 ju a0 a1 0
 : Option ((Unit) ⊕ Bool)) >>= fun o2 => match o2 with
 | .inr r => some r
 | .inl _ =>
 some true
 )
 else
 some false)
theorem Er {a0 : List aC} {a1 : List aC} {r : Bool} (h : nU a0 a1 = some r) : ACall Tryz.prog 29 [sl 6 aC.cells a0, sl 6 aC.cells a1] [] (fun res h => res = .bool r ∧ h = []) := by
 refine dx Tryz.func29 ?_
 unfold nU at h
 refine .d (.d (.d (sN h (fun eD h => ?_) (fun eD h => ?_))))
 exact agP
 obtain ⟨o2, mD, ft⟩ := bd h
 replace h := mD
 refine .cut (fun σ η => .inl () = o2 ∧ σ = [] ∧ η = []) ?_ ?_
 refine .d ?_
 refine le (ju.partial_correctness a0 a1 (motive := fun y5 sd => o2 = sd → aB _ _ [(0, sl 6 aC.cells a0), (1, sl 6 aC.cells a1), (5, .int .i64 y5)] []) ?_ 0 o2 h rfl) (tk [] ⟨.l, .l, .i, ⟨⟩⟩ ⟨⟩)
 intro F7 zo y5 sd h se
 subst se
 refine aB.round (.d (.d (sD h (fun mI h => ?_) (fun mI h => ?_))))
 refine .d (.d (.float [(0, true), (1, true), (2, true), (3, true), (4, true), (5, true), (6, true), (7, true), (8, false), (9, true)] ahA ?_))
 refine bk h fun x9 iN h => ⟨aK iN, _, (aD iN).trans (aC.aA x9), (bk h fun qq iB h => ⟨aK iB, _, (aD iB).trans (aC.aA qq), (bk h fun lZ yl h => (bJ (Gk yl) (hB h (fun eE h => ?_) (fun eE h => ?_))))⟩)⟩
 refine .d ?_
 exact agd
 exact aha
 exact agQ
 exact agb
def rz (a0 : bH) (a1 : bH) : Option (Bool) :=
 (if a0.df = a1.df then
 (if a0.aP = a1.aP then
 (if a0.aQ = a1.aQ then
 some true
 else
 some false)
 else
 some false)
 else
 some false)
theorem H9 {a0 : bH} {a1 : bH} {r : Bool} (h : rz a0 a1 = some r) : ACall Tryz.prog 214 [.agg a0.lit, .agg a1.lit] [] (fun res h => res = .bool r ∧ h = []) := by
 refine dx Tryz.func214 ?_
 unfold rz at h
 refine .d (.d (.d ⟨rfl, ⟨rfl, _, rfl, ⟨rfl, ⟨rfl, _, rfl, (nq h (fun eD h => ?_) (fun eD h => ?_))⟩⟩⟩⟩))
 exact agP
 refine .d (.d ⟨rfl, ⟨rfl, _, rfl, ⟨rfl, ⟨rfl, _, rfl, (sN h (fun jo h => ?_) (fun jo h => ?_))⟩⟩⟩⟩)
 exact agP
 refine .d (.d ⟨rfl, ⟨rfl, _, rfl, ⟨rfl, ⟨rfl, _, rfl, (nq h (fun lE h => ?_) (fun lE h => ?_))⟩⟩⟩⟩)
 exact agP
 exact agP
mutual
def kN (a0 : ah) (a1 : ah) : Option (Bool) :=
 (if a0.aF = a1.aF then
 (if a0.aP = a1.aP then
 (if a0.aQ = a1.aQ then
 (if a0.aO = a1.aO then
 sf a0.af a1.af >>= fun v5 =>
 (if v5 = true then
 some true
 else
 some false)
 else
 some false)
 else
 some false)
 else
 some false)
 else
 some false)
partial_fixpoint
def sf (a0 : List ae) (a1 : List ae) : Option (Bool) :=
 (if (a0.length : Int) = (a1.length : Int) then
 ((
 gE a0 a1 0
 : Option ((Unit) ⊕ Bool)) >>= fun o9 => match o9 with
 | .inr r => some r
 | .inl _ =>
 some true
 )
 else
 some false)
partial_fixpoint
def qt (a0 : ae) (a1 : ae) : Option (Bool) :=
 rz a0.bm a1.bm >>= fun Gl =>
 (if Gl = true then
 kN a0.aY a1.aY >>= fun oz =>
 (if oz = true then
 some true
 else
 some false)
 else
 some false)
partial_fixpoint
def gE (a0 : List ae) (a1 : List ae) (bB : Int) : Option ((Unit) ⊕ Bool) :=
 (if bB < (a0.length : Int) then
 idx a0 bB >>= fun Mz =>
 idx a1 bB >>= fun MA =>
 qt Mz MA >>= fun kK =>
 (if kK = true then
 gE a0 a1 (ai (bB + 1))
 else
 some (.inr false))
 else
 some (.inl ()))
partial_fixpoint
end
def MB (a0 : ah) (a1 : ah) (r : Bool) : Prop := ACall Tryz.prog 189 [.agg a0.lit, .agg a1.lit] [] (fun res h => res = .bool r ∧ h = [])
def MC (a0 : List ae) (a1 : List ae) (r : Bool) : Prop := ACall Tryz.prog 198 [sl 8 ae.cells a0, sl 8 ae.cells a1] [] (fun res h => res = .bool r ∧ h = [])
def Es (a0 : ae) (a1 : ae) (r : Bool) : Prop := ACall Tryz.prog 205 [.agg a0.lit, .agg a1.lit] [] (fun res h => res = .bool r ∧ h = [])
inductive eR : (List ae) → (List ae) → Int → ((Unit) ⊕ Bool) → Prop
 | mk (MD : ae → ae → Option (Bool)) (XM : ∀ a0 a1 r, MD a0 a1 = some r → Es a0 a1 r) (gg : (List ae) → (List ae) → Int → Option ((Unit) ⊕ Bool)) (vZ : ∀ a0 a1 bB o, gg a0 a1 bB = some o → eR a0 a1 bB o) (a0 : List ae) (a1 : List ae) (bB : Int) (o : (Unit) ⊕ Bool) (h : (
 (if bB < (a0.length : Int) then
 idx a0 bB >>= fun Mz =>
 idx a1 bB >>= fun MA =>
 MD Mz MA >>= fun kK =>
 (if kK = true then
 gg a0 a1 (ai (bB + 1))
 else
 some (.inr false))
 else
 some (.inl ()))
 ) = some o) : eR a0 a1 bB o
theorem vt {motive : (List ae) → (List ae) → Int → ((Unit) ⊕ Bool) → Prop} (step : ∀ (MD : ae → ae → Option (Bool)) (XM : ∀ a0 a1 r, MD a0 a1 = some r → Es a0 a1 r) (gg : (List ae) → (List ae) → Int → Option ((Unit) ⊕ Bool)) (vZ : ∀ a0 a1 bB o, gg a0 a1 bB = some o → eR a0 a1 bB o) (a0 : List ae) (a1 : List ae) (bB : Int) (o : (Unit) ⊕ Bool) (h : (
 (if bB < (a0.length : Int) then
 idx a0 bB >>= fun Mz =>
 idx a1 bB >>= fun MA =>
 MD Mz MA >>= fun kK =>
 (if kK = true then
 gg a0 a1 (ai (bB + 1))
 else
 some (.inr false))
 else
 some (.inl ()))
 ) = some o) (ih : ∀ a0 a1 bB o, gg a0 a1 bB = some o → motive a0 a1 bB o), motive a0 a1 bB o) : ∀ a0 a1 bB o, eR a0 a1 bB o → motive a0 a1 bB o :=
 fun a0 a1 bB o h => eR.rec (motive := fun a0 a1 bB o _ => motive a0 a1 bB o) step h
theorem A2 : (∀ a0 a1 r, kN a0 a1 = some r → MB a0 a1 r) ∧ (∀ a0 a1 r, sf a0 a1 = some r → MC a0 a1 r) ∧ (∀ a0 a1 bB o, gE a0 a1 bB = some o → eR a0 a1 bB o) ∧ (∀ a0 a1 r, qt a0 a1 = some r → Es a0 a1 r) := by
 refine kN.mutual_partial_correctness MB MC eR Es ?_ ?_ ?_ ?_
 intro _ Tz a0 a1 r h
 refine dx Tryz.func189 ?_
 refine .d (.d (.d ⟨rfl, ⟨rfl, _, rfl, ⟨rfl, ⟨rfl, _, rfl, (sN h (fun eD h => ?_) (fun eD h => ?_))⟩⟩⟩⟩))
 exact agP
 refine .d (.d ⟨rfl, ⟨rfl, _, rfl, ⟨rfl, ⟨rfl, _, rfl, (sN h (fun jo h => ?_) (fun jo h => ?_))⟩⟩⟩⟩)
 exact agP
 refine .d (.d ⟨rfl, ⟨rfl, _, rfl, ⟨rfl, ⟨rfl, _, rfl, (nq h (fun lE h => ?_) (fun lE h => ?_))⟩⟩⟩⟩)
 exact agP
 refine .d (.d ⟨rfl, ⟨rfl, _, rfl, ⟨rfl, ⟨rfl, _, rfl, (sN h (fun oN h => ?_) (fun oN h => ?_))⟩⟩⟩⟩)
 exact agP
 refine .d (.d ⟨rfl, ⟨rfl, _, rfl, ⟨rfl, ⟨rfl, _, rfl, (bk h fun v5 Ac h => (bJ (Tz _ _ _ Ac) (hB h (fun nr h => ?_) (fun nr h => ?_))))⟩⟩⟩⟩)
 exact agP
 exact agP
 intro _ aaR a0 a1 r h
 refine dx Tryz.func198 ?_
 refine .d (.d (.d (sN h (fun mI h => ?_) (fun mI h => ?_))))
 exact agP
 obtain ⟨o9, TA, Qp⟩ := bd h
 replace h := TA
 refine .cut (fun σ η => .inl () = o9 ∧ σ = [] ∧ η = []) ?_ ?_
 refine .d ?_
 have aaS := aaR _ _ _ _ h
 refine le (vt (motive := fun p28 p29 bB XN => a0 = p28 → a1 = p29 → o9 = XN → aB _ _ [(0, sl 8 ae.cells a0), (1, sl 8 ae.cells a1), (5, .int .i64 bB)] []) ?_ a0 a1 0 o9 aaS rfl rfl rfl) (tk [] ⟨.l, .l, .i, ⟨⟩⟩ ⟨⟩)
 intro _ aaT _ _ p28 p29 bB XN h sg  TB TC TD
 subst TB
 subst TC
 subst TD
 refine aB.round (.d (.d (sD h (fun lG h => ?_) (fun lG h => ?_))))
 refine .d (.d (.float [(0, true), (1, true), (2, true), (3, true), (4, true), (5, true), (6, true), (7, true), (8, false), (9, true)] ahA ?_))
 refine bk h fun Mz wa h => ⟨aK wa, _, (aD wa).trans (ae.aA Mz), (bk h fun MA Et h => ⟨aK Et, _, (aD Et).trans (ae.aA MA), (bk h fun kK tO h => (bJ (aaT _ _ _ tO) (hB h (fun ny h => ?_) (fun ny h => ?_))))⟩)⟩
 refine .d ?_
 obtain rfl := si h
 replace h := Qp
 exact eB h
 exact lg (sg _ _ _ _ h rfl rfl rfl) (tk [] ⟨.l, .l, .i, ⟨⟩⟩ ⟨⟩)
 exact agQ
 rintro _ _ ⟨rfl, rfl, rfl⟩
 replace h := Qp
 exact agP
 intro F0 F1 CS CT a0 a1 bB o h
 exact .mk F1 CT F0 CS a0 a1 bB o h
 intro _ TE a0 a1 r h
 refine dx Tryz.func205 ?_
 refine .d (.d (.d ⟨rfl, ⟨rfl, _, rfl, ⟨rfl, ⟨rfl, _, rfl, (bk h fun Gl TF h => (bJ (H9 TF) (hB h (fun A3 h => ?_) (fun A3 h => ?_))))⟩⟩⟩⟩))
 exact agP
 refine .d (.d ⟨rfl, ⟨rfl, _, rfl, ⟨rfl, ⟨rfl, _, rfl, (bk h fun oz A4 h => (bJ (TE _ _ _ A4) (hB h (fun wc h => ?_) (fun wc h => ?_))))⟩⟩⟩⟩)
 exact agP
 exact agP
theorem Eu {a0 : ah} {a1 : ah} {r : Bool} (h : kN a0 a1 = some r) : ACall Tryz.prog 189 [.agg a0.lit, .agg a1.lit] [] (fun res h => res = .bool r ∧ h = []) := A2.1 a0 a1 r h
def nV (a0 : au) (a1 : au) : Option (Bool) :=
 (if a0.az = a1.az then
 (if a0.jv = a1.jv then
 (if a0.ed = a1.ed then
 kN a0.bc a1.bc >>= fun v4 =>
 (if v4 = true then
 some true
 else
 some false)
 else
 some false)
 else
 some false)
 else
 some false)
theorem Ev {a0 : au} {a1 : au} {r : Bool} (h : nV a0 a1 = some r) : ACall Tryz.prog 163 [.agg a0.lit, .agg a1.lit] [] (fun res h => res = .bool r ∧ h = []) := by
 refine dx Tryz.func163 ?_
 unfold nV at h
 refine .d (.d (.d ⟨rfl, ⟨rfl, _, rfl, ⟨rfl, ⟨rfl, _, rfl, (nq h (fun eD h => ?_) (fun eD h => ?_))⟩⟩⟩⟩))
 exact agP
 refine .d (.d ⟨rfl, ⟨rfl, _, rfl, ⟨rfl, ⟨rfl, _, rfl, (nq h (fun jo h => ?_) (fun jo h => ?_))⟩⟩⟩⟩)
 exact agP
 refine .d (.d ⟨rfl, ⟨rfl, _, rfl, ⟨rfl, ⟨rfl, _, rfl, (nq h (fun lE h => ?_) (fun lE h => ?_))⟩⟩⟩⟩)
 exact agP
 refine .d (.d ⟨rfl, ⟨rfl, _, rfl, ⟨rfl, ⟨rfl, _, rfl, (bk h fun v4 CU h => (bJ (Eu CU) (hB h (fun mJ h => ?_) (fun mJ h => ?_))))⟩⟩⟩⟩)
 exact agP
 exact agP
def mK (a0 : aj) (a1 : aj) : Option (Bool) :=
 (if a0.az = a1.az then
 (if a0.jv = a1.jv then
 (if a0.nB = a1.nB then
 (if a0.ed = a1.ed then
 (if a0.mL = a1.mL then
 some true
 else
 some false)
 else
 some false)
 else
 some false)
 else
 some false)
 else
 some false)
theorem CV {a0 : aj} {a1 : aj} {r : Bool} (h : mK a0 a1 = some r) : ACall Tryz.prog 164 [.agg a0.lit, .agg a1.lit] [] (fun res h => res = .bool r ∧ h = []) := by
 refine dx Tryz.func164 ?_
 unfold mK at h
 refine .d (.d (.d ⟨rfl, ⟨rfl, _, rfl, ⟨rfl, ⟨rfl, _, rfl, (nq h (fun eD h => ?_) (fun eD h => ?_))⟩⟩⟩⟩))
 exact agP
 refine .d (.d ⟨rfl, ⟨rfl, _, rfl, ⟨rfl, ⟨rfl, _, rfl, (nq h (fun jo h => ?_) (fun jo h => ?_))⟩⟩⟩⟩)
 exact agP
 refine .d (.d ⟨rfl, ⟨rfl, _, rfl, ⟨rfl, ⟨rfl, _, rfl, (nq h (fun lE h => ?_) (fun lE h => ?_))⟩⟩⟩⟩)
 exact agP
 refine .d (.d ⟨rfl, ⟨rfl, _, rfl, ⟨rfl, ⟨rfl, _, rfl, (nq h (fun oN h => ?_) (fun oN h => ?_))⟩⟩⟩⟩)
 exact agP
 refine .d (.d ⟨rfl, ⟨rfl, _, rfl, ⟨rfl, ⟨rfl, _, rfl, (nq h (fun lY h => ?_) (fun lY h => ?_))⟩⟩⟩⟩)
 exact agP
 exact agP
def iE (a0 : List au) (a1 : List au) (y5 : Int) : Option ((Unit) ⊕ Bool) :=
 (if y5 < (a0.length : Int) then
 idx a0 y5 >>= fun x9 =>
 idx a1 y5 >>= fun qq =>
 nV x9 qq >>= fun lZ =>
 (if lZ = true then
 iE a0 a1 (ai (y5 + 1))
 else
 some (.inr false))
 else
 some (.inl ()))
partial_fixpoint
def mM (a0 : List au) (a1 : List au) : Option (Bool) :=
 (if (a0.length : Int) = (a1.length : Int) then
 ((
 iE a0 a1 0
 : Option ((Unit) ⊕ Bool)) >>= fun o2 => match o2 with
 | .inr r => some r
 | .inl _ =>
 some true
 )
 else
 some false)
theorem CW {a0 : List au} {a1 : List au} {r : Bool} (h : mM a0 a1 = some r) : ACall Tryz.prog 119 [sl 8 au.cells a0, sl 8 au.cells a1] [] (fun res h => res = .bool r ∧ h = []) := by
 refine dx Tryz.func119 ?_
 unfold mM at h
 refine .d (.d (.d (sN h (fun eD h => ?_) (fun eD h => ?_))))
 exact agP
 obtain ⟨o2, mD, ft⟩ := bd h
 replace h := mD
 refine .cut (fun σ η => .inl () = o2 ∧ σ = [] ∧ η = []) ?_ ?_
 refine .d ?_
 refine le (iE.partial_correctness a0 a1 (motive := fun y5 sd => o2 = sd → aB _ _ [(0, sl 8 au.cells a0), (1, sl 8 au.cells a1), (5, .int .i64 y5)] []) ?_ 0 o2 h rfl) (tk [] ⟨.l, .l, .i, ⟨⟩⟩ ⟨⟩)
 intro F7 zo y5 sd h se
 subst se
 refine aB.round (.d (.d (sD h (fun mI h => ?_) (fun mI h => ?_))))
 refine .d (.d (.float [(0, true), (1, true), (2, true), (3, true), (4, true), (5, true), (6, true), (7, true), (8, false), (9, true)] ahA ?_))
 refine bk h fun x9 iN h => ⟨aK iN, _, (aD iN).trans (au.aA x9), (bk h fun qq iB h => ⟨aK iB, _, (aD iB).trans (au.aA qq), (bk h fun lZ yl h => (bJ (Ev yl) (hB h (fun eE h => ?_) (fun eE h => ?_))))⟩)⟩
 refine .d ?_
 exact agd
 exact aha
 exact agQ
 exact agb
def hI (a0 : List aj) (a1 : List aj) (y5 : Int) : Option ((Unit) ⊕ Bool) :=
 (if y5 < (a0.length : Int) then
 idx a0 y5 >>= fun x9 =>
 idx a1 y5 >>= fun qq =>
 mK x9 qq >>= fun lZ =>
 (if lZ = true then
 hI a0 a1 (ai (y5 + 1))
 else
 some (.inr false))
 else
 some (.inl ()))
partial_fixpoint
def lM (a0 : List aj) (a1 : List aj) : Option (Bool) :=
 (if (a0.length : Int) = (a1.length : Int) then
 ((
 hI a0 a1 0
 : Option ((Unit) ⊕ Bool)) >>= fun o2 => match o2 with
 | .inr r => some r
 | .inl _ =>
 some true
 )
 else
 some false)
theorem A5 {a0 : List aj} {a1 : List aj} {r : Bool} (h : lM a0 a1 = some r) : ACall Tryz.prog 120 [sl 5 aj.cells a0, sl 5 aj.cells a1] [] (fun res h => res = .bool r ∧ h = []) := by
 refine dx Tryz.func120 ?_
 unfold lM at h
 refine .d (.d (.d (sN h (fun eD h => ?_) (fun eD h => ?_))))
 exact agP
 obtain ⟨o2, mD, ft⟩ := bd h
 replace h := mD
 refine .cut (fun σ η => .inl () = o2 ∧ σ = [] ∧ η = []) ?_ ?_
 refine .d ?_
 refine le (hI.partial_correctness a0 a1 (motive := fun y5 sd => o2 = sd → aB _ _ [(0, sl 5 aj.cells a0), (1, sl 5 aj.cells a1), (5, .int .i64 y5)] []) ?_ 0 o2 h rfl) (tk [] ⟨.l, .l, .i, ⟨⟩⟩ ⟨⟩)
 intro F7 zo y5 sd h se
 subst se
 refine aB.round (.d (.d (sD h (fun mI h => ?_) (fun mI h => ?_))))
 refine .d (.d (.float [(0, true), (1, true), (2, true), (3, true), (4, true), (5, true), (6, true), (7, true), (8, false), (9, true)] ahA ?_))
 refine bk h fun x9 iN h => ⟨aK iN, _, (aD iN).trans (aj.aA x9), (bk h fun qq iB h => ⟨aK iB, _, (aD iB).trans (aj.aA qq), (bk h fun lZ yl h => (bJ (CV yl) (hB h (fun eE h => ?_) (fun eE h => ?_))))⟩)⟩
 refine .d ?_
 exact agd
 exact aha
 exact agQ
 exact agb
def nW (a0 : aw) (a1 : aw) : Option (Bool) :=
 (if a0.az = a1.az then
 (if a0.dp = a1.dp then
 mM a0.aH a1.aH >>= fun v3 =>
 (if v3 = true then
 lM a0.aE a1.aE >>= fun v6 =>
 (if v6 = true then
 some true
 else
 some false)
 else
 some false)
 else
 some false)
 else
 some false)
theorem Ew {a0 : aw} {a1 : aw} {r : Bool} (h : nW a0 a1 = some r) : ACall Tryz.prog 64 [.agg a0.lit, .agg a1.lit] [] (fun res h => res = .bool r ∧ h = []) := by
 refine dx Tryz.func64 ?_
 unfold nW at h
 refine .d (.d (.d ⟨rfl, ⟨rfl, _, rfl, ⟨rfl, ⟨rfl, _, rfl, (nq h (fun eD h => ?_) (fun eD h => ?_))⟩⟩⟩⟩))
 exact agP
 refine .d (.d ⟨rfl, ⟨rfl, _, rfl, ⟨rfl, ⟨rfl, _, rfl, (nq h (fun jo h => ?_) (fun jo h => ?_))⟩⟩⟩⟩)
 exact agP
 refine .d (.d ⟨rfl, ⟨rfl, _, rfl, ⟨rfl, ⟨rfl, _, rfl, (bk h fun v3 A6 h => (bJ (CW A6) (hB h (fun lY h => ?_) (fun lY h => ?_))))⟩⟩⟩⟩)
 exact agP
 refine .d (.d ⟨rfl, ⟨rfl, _, rfl, ⟨rfl, ⟨rfl, _, rfl, (bk h fun v6 Qq h => (bJ (A5 Qq) (hB h (fun mI h => ?_) (fun mI h => ?_))))⟩⟩⟩⟩)
 exact agP
 exact agP
def iF (a0 : List aw) (a1 : List aw) (y5 : Int) : Option ((Unit) ⊕ Bool) :=
 (if y5 < (a0.length : Int) then
 idx a0 y5 >>= fun x9 =>
 idx a1 y5 >>= fun qq =>
 nW x9 qq >>= fun lZ =>
 (if lZ = true then
 iF a0 a1 (ai (y5 + 1))
 else
 some (.inr false))
 else
 some (.inl ()))
partial_fixpoint
def mN (a0 : List aw) (a1 : List aw) : Option (Bool) :=
 (if (a0.length : Int) = (a1.length : Int) then
 ((
 iF a0 a1 0
 : Option ((Unit) ⊕ Bool)) >>= fun o2 => match o2 with
 | .inr r => some r
 | .inl _ =>
 some true
 )
 else
 some false)
theorem CX {a0 : List aw} {a1 : List aw} {r : Bool} (h : mN a0 a1 = some r) : ACall Tryz.prog 30 [sl 4 aw.cells a0, sl 4 aw.cells a1] [] (fun res h => res = .bool r ∧ h = []) := by
 refine dx Tryz.func30 ?_
 unfold mN at h
 refine .d (.d (.d (sN h (fun eD h => ?_) (fun eD h => ?_))))
 exact agP
 obtain ⟨o2, mD, ft⟩ := bd h
 replace h := mD
 refine .cut (fun σ η => .inl () = o2 ∧ σ = [] ∧ η = []) ?_ ?_
 refine .d ?_
 refine le (iF.partial_correctness a0 a1 (motive := fun y5 sd => o2 = sd → aB _ _ [(0, sl 4 aw.cells a0), (1, sl 4 aw.cells a1), (5, .int .i64 y5)] []) ?_ 0 o2 h rfl) (tk [] ⟨.l, .l, .i, ⟨⟩⟩ ⟨⟩)
 intro F7 zo y5 sd h se
 subst se
 refine aB.round (.d (.d (sD h (fun mI h => ?_) (fun mI h => ?_))))
 refine .d (.d (.float [(0, true), (1, true), (2, true), (3, true), (4, true), (5, true), (6, true), (7, true), (8, false), (9, true)] ahA ?_))
 refine bk h fun x9 iN h => ⟨aK iN, _, (aD iN).trans (aw.aA x9), (bk h fun qq iB h => ⟨aK iB, _, (aD iB).trans (aw.aA qq), (bk h fun lZ yl h => (bJ (Ew yl) (hB h (fun eE h => ?_) (fun eE h => ?_))))⟩)⟩
 refine .d ?_
 exact agd
 exact aha
 exact agQ
 exact agb
def je (a0 : aN) (a1 : aN) : Option (Bool) :=
 nU a0.a6 a1.a6 >>= fun v1 =>
 (if v1 = true then
 mN a0.aJ a1.aJ >>= fun v4 =>
 (if v4 = true then
 some true
 else
 some false)
 else
 some false)
theorem pC {a0 : aN} {a1 : aN} {r : Bool} (h : je a0 a1 = some r) : ACall Tryz.prog 10 [.agg a0.lit, .agg a1.lit] [] (fun res h => res = .bool r ∧ h = []) := by
 refine dx Tryz.func10 ?_
 unfold je at h
 refine .d (.d (.d ⟨rfl, ⟨rfl, _, rfl, ⟨rfl, ⟨rfl, _, rfl, (bk h fun v1 rq h => (bJ (Er rq) (hB h (fun lE h => ?_) (fun lE h => ?_))))⟩⟩⟩⟩))
 exact agP
 refine .d (.d ⟨rfl, ⟨rfl, _, rfl, ⟨rfl, ⟨rfl, _, rfl, (bk h fun v4 CU h => (bJ (CX CU) (hB h (fun mJ h => ?_) (fun mJ h => ?_))))⟩⟩⟩⟩)
 exact agP
 exact agP
def jw (a0 : List UInt8) (a1 : List UInt8) (y5 : Int) : Option ((Unit) ⊕ Bool) :=
 (if y5 < (a0.length : Int) then
 idx a0 y5 >>= fun c9 =>
 idx a1 y5 >>= fun ME =>
 (if (c9.toNat : Int) = (ME.toNat : Int) then
 jw a0 a1 (ai (y5 + 1))
 else
 some (.inr false))
 else
 some (.inl ()))
partial_fixpoint
def nX (a0 : List UInt8) (a1 : List UInt8) : Option (Bool) :=
 (if (a0.length : Int) = (a1.length : Int) then
 ((
 jw a0 a1 0
 : Option ((Unit) ⊕ Bool)) >>= fun o2 => match o2 with
 | .inr r => some r
 | .inl _ =>
 some true
 )
 else
 some false)
theorem Ex {a0 : List UInt8} {a1 : List UInt8} {r : Bool} (h : nX a0 a1 = some r) : ACall Tryz.prog 9 [sl 1 cB a0, sl 1 cB a1] [] (fun res h => res = .bool r ∧ h = []) := by
 refine dx Tryz.func9 ?_
 unfold nX at h
 refine .d (.d (.d (sN h (fun eD h => ?_) (fun eD h => ?_))))
 exact agP
 obtain ⟨o2, mD, ft⟩ := bd h
 replace h := mD
 refine .cut (fun σ η => .inl () = o2 ∧ σ = [] ∧ η = []) ?_ ?_
 refine .d ?_
 refine le (jw.partial_correctness a0 a1 (motive := fun y5 HV => o2 = HV → aB _ _ [(0, sl 1 cB a0), (1, sl 1 cB a1), (5, .int .i64 y5)] []) ?_ 0 o2 h rfl) (tk [] ⟨.l, .l, .i, ⟨⟩⟩ ⟨⟩)
 intro F7 zo y5 HV h My
 subst My
 refine aB.round (.d (.d (sD h (fun mI h => ?_) (fun mI h => ?_))))
 refine .d (.d (bk h fun c9 iN h => ⟨aK iN, _, (aD iN).trans rfl, (bk h fun ME iB h => ⟨aK iB, _, (aD iB).trans rfl, (sN h (fun kM h => ?_) (fun kM h => ?_))⟩)⟩))
 refine .d ?_
 exact agd
 exact aha
 exact agQ
 exact agb
set_option maxRecDepth 100000
def iG (y6 : Int) (s7 : aU) : Option (aU) :=
 (if y6 > 0 then
 nz ([UInt8.ofNat (IntKind.u8.wrap (ai (48 + (y6.tmod 10)))).toNat] : List UInt8) s7 >>= fun s11 =>
 iG (ai (y6.tdiv 10)) s11
 else
 some s7)
partial_fixpoint
def aR (a0 : Int) : Option (aU) :=
 (if a0 ≤ 0 then
 some [109, 48]
 else
 (
 iG a0 []
 : Option (aU)) >>= fun s2 =>
 nz [109] s2 >>= fun s15 =>
 some s15)
theorem bh {a0 : Int} {r : aU} (h : aR a0 = some r) : ACall Tryz.prog 65 [.int .i64 a0] [] (fun res h => res = .str r ∧ h = []) := by
 refine dx Tryz.func65 ?_
 unfold aR at h
 refine .d (.d (.d (sD h (fun eD h => ?_) (fun eD h => ?_))))
 exact .d (eS h)
 refine .d ?_
 obtain ⟨o3, TG, KX⟩ := bd h
 replace h := TG
 refine .cut (fun σ η => ∃ s2, s2 = o3 ∧ σ = [(3, .str s2)] ∧ η = []) ?_ ?_
 refine le (iG.partial_correctness  (motive := fun y6 s7 Qr => o3 = Qr → aB _ _ [(0, .int .i64 y6), (3, .str s7)] []) ?_ a0 [] o3 h rfl) (tk [] ⟨.i, .s, ⟨⟩⟩ ⟨⟩)
 intro F9 R7 y6 s7 Qr h TH
 subst TH
 refine aB.round (.d (.d (sD h (fun iy h => ?_) (fun iy h => ?_))))
 exact .d ⟨by decide, ⟨row cB ([UInt8.ofNat (IntKind.u8.wrap (ai (48 + (y6.tmod 10)))).toNat] : List UInt8), de cB ([UInt8.ofNat (IntKind.u8.wrap (ai (48 + (y6.tmod 10)))).toNat] : List UInt8) rfl (wY (AI _) ⟨.same _, trivial⟩ trivial), ⟨rfl, ([UInt8.ofNat (IntKind.u8.wrap (ai (48 + (y6.tmod 10)))).toNat] : List UInt8), rfl, nY aS rfl, (bk h fun s11 iB h => ⟨fM iB, s11, fN iB, ⟨by decide, (lg (R7 _ _ _ h rfl) (tk [] ⟨.i, .s, ⟨⟩⟩ ⟨⟩))⟩⟩)⟩⟩⟩
 exact ct ⟨_, si h, rfl, rfl⟩ (tk [] ⟨.s, ⟨⟩⟩ ⟨⟩)
 rintro _ _ ⟨s2, rfl, rfl, rfl⟩
 replace h := KX
 exact .d (bk h fun s15 nE h => ⟨fM nE, s15, fN nE, (eS h)⟩)
def gp (a0 : List TParam) (l8 : List TParam) (aW : Int) (bB : Int) : Option (Int × (List TParam)) :=
 (if bB < (a0.length : Int) then
 aR aW >>= fun du =>
 idx l8 bB >>= fun aX =>
 gp a0 (l8.set bB.toNat (TParam.mk du (((ai (aW + 1)).tmod 3) == 0))) (ai ((ai (aW + 1)) + 1)) (ai (bB + 1))
 else
 some (aW, l8))
partial_fixpoint
def jx (a0 : List TParam) (a1 : Int) : Option (Int × (List TParam)) :=
 (
 gp a0 a0 a1 0
 : Option (Int × (List TParam))) >>= fun (y1, l2) =>
 some (y1, l2)
theorem tf {a0 : List TParam} {a1 : Int} {r : Int × (List TParam)} {g1000 : Nat} {bU : Nat} {ee : Nat → List PV} (h : jx a0 a1 = some r) (cu : DR (uP TParam.cells) bU ee a0) : ACall Tryz.prog 66 [.own 0 g1000 0 bU, .int .i64 a1] [.row g1000 2 bU 61 ee] (fun res h => ∃ F0 : Nat → List PV, DR (uP TParam.cells) bU F0 r.2 ∧ res = .int .i64 r.1 ∧ h = [.row g1000 2 bU 61 F0]) := by
 obtain rfl := cu.len
 refine dx Tryz.func66 ?_
 unfold jx at h
 refine .d ?_
 obtain ⟨o5, ym, wS⟩ := bd h
 replace h := ym
 refine .cut (fun σ η => ∃ y1, ∃ l2, ∃ f3 : Nat → List PV, DR (uP TParam.cells) a0.length f3 l2 ∧ (y1, l2) = o5 ∧ σ = [(1, .int .i64 y1)] ∧ η = [.row g1000 2 a0.length 61 f3]) ?_ ?_
 refine .d ?_
 refine le (gp.partial_correctness a0 (motive := fun l8 aW bB XO => ∀ f9 : Nat → List PV, DR (uP TParam.cells) a0.length f9 l8 → o5 = XO → aB _ _ [(0, .own 0 g1000 0 a0.length), (1, .int .i64 aW), (5, .int .i64 bB)] [.row g1000 2 a0.length 61 f9]) ?_ a0 a1 0 o5 h ee cu rfl) (tk [0] ⟨(.od ahF), .i, .i, ⟨⟩⟩ ⟨(tg cu), ⟨⟩⟩)
 intro TJ sg l8 aW bB XO h f9 d10 TK
 subst TK
 refine aB.round (.d (.d ⟨rfl, (sD h (fun eE h => ?_) (fun eE h => ?_))⟩))
 refine .d (.d (bk h fun du tP h => (bJ (bh tP) (bk h fun aX dK h => ⟨rfl, DR.bd d10 dK, _, adX _, ⟨rfl, ⟨rfl, _, (bx f9 bB.toNat [.str du, .bool aX.Gi]), (DR.idx d10 dK), sh ⟨.same _, .same _, trivial⟩, (.d (.d ⟨by decide, ⟨rfl, DR.bd d10 dK, _, adX _, ⟨rfl, ⟨rfl, _, (bx f9 bB.toNat [.str du, .bool (((ai (aW + 1)).tmod 3) == 0)]), aT, eT ⟨.same _, .same _, trivial⟩, ?_⟩⟩⟩⟩))⟩⟩⟩))))
 have d20 : DR (uP TParam.cells) a0.length (bx f9 bB.toNat [.str du, .bool (((ai (aW + 1)).tmod 3) == 0)]) (l8.set bB.toNat (TParam.mk du (((ai (aW + 1)).tmod 3) == 0))) := DR.set d10 (kO dK) (show uP TParam.cells [.str du, .bool (((ai (aW + 1)).tmod 3) == 0)] (TParam.mk du (((ai (aW + 1)).tmod 3) == 0)) from rfl)
 exact lg (sg _ _ _ _ h (bx f9 bB.toNat [.str du, .bool (((ai (aW + 1)).tmod 3) == 0)]) d20 rfl) (tk [0] ⟨(.od (by first | rfl | exact d20.len | exact d20.len.symm)), .i, .i, ⟨⟩⟩ ⟨(tg d20), ⟨⟩⟩)
 exact agV
 rintro _ _ ⟨y1, l2, f3, d4, rfl, rfl, rfl⟩
 replace h := wS
 refine .d ?_
 exact agv
def fy (a0 : List aU) (l8 : List aU) (aW : Int) (bB : Int) : Option (Int × (List aU)) :=
 (if bB < (a0.length : Int) then
 aR aW >>= fun du =>
 idx l8 bB >>= fun aX =>
 fy a0 (l8.set bB.toNat du) (ai (aW + 1)) (ai (bB + 1))
 else
 some (aW, l8))
partial_fixpoint
def jZ (a0 : List aU) (a1 : Int) : Option (Int × (List aU)) :=
 (
 fy a0 a0 a1 0
 : Option (Int × (List aU))) >>= fun (y1, l2) =>
 some (y1, l2)
theorem yn {a0 : List aU} {a1 : Int} {r : Int × (List aU)} {g1000 : Nat} {bU : Nat} {ee : Nat → List PV} (h : jZ a0 a1 = some r) (cu : DR (uP cS) bU ee a0) : ACall Tryz.prog 67 [.own 0 g1000 0 bU, .int .i64 a1] [.row g1000 1 bU 9 ee] (fun res h => ∃ F0 : Nat → List PV, DR (uP cS) bU F0 r.2 ∧ res = .int .i64 r.1 ∧ h = [.row g1000 1 bU 9 F0]) := by
 obtain rfl := cu.len
 refine dx Tryz.func67 ?_
 unfold jZ at h
 refine .d ?_
 obtain ⟨o5, ym, wS⟩ := bd h
 replace h := ym
 refine .cut (fun σ η => ∃ y1, ∃ l2, ∃ f3 : Nat → List PV, DR (uP cS) a0.length f3 l2 ∧ (y1, l2) = o5 ∧ σ = [(1, .int .i64 y1)] ∧ η = [.row g1000 1 a0.length 9 f3]) ?_ ?_
 refine .d ?_
 refine le (fy.partial_correctness a0 (motive := fun l8 aW bB XO => ∀ f9 : Nat → List PV, DR (uP cS) a0.length f9 l8 → o5 = XO → aB _ _ [(0, .own 0 g1000 0 a0.length), (1, .int .i64 aW), (5, .int .i64 bB)] [.row g1000 1 a0.length 9 f9]) ?_ a0 a1 0 o5 h ee cu rfl) (tk [0] ⟨(.od ahF), .i, .i, ⟨⟩⟩ ⟨(tg cu), ⟨⟩⟩)
 intro TJ sg l8 aW bB XO h f9 d10 TK
 subst TK
 refine aB.round (.d (.d ⟨rfl, (sD h (fun eE h => ?_) (fun eE h => ?_))⟩))
 refine .d (.d (bk h fun du tP h => (bJ (bh tP) (bk h fun aX dK h => ⟨rfl, DR.bd d10 dK, _, adX _, ⟨rfl, _, (bx f9 bB.toNat [.str du]), (DR.idx d10 dK), sh ⟨.same _, trivial⟩, ?_⟩⟩))))
 have d20 : DR (uP cS) a0.length (bx f9 bB.toNat [.str du]) (l8.set bB.toNat du) := DR.set d10 (kO dK) (show uP cS [.str du] du from rfl)
 exact lg (sg _ _ _ _ h (bx f9 bB.toNat [.str du]) d20 rfl) (tk [0] ⟨(.od (by first | rfl | exact d20.len | exact d20.len.symm)), .i, .i, ⟨⟩⟩ ⟨(tg d20), ⟨⟩⟩)
 exact agV
 rintro _ _ ⟨y1, l2, f3, d4, rfl, rfl, rfl⟩
 replace h := wS
 refine .d ?_
 exact agv
def iH (a0 : List aL) (l8 : List aL) (aW : Int) (bB : Int) : Option (Int × (List aL)) :=
 (if bB < (a0.length : Int) then
 idx l8 bB >>= fun Gm =>
 aR (ai ((ai ((ai (aW + 1)) + 1)) + 1)) >>= fun ly =>
 aR (ai ((ai ((ai ((ai (aW + 1)) + 1)) + 1)) + 1)) >>= fun v20 =>
 iH a0 (l8.set bB.toNat (aL.mk aW (ai (aW + 1)) (ai ((ai (aW + 1)) + 1)) ly v20)) (ai ((ai ((ai ((ai ((ai (aW + 1)) + 1)) + 1)) + 1)) + 1)) (ai (bB + 1))
 else
 some (aW, l8))
partial_fixpoint
def mO (a0 : List aL) (a1 : Int) : Option (Int × (List aL)) :=
 (
 iH a0 a0 a1 0
 : Option (Int × (List aL))) >>= fun (y1, l2) =>
 some (y1, l2)
theorem CY {a0 : List aL} {a1 : Int} {r : Int × (List aL)} {g1000 : Nat} {bU : Nat} {ee : Nat → List PV} (h : mO a0 a1 = some r) (cu : DR (uP aL.cells) bU ee a0) : ACall Tryz.prog 68 [.own 0 g1000 0 bU, .int .i64 a1] [.row g1000 5 bU 64 ee] (fun res h => ∃ F0 : Nat → List PV, DR (uP aL.cells) bU F0 r.2 ∧ res = .int .i64 r.1 ∧ h = [.row g1000 5 bU 64 F0]) := by
 obtain rfl := cu.len
 refine dx Tryz.func68 ?_
 unfold mO at h
 refine .d ?_
 obtain ⟨o5, ym, wS⟩ := bd h
 replace h := ym
 refine .cut (fun σ η => ∃ y1, ∃ l2, ∃ f3 : Nat → List PV, DR (uP aL.cells) a0.length f3 l2 ∧ (y1, l2) = o5 ∧ σ = [(1, .int .i64 y1)] ∧ η = [.row g1000 5 a0.length 64 f3]) ?_ ?_
 refine .d ?_
 refine le (iH.partial_correctness a0 (motive := fun l8 aW bB J2 => ∀ f9 : Nat → List PV, DR (uP aL.cells) a0.length f9 l8 → o5 = J2 → aB _ _ [(0, .own 0 g1000 0 a0.length), (1, .int .i64 aW), (5, .int .i64 bB)] [.row g1000 5 a0.length 64 f9]) ?_ a0 a1 0 o5 h ee cu rfl) (tk [0] ⟨(.od ahF), .i, .i, ⟨⟩⟩ ⟨(tg cu), ⟨⟩⟩)
 intro TJ sg l8 aW bB J2 h f9 d10 MG
 subst MG
 refine aB.round (.d (.d ⟨rfl, (sD h (fun eE h => ?_) (fun eE h => ?_))⟩))
 refine .d (.d (bk h fun Gm oS h => ⟨rfl, DR.bd d10 oS, _, adX _, ⟨rfl, ⟨rfl, _, (bx f9 bB.toNat [.int .i64 aW, .int .i64 Gm.fA, .int .i64 Gm.fB, .str Gm.fS, .str Gm.fT]), (DR.idx d10 oS), sh ⟨.same _, .same _, .same _, .same _, .same _, trivial⟩, (.d (.d ⟨rfl, DR.bd d10 oS, _, adX _, ⟨rfl, ⟨rfl, _, (bx f9 bB.toNat [.int .i64 aW, .int .i64 (ai (aW + 1)), .int .i64 Gm.fB, .str Gm.fS, .str Gm.fT]), aT, eT ⟨.same _, .same _, .same _, .same _, .same _, trivial⟩, (.d (.d ⟨rfl, DR.bd d10 oS, _, adX _, ⟨rfl, ?_⟩⟩))⟩⟩⟩))⟩⟩⟩))
 refine ⟨rfl, _, (bx f9 bB.toNat [.int .i64 aW, .int .i64 (ai (aW + 1)), .int .i64 (ai ((ai (aW + 1)) + 1)), .str Gm.fS, .str Gm.fT]), aT, eT ⟨.same _, .same _, .same _, .same _, .same _, trivial⟩, (.d (.d (bk h fun ly Ey h => (bJ (bh Ey) ⟨rfl, DR.bd d10 oS, _, adX _, ⟨rfl, ⟨rfl, _, (bx f9 bB.toNat [.int .i64 aW, .int .i64 (ai (aW + 1)), .int .i64 (ai ((ai (aW + 1)) + 1)), .str ly, .str Gm.fT]), aT, eT ⟨.same _, .same _, .same _, .same _, .same _, trivial⟩, (.d (.d (bk h fun v20 Ez h => (bJ (bh Ez) ⟨rfl, DR.bd d10 oS, _, adX _, ⟨rfl, ⟨rfl, _, (bx f9 bB.toNat [.int .i64 aW, .int .i64 (ai (aW + 1)), .int .i64 (ai ((ai (aW + 1)) + 1)), .str ly, .str v20]), aT, eT ⟨.same _, .same _, .same _, .same _, .same _, trivial⟩, ?_⟩⟩⟩))))⟩⟩⟩))))⟩
 have d22 : DR (uP aL.cells) a0.length (bx f9 bB.toNat [.int .i64 aW, .int .i64 (ai (aW + 1)), .int .i64 (ai ((ai (aW + 1)) + 1)), .str ly, .str v20]) (l8.set bB.toNat (aL.mk aW (ai (aW + 1)) (ai ((ai (aW + 1)) + 1)) ly v20)) := DR.set d10 (kO oS) (show uP aL.cells [.int .i64 aW, .int .i64 (ai (aW + 1)), .int .i64 (ai ((ai (aW + 1)) + 1)), .str ly, .str v20] (aL.mk aW (ai (aW + 1)) (ai ((ai (aW + 1)) + 1)) ly v20) from rfl)
 exact lg (sg _ _ _ _ h (bx f9 bB.toNat [.int .i64 aW, .int .i64 (ai (aW + 1)), .int .i64 (ai ((ai (aW + 1)) + 1)), .str ly, .str v20]) d22 rfl) (tk [0] ⟨(.od (by first | rfl | exact d22.len | exact d22.len.symm)), .i, .i, ⟨⟩⟩ ⟨(tg d22), ⟨⟩⟩)
 exact agV
 rintro _ _ ⟨y1, l2, f3, d4, rfl, rfl, rfl⟩
 replace h := wS
 refine .d ?_
 exact agv
def fC (a0 : List aj) (l8 : List aj) (aW : Int) (bB : Int) : Option (Int × (List aj)) :=
 (if bB < (a0.length : Int) then
 aR aW >>= fun du =>
 idx l8 bB >>= fun aX =>
 aR (ai (aW + 1)) >>= fun v20 =>
 aR (ai ((ai (aW + 1)) + 1)) >>= fun oO =>
 fC a0 (l8.set bB.toNat (aj.mk du v20 oO (((ai ((ai ((ai (aW + 1)) + 1)) + 1)).tmod 3) == 0) (((ai ((ai ((ai ((ai (aW + 1)) + 1)) + 1)) + 1)).tmod 3) == 0))) (ai ((ai ((ai ((ai ((ai (aW + 1)) + 1)) + 1)) + 1)) + 1)) (ai (bB + 1))
 else
 some (aW, l8))
partial_fixpoint
def j8 (a0 : List aj) (a1 : Int) : Option (Int × (List aj)) :=
 (
 fC a0 a0 a1 0
 : Option (Int × (List aj))) >>= fun (y1, l2) =>
 some (y1, l2)
theorem yo {a0 : List aj} {a1 : Int} {r : Int × (List aj)} {g1000 : Nat} {bU : Nat} {ee : Nat → List PV} (h : j8 a0 a1 = some r) (cu : DR (uP aj.cells) bU ee a0) : ACall Tryz.prog 70 [.own 0 g1000 0 bU, .int .i64 a1] [.row g1000 5 bU 106 ee] (fun res h => ∃ F0 : Nat → List PV, DR (uP aj.cells) bU F0 r.2 ∧ res = .int .i64 r.1 ∧ h = [.row g1000 5 bU 106 F0]) := by
 obtain rfl := cu.len
 refine dx Tryz.func70 ?_
 unfold j8 at h
 refine .d ?_
 obtain ⟨o5, ym, wS⟩ := bd h
 replace h := ym
 refine .cut (fun σ η => ∃ y1, ∃ l2, ∃ f3 : Nat → List PV, DR (uP aj.cells) a0.length f3 l2 ∧ (y1, l2) = o5 ∧ σ = [(1, .int .i64 y1)] ∧ η = [.row g1000 5 a0.length 106 f3]) ?_ ?_
 refine .d ?_
 refine le (fC.partial_correctness a0 (motive := fun l8 aW bB Md => ∀ f9 : Nat → List PV, DR (uP aj.cells) a0.length f9 l8 → o5 = Md → aB _ _ [(0, .own 0 g1000 0 a0.length), (1, .int .i64 aW), (5, .int .i64 bB)] [.row g1000 5 a0.length 106 f9]) ?_ a0 a1 0 o5 h ee cu rfl) (tk [0] ⟨(.od ahF), .i, .i, ⟨⟩⟩ ⟨(tg cu), ⟨⟩⟩)
 intro TJ sg l8 aW bB Md h f9 d10 aaU
 subst aaU
 refine aB.round (.d (.d ⟨rfl, (sD h (fun eE h => ?_) (fun eE h => ?_))⟩))
 refine .d (.d (bk h fun du tP h => (bJ (bh tP) (bk h fun aX dK h => ⟨rfl, DR.bd d10 dK, _, adX _, ⟨rfl, ⟨rfl, _, (bx f9 bB.toNat [.str du, .str aX.jv, .str aX.nB, .bool aX.ed, .bool aX.mL]), (DR.idx d10 dK), sh ⟨.same _, .same _, .same _, .same _, .same _, trivial⟩, (.d (.d (bk h fun v20 Ez h => (bJ (bh Ez) ⟨rfl, DR.bd d10 dK, _, adX _, ⟨rfl, ⟨rfl, _, (bx f9 bB.toNat [.str du, .str v20, .str aX.nB, .bool aX.ed, .bool aX.mL]), aT, eT ⟨.same _, .same _, .same _, .same _, .same _, trivial⟩, ?_⟩⟩⟩))))⟩⟩⟩))))
 refine .d (.d (bk h fun oO yp h => (bJ (bh yp) ⟨rfl, DR.bd d10 dK, _, adX _, ⟨rfl, ⟨rfl, _, (bx f9 bB.toNat [.str du, .str v20, .str oO, .bool aX.ed, .bool aX.mL]), aT, eT ⟨.same _, .same _, .same _, .same _, .same _, trivial⟩, (.d (.d ⟨by decide, ⟨rfl, DR.bd d10 dK, _, adX _, ⟨rfl, ⟨rfl, _, (bx f9 bB.toNat [.str du, .str v20, .str oO, .bool (((ai ((ai ((ai (aW + 1)) + 1)) + 1)).tmod 3) == 0), .bool aX.mL]), aT, eT ⟨.same _, .same _, .same _, .same _, .same _, trivial⟩, (.d (.d ?_))⟩⟩⟩⟩))⟩⟩⟩)))
 refine ⟨by decide, ⟨rfl, DR.bd d10 dK, _, adX _, ⟨rfl, ⟨rfl, _, (bx f9 bB.toNat [.str du, .str v20, .str oO, .bool (((ai ((ai ((ai (aW + 1)) + 1)) + 1)).tmod 3) == 0), .bool (((ai ((ai ((ai ((ai (aW + 1)) + 1)) + 1)) + 1)).tmod 3) == 0)]), aT, eT ⟨.same _, .same _, .same _, .same _, .same _, trivial⟩, ?_⟩⟩⟩⟩
 have d24 : DR (uP aj.cells) a0.length (bx f9 bB.toNat [.str du, .str v20, .str oO, .bool (((ai ((ai ((ai (aW + 1)) + 1)) + 1)).tmod 3) == 0), .bool (((ai ((ai ((ai ((ai (aW + 1)) + 1)) + 1)) + 1)).tmod 3) == 0)]) (l8.set bB.toNat (aj.mk du v20 oO (((ai ((ai ((ai (aW + 1)) + 1)) + 1)).tmod 3) == 0) (((ai ((ai ((ai ((ai (aW + 1)) + 1)) + 1)) + 1)).tmod 3) == 0))) := DR.set d10 (kO dK) (show uP aj.cells [.str du, .str v20, .str oO, .bool (((ai ((ai ((ai (aW + 1)) + 1)) + 1)).tmod 3) == 0), .bool (((ai ((ai ((ai ((ai (aW + 1)) + 1)) + 1)) + 1)).tmod 3) == 0)] (aj.mk du v20 oO (((ai ((ai ((ai (aW + 1)) + 1)) + 1)).tmod 3) == 0) (((ai ((ai ((ai ((ai (aW + 1)) + 1)) + 1)) + 1)).tmod 3) == 0)) from rfl)
 exact lg (sg _ _ _ _ h (bx f9 bB.toNat [.str du, .str v20, .str oO, .bool (((ai ((ai ((ai (aW + 1)) + 1)) + 1)).tmod 3) == 0), .bool (((ai ((ai ((ai ((ai (aW + 1)) + 1)) + 1)) + 1)).tmod 3) == 0)]) d24 rfl) (tk [0] ⟨(.od ahQ), .i, .i, ⟨⟩⟩ ⟨(tg d24), ⟨⟩⟩)
 exact agV
 rintro _ _ ⟨y1, l2, f3, d4, rfl, rfl, rfl⟩
 replace h := wS
 refine .d ?_
 exact agv
def hJ (a0 : List UInt8) (l8 : List UInt8) (aW : Int) (bB : Int) : Option (Int × (List UInt8)) :=
 (if bB < (a0.length : Int) then
 idx l8 bB >>= fun XP =>
 hJ a0 (l8.set bB.toNat (UInt8.ofNat (IntKind.u8.wrap (aW)).toNat)) (ai (aW + 1)) (ai (bB + 1))
 else
 some (aW, l8))
partial_fixpoint
def kl (a0 : List UInt8) (a1 : Int) : Option (Int × (List UInt8)) :=
 (
 hJ a0 a0 a1 0
 : Option (Int × (List UInt8))) >>= fun (y1, l2) =>
 some (y1, l2)
theorem A7 {a0 : List UInt8} {a1 : Int} {r : Int × (List UInt8)} {g1000 : Nat} {bU : Nat} {ee : Nat → List PV} (h : kl a0 a1 = some r) (cu : DR (uP cB) bU ee a0) : ACall Tryz.prog 12 [.own 0 g1000 0 bU, .int .i64 a1] [.row g1000 1 bU 5 ee] (fun res h => ∃ F0 : Nat → List PV, DR (uP cB) bU F0 r.2 ∧ res = .int .i64 r.1 ∧ h = [.row g1000 1 bU 5 F0]) := by
 obtain rfl := cu.len
 refine dx Tryz.func12 ?_
 unfold kl at h
 refine .d ?_
 obtain ⟨o5, ym, wS⟩ := bd h
 replace h := ym
 refine .cut (fun σ η => ∃ y1, ∃ l2, ∃ f3 : Nat → List PV, DR (uP cB) a0.length f3 l2 ∧ (y1, l2) = o5 ∧ σ = [(1, .int .i64 y1)] ∧ η = [.row g1000 1 a0.length 5 f3]) ?_ ?_
 refine .d ?_
 refine le (hJ.partial_correctness a0 (motive := fun l8 aW bB MH => ∀ f9 : Nat → List PV, DR (uP cB) a0.length f9 l8 → o5 = MH → aB _ _ [(0, .own 0 g1000 0 a0.length), (1, .int .i64 aW), (5, .int .i64 bB)] [.row g1000 1 a0.length 5 f9]) ?_ a0 a1 0 o5 h ee cu rfl) (tk [0] ⟨(.od ahF), .i, .i, ⟨⟩⟩ ⟨(tg cu), ⟨⟩⟩)
 intro TJ sg l8 aW bB MH h f9 d10 TL
 subst TL
 refine aB.round (.d (.d ⟨rfl, (sD h (fun eE h => ?_) (fun eE h => ?_))⟩))
 refine .d (.d (bk h fun XP oS h => ⟨rfl, DR.bd d10 oS, _, adX _, ⟨rfl, _, (bx f9 bB.toNat [.int .u8 (IntKind.u8.wrap (aW))]), (DR.idx d10 oS), sh ⟨.same _, trivial⟩, ?_⟩⟩))
 have d18 : DR (uP cB) a0.length (bx f9 bB.toNat [.int .u8 (IntKind.u8.wrap (aW))]) (l8.set bB.toNat (UInt8.ofNat (IntKind.u8.wrap (aW)).toNat)) := DR.set d10 (kO oS) (show uP cB [.int .u8 (IntKind.u8.wrap (aW))] (UInt8.ofNat (IntKind.u8.wrap (aW)).toNat) from (AI _).symm)
 exact lg (sg _ _ _ _ h (bx f9 bB.toNat [.int .u8 (IntKind.u8.wrap (aW))]) d18 rfl) (tk [0] ⟨(.od (by first | rfl | exact d18.len | exact d18.len.symm)), .i, .i, ⟨⟩⟩ ⟨(tg d18), ⟨⟩⟩)
 exact agV
 rintro _ _ ⟨y1, l2, f3, d4, rfl, rfl, rfl⟩
 replace h := wS
 refine .d ?_
 exact agv
mutual
def ij (a0 : List ae) (a1 : Int) : Option (Int × (List ae)) :=
 (
 eU a0 a0 a1 0
 : Option (Int × (List ae))) >>= fun (y1, l2) =>
 some (y1, l2)
partial_fixpoint
def eU (a0 : List ae) (l8 : List ae) (aW : Int) (bB : Int) : Option (Int × (List ae)) :=
 (if bB < (a0.length : Int) then
 idx l8 bB >>= fun ns =>
 aR (ai ((ai (aW + 1)) + 1)) >>= fun kK =>
 aR (ai ((ai ((ai ((ai ((ai (aW + 1)) + 1)) + 1)) + 1)) + 1)) >>= fun mq =>
 ij ns.aY.af (ai ((ai ((ai ((ai ((ai ((ai ((ai (aW + 1)) + 1)) + 1)) + 1)) + 1)) + 1)) + 1)) >>= fun (lz, v28) =>
 eU a0 (l8.set bB.toNat (ae.mk (bH.mk ((aW.tmod 3) == 0) (ai (aW + 1)) kK) (ah.mk (ai ((ai ((ai (aW + 1)) + 1)) + 1)) (ai ((ai ((ai ((ai (aW + 1)) + 1)) + 1)) + 1)) mq (ai ((ai ((ai ((ai ((ai ((ai (aW + 1)) + 1)) + 1)) + 1)) + 1)) + 1)) v28))) lz (ai (bB + 1))
 else
 some (aW, l8))
partial_fixpoint
end
def EA (a0 : List ae) (a1 : Int) (r : Int × (List ae)) : Prop := ∀ g1000 : Nat, ∀ bU : Nat, ∀ ee : Nat → List PV, DR ae.D bU ee a0 → ACall Tryz.prog 121 [.own 0 g1000 0 bU, .int .i64 a1] [.row g1000 8 bU 197 ee] (fun res h => ∃ F0 : Nat → List PV, DR ae.D bU F0 r.2 ∧ res = .int .i64 r.1 ∧ h = [.row g1000 8 bU 197 F0])
inductive dR : (List ae) → (List ae) → Int → Int → (Int × (List ae)) → Prop
 | mk (MI : (List ae) → Int → Option (Int × (List ae))) (XR : ∀ a0 a1 r, MI a0 a1 = some r → EA a0 a1 r) (fg : (List ae) → (List ae) → Int → Int → Option (Int × (List ae))) (tQ : ∀ a0 l8 aW bB o, fg a0 l8 aW bB = some o → dR a0 l8 aW bB o) (a0 : List ae) (l8 : List ae) (aW : Int) (bB : Int) (o : Int × (List ae)) (h : (
 (if bB < (a0.length : Int) then
 idx l8 bB >>= fun ns =>
 aR (ai ((ai (aW + 1)) + 1)) >>= fun kK =>
 aR (ai ((ai ((ai ((ai ((ai (aW + 1)) + 1)) + 1)) + 1)) + 1)) >>= fun mq =>
 MI ns.aY.af (ai ((ai ((ai ((ai ((ai ((ai ((ai (aW + 1)) + 1)) + 1)) + 1)) + 1)) + 1)) + 1)) >>= fun (lz, v28) =>
 fg a0 (l8.set bB.toNat (ae.mk (bH.mk ((aW.tmod 3) == 0) (ai (aW + 1)) kK) (ah.mk (ai ((ai ((ai (aW + 1)) + 1)) + 1)) (ai ((ai ((ai ((ai (aW + 1)) + 1)) + 1)) + 1)) mq (ai ((ai ((ai ((ai ((ai ((ai (aW + 1)) + 1)) + 1)) + 1)) + 1)) + 1)) v28))) lz (ai (bB + 1))
 else
 some (aW, l8))
 ) = some o) : dR a0 l8 aW bB o
theorem tA {motive : (List ae) → (List ae) → Int → Int → (Int × (List ae)) → Prop} (step : ∀ (MI : (List ae) → Int → Option (Int × (List ae))) (XR : ∀ a0 a1 r, MI a0 a1 = some r → EA a0 a1 r) (fg : (List ae) → (List ae) → Int → Int → Option (Int × (List ae))) (tQ : ∀ a0 l8 aW bB o, fg a0 l8 aW bB = some o → dR a0 l8 aW bB o) (a0 : List ae) (l8 : List ae) (aW : Int) (bB : Int) (o : Int × (List ae)) (h : (
 (if bB < (a0.length : Int) then
 idx l8 bB >>= fun ns =>
 aR (ai ((ai (aW + 1)) + 1)) >>= fun kK =>
 aR (ai ((ai ((ai ((ai ((ai (aW + 1)) + 1)) + 1)) + 1)) + 1)) >>= fun mq =>
 MI ns.aY.af (ai ((ai ((ai ((ai ((ai ((ai ((ai (aW + 1)) + 1)) + 1)) + 1)) + 1)) + 1)) + 1)) >>= fun (lz, v28) =>
 fg a0 (l8.set bB.toNat (ae.mk (bH.mk ((aW.tmod 3) == 0) (ai (aW + 1)) kK) (ah.mk (ai ((ai ((ai (aW + 1)) + 1)) + 1)) (ai ((ai ((ai ((ai (aW + 1)) + 1)) + 1)) + 1)) mq (ai ((ai ((ai ((ai ((ai ((ai (aW + 1)) + 1)) + 1)) + 1)) + 1)) + 1)) v28))) lz (ai (bB + 1))
 else
 some (aW, l8))
 ) = some o) (ih : ∀ a0 l8 aW bB o, fg a0 l8 aW bB = some o → motive a0 l8 aW bB o), motive a0 l8 aW bB o) : ∀ a0 l8 aW bB o, dR a0 l8 aW bB o → motive a0 l8 aW bB o :=
 fun a0 l8 aW bB o h => dR.rec (motive := fun a0 l8 aW bB o _ => motive a0 l8 aW bB o) step h
theorem wZ : (∀ a0 a1 r, ij a0 a1 = some r → EA a0 a1 r) ∧ (∀ a0 l8 aW bB o, eU a0 l8 aW bB = some o → dR a0 l8 aW bB o) := by
 refine ij.mutual_partial_correctness EA dR ?_ ?_
 intro _ aaV a0 a1 r h g1000 bU ee cu
 obtain rfl := cu.len
 refine dx Tryz.func121 ?_
 refine .d ?_
 obtain ⟨o5, ym, wS⟩ := bd h
 replace h := ym
 refine .cut (fun σ η => ∃ y1, ∃ l2, ∃ f3 : Nat → List PV, DR ae.D a0.length f3 l2 ∧ (y1, l2) = o5 ∧ σ = [(1, .int .i64 y1)] ∧ η = [.row g1000 8 a0.length 197 f3]) ?_ ?_
 refine .d ?_
 have aaW := aaV _ _ _ _ _ h
 refine le (tA (motive := fun p36 l8 aW bB o34 => ∀ f9 : Nat → List PV, DR ae.D a0.length f9 l8 → a0 = p36 → o5 = o34 → aB _ _ [(0, .own 0 g1000 0 a0.length), (1, .int .i64 aW), (5, .int .i64 bB)] [.row g1000 8 a0.length 197 f9]) ?_ a0 a0 a1 0 o5 aaW ee cu rfl rfl) (tk [0] ⟨(.od ahF), .i, .i, ⟨⟩⟩ ⟨(tg cu), ⟨⟩⟩)
 intro _ aaX _ _ p36 l8 aW bB o34 h sg f9 d10 TM aaY
 subst TM
 subst aaY
 refine aB.round (.d (.d ⟨rfl, (sD h (fun kz h => ?_) (fun kz h => ?_))⟩))
 refine .d (.d ⟨by decide, (bk h fun ns sj h => ?_)⟩)
 obtain ⟨Qs, f20, e22, d21⟩ := ae.A8 (DR.idx d10 sj)
 refine ⟨rfl, DR.bd d10 sj, _, adX _, ⟨rfl, ⟨rfl, ⟨rfl, _, (bx f9 bB.toNat [.bool ((aW.tmod 3) == 0), .int .i64 ns.bm.aP, .str ns.bm.aQ, .int .i64 ns.aY.aF, .int .i64 ns.aY.aP, .str ns.aY.aQ, .int .i64 ns.aY.aO, .bf 8 ns.aY.af.length 197 f20 Qs]), e22, sh ⟨.same _, .same _, .same _, .same _, .same _, .same _, .same _, .same _, trivial⟩, (.d (.d ⟨rfl, DR.bd d10 sj, _, adX _, ⟨rfl, ⟨rfl, ⟨rfl, _, (bx f9 bB.toNat [.bool ((aW.tmod 3) == 0), .int .i64 (ai (aW + 1)), .str ns.bm.aQ, .int .i64 ns.aY.aF, .int .i64 ns.aY.aP, .str ns.aY.aQ, .int .i64 ns.aY.aO, .bf 8 ns.aY.af.length 197 f20 Qs]), aT, eT ⟨.same _, .same _, .same _, .same _, .same _, .same _, .same _, .same _, trivial⟩, (.d (.d (bk h fun kK tO h => (bJ (bh tO) ⟨rfl, DR.bd d10 sj, _, adX _, ?_⟩))))⟩⟩⟩⟩))⟩⟩⟩⟩
 refine ⟨rfl, ⟨rfl, ⟨rfl, _, (bx f9 bB.toNat [.bool ((aW.tmod 3) == 0), .int .i64 (ai (aW + 1)), .str kK, .int .i64 ns.aY.aF, .int .i64 ns.aY.aP, .str ns.aY.aQ, .int .i64 ns.aY.aO, .bf 8 ns.aY.af.length 197 f20 Qs]), aT, eT ⟨.same _, .same _, .same _, .same _, .same _, .same _, .same _, .same _, trivial⟩, (.d (.d ⟨rfl, DR.bd d10 sj, _, adX _, ⟨rfl, ⟨rfl, ⟨rfl, _, (bx f9 bB.toNat [.bool ((aW.tmod 3) == 0), .int .i64 (ai (aW + 1)), .str kK, .int .i64 (ai ((ai ((ai (aW + 1)) + 1)) + 1)), .int .i64 ns.aY.aP, .str ns.aY.aQ, .int .i64 ns.aY.aO, .bf 8 ns.aY.af.length 197 f20 Qs]), aT, eT ⟨.same _, .same _, .same _, .same _, .same _, .same _, .same _, .same _, trivial⟩, (.d (.d ⟨rfl, DR.bd d10 sj, _, adX _, ⟨rfl, ⟨rfl, ⟨rfl, _, (bx f9 bB.toNat [.bool ((aW.tmod 3) == 0), .int .i64 (ai (aW + 1)), .str kK, .int .i64 (ai ((ai ((ai (aW + 1)) + 1)) + 1)), .int .i64 (ai ((ai ((ai ((ai (aW + 1)) + 1)) + 1)) + 1)), .str ns.aY.aQ, .int .i64 ns.aY.aO, .bf 8 ns.aY.af.length 197 f20 Qs]), aT, eT ⟨.same _, .same _, .same _, .same _, .same _, .same _, .same _, .same _, trivial⟩, ?_⟩⟩⟩⟩))⟩⟩⟩⟩))⟩⟩⟩
 refine .d (.d (bk h fun mq Ia h => (bJ (bh Ia) ⟨rfl, DR.bd d10 sj, _, adX _, ⟨rfl, ⟨rfl, ⟨rfl, _, (bx f9 bB.toNat [.bool ((aW.tmod 3) == 0), .int .i64 (ai (aW + 1)), .str kK, .int .i64 (ai ((ai ((ai (aW + 1)) + 1)) + 1)), .int .i64 (ai ((ai ((ai ((ai (aW + 1)) + 1)) + 1)) + 1)), .str mq, .int .i64 ns.aY.aO, .bf 8 ns.aY.af.length 197 f20 Qs]), aT, eT ⟨.same _, .same _, .same _, .same _, .same _, .same _, .same _, .same _, trivial⟩, (.d (.d ⟨rfl, DR.bd d10 sj, _, adX _, ⟨rfl, ⟨rfl, ⟨rfl, _, (bx f9 bB.toNat [.bool ((aW.tmod 3) == 0), .int .i64 (ai (aW + 1)), .str kK, .int .i64 (ai ((ai ((ai (aW + 1)) + 1)) + 1)), .int .i64 (ai ((ai ((ai ((ai (aW + 1)) + 1)) + 1)) + 1)), .str mq, .int .i64 (ai ((ai ((ai ((ai ((ai ((ai (aW + 1)) + 1)) + 1)) + 1)) + 1)) + 1)), .bf 8 ns.aY.af.length 197 f20 Qs]), aT, eT ⟨.same _, .same _, .same _, .same _, .same _, .same _, .same _, .same _, trivial⟩, (.ex [.row g1000 8 a0.length 197 (bx f9 bB.toNat [.bool ((aW.tmod 3) == 0), .int .i64 (ai (aW + 1)), .str kK, .int .i64 (ai ((ai ((ai (aW + 1)) + 1)) + 1)), .int .i64 (ai ((ai ((ai ((ai (aW + 1)) + 1)) + 1)) + 1)), .str mq, .int .i64 (ai ((ai ((ai ((ai ((ai ((ai (aW + 1)) + 1)) + 1)) + 1)) + 1)) + 1)), .own 1 0 0 ns.aY.af.length]), .row 0 8 ns.aY.af.length 197 f20] (R8 0 7 [.bool ((aW.tmod 3) == 0), .int .i64 (ai (aW + 1)), .str kK, .int .i64 (ai ((ai ((ai (aW + 1)) + 1)) + 1)), .int .i64 (ai ((ai ((ai ((ai (aW + 1)) + 1)) + 1)) + 1)), .str mq, .int .i64 (ai ((ai ((ai ((ai ((ai ((ai (aW + 1)) + 1)) + 1)) + 1)) + 1)) + 1)), .bf 8 ns.aY.af.length 197 f20 Qs] [.bool ((aW.tmod 3) == 0), .int .i64 (ai (aW + 1)), .str kK, .int .i64 (ai ((ai ((ai (aW + 1)) + 1)) + 1)), .int .i64 (ai ((ai ((ai ((ai (aW + 1)) + 1)) + 1)) + 1)), .str mq, .int .i64 (ai ((ai ((ai ((ai ((ai ((ai (aW + 1)) + 1)) + 1)) + 1)) + 1)) + 1)), .own 1 0 0 ns.aY.af.length] (bx f9 bB.toNat [.bool ((aW.tmod 3) == 0), .int .i64 (ai (aW + 1)), .str kK, .int .i64 (ai ((ai ((ai (aW + 1)) + 1)) + 1)), .int .i64 (ai ((ai ((ai ((ai (aW + 1)) + 1)) + 1)) + 1)), .str mq, .int .i64 (ai ((ai ((ai ((ai ((ai ((ai (aW + 1)) + 1)) + 1)) + 1)) + 1)) + 1)), .own 1 0 0 ns.aY.af.length]) (DR.lt d10 sj) aT aT eo rfl rfl rfl rfl) ?_)⟩⟩⟩⟩))⟩⟩⟩⟩)))
 refine .d ⟨rfl, DR.bd d10 sj, _, adX _, ⟨rfl, ⟨rfl, ⟨rfl, _, aT, ?_⟩⟩⟩⟩
 obtain ⟨⟨lz, v28⟩, yq, h⟩ := bd h
 refine tR (aaX _ _ _ yq _ _ _ d21) [1] ⟨(KY d21), ⟨⟩⟩ ?_
 rintro _ _ ⟨f30, d31, rfl, rfl⟩
 refine ⟨.int .i64 lz, [.row g1000 8 a0.length 197 (bx f9 bB.toNat [.bool ((aW.tmod 3) == 0), .int .i64 (ai (aW + 1)), .str kK, .int .i64 (ai ((ai ((ai (aW + 1)) + 1)) + 1)), .int .i64 (ai ((ai ((ai ((ai (aW + 1)) + 1)) + 1)) + 1)), .str mq, .int .i64 (ai ((ai ((ai ((ai ((ai ((ai (aW + 1)) + 1)) + 1)) + 1)) + 1)) + 1)), .own 1 0 0 ns.aY.af.length]), .row 0 8 ns.aY.af.length 197 f30], rfl, (by simp only [lN, eM, aec, aep, List.drop, As, adU, EB, red d31, red d21]; rfl), (.ab 0 bB.toNat 7 1 (fun R9 => [.row g1000 8 a0.length 197 (bx f9 bB.toNat [.bool ((aW.tmod 3) == 0), .int .i64 (ai (aW + 1)), .str kK, .int .i64 (ai ((ai ((ai (aW + 1)) + 1)) + 1)), .int .i64 (ai ((ai ((ai ((ai (aW + 1)) + 1)) + 1)) + 1)), .str mq, .int .i64 (ai ((ai ((ai ((ai ((ai ((ai (aW + 1)) + 1)) + 1)) + 1)) + 1)) + 1)), .bf 8 ns.aY.af.length 197 f30 R9]), .dead]) (fun R9 => tS [.bool ((aW.tmod 3) == 0), .int .i64 (ai (aW + 1)), .str kK, .int .i64 (ai ((ai ((ai (aW + 1)) + 1)) + 1)), .int .i64 (ai ((ai ((ai ((ai (aW + 1)) + 1)) + 1)) + 1)), .str mq, .int .i64 (ai ((ai ((ai ((ai ((ai ((ai (aW + 1)) + 1)) + 1)) + 1)) + 1)) + 1)), .own 1 0 0 ns.aY.af.length] [.bool ((aW.tmod 3) == 0), .int .i64 (ai (aW + 1)), .str kK, .int .i64 (ai ((ai ((ai (aW + 1)) + 1)) + 1)), .int .i64 (ai ((ai ((ai ((ai (aW + 1)) + 1)) + 1)) + 1)), .str mq, .int .i64 (ai ((ai ((ai ((ai ((ai ((ai (aW + 1)) + 1)) + 1)) + 1)) + 1)) + 1)), .bf 8 ns.aY.af.length 197 f30 R9] (bx f9 bB.toNat [.bool ((aW.tmod 3) == 0), .int .i64 (ai (aW + 1)), .str kK, .int .i64 (ai ((ai ((ai (aW + 1)) + 1)) + 1)), .int .i64 (ai ((ai ((ai ((ai (aW + 1)) + 1)) + 1)) + 1)), .str mq, .int .i64 (ai ((ai ((ai ((ai ((ai ((ai (aW + 1)) + 1)) + 1)) + 1)) + 1)) + 1)), .bf 8 ns.aY.af.length 197 f30 R9]) (DR.lt d10 sj) aT aT eo (d31).po rfl rfl rfl rfl ahx rfl) fun R9 => ?_)⟩
 have d33 : DR ae.D a0.length (bx f9 bB.toNat [.bool ((aW.tmod 3) == 0), .int .i64 (ai (aW + 1)), .str kK, .int .i64 (ai ((ai ((ai (aW + 1)) + 1)) + 1)), .int .i64 (ai ((ai ((ai ((ai (aW + 1)) + 1)) + 1)) + 1)), .str mq, .int .i64 (ai ((ai ((ai ((ai ((ai ((ai (aW + 1)) + 1)) + 1)) + 1)) + 1)) + 1)), .bf 8 ns.aY.af.length 197 f30 R9]) (l8.set bB.toNat (ae.mk (bH.mk ((aW.tmod 3) == 0) (ai (aW + 1)) kK) (ah.mk (ai ((ai ((ai (aW + 1)) + 1)) + 1)) (ai ((ai ((ai ((ai (aW + 1)) + 1)) + 1)) + 1)) mq (ai ((ai ((ai ((ai ((ai ((ai (aW + 1)) + 1)) + 1)) + 1)) + 1)) + 1)) v28))) := DR.set d10 (kO sj) (ae.Ad (x := (ae.mk (bH.mk ((aW.tmod 3) == 0) (ai (aW + 1)) kK) (ah.mk (ai ((ai ((ai (aW + 1)) + 1)) + 1)) (ai ((ai ((ai ((ai (aW + 1)) + 1)) + 1)) + 1)) mq (ai ((ai ((ai ((ai ((ai ((ai (aW + 1)) + 1)) + 1)) + 1)) + 1)) + 1)) v28))) d31 : ae.D [.bool ((aW.tmod 3) == 0), .int .i64 (ai (aW + 1)), .str kK, .int .i64 (ai ((ai ((ai (aW + 1)) + 1)) + 1)), .int .i64 (ai ((ai ((ai ((ai (aW + 1)) + 1)) + 1)) + 1)), .str mq, .int .i64 (ai ((ai ((ai ((ai ((ai ((ai (aW + 1)) + 1)) + 1)) + 1)) + 1)) + 1)), .bf 8 ns.aY.af.length 197 f30 R9] (ae.mk (bH.mk ((aW.tmod 3) == 0) (ai (aW + 1)) kK) (ah.mk (ai ((ai ((ai (aW + 1)) + 1)) + 1)) (ai ((ai ((ai ((ai (aW + 1)) + 1)) + 1)) + 1)) mq (ai ((ai ((ai ((ai ((ai ((ai (aW + 1)) + 1)) + 1)) + 1)) + 1)) + 1)) v28)))
 exact lg (sg _ _ _ _ _ h (bx f9 bB.toNat [.bool ((aW.tmod 3) == 0), .int .i64 (ai (aW + 1)), .str kK, .int .i64 (ai ((ai ((ai (aW + 1)) + 1)) + 1)), .int .i64 (ai ((ai ((ai ((ai (aW + 1)) + 1)) + 1)) + 1)), .str mq, .int .i64 (ai ((ai ((ai ((ai ((ai ((ai (aW + 1)) + 1)) + 1)) + 1)) + 1)) + 1)), .bf 8 ns.aY.af.length 197 f30 R9]) d33 rfl rfl) (tk [0] ⟨(.od ahM), .i, .i, ⟨⟩⟩ ⟨(tg d33), ⟨⟩⟩)
 exact agV
 rintro _ _ ⟨y1, l2, f3, d4, rfl, rfl, rfl⟩
 replace h := wS
 refine .d ?_
 exact agv
 intro F0 F1 CS CT a0 l8 aW bB o h
 exact .mk F0 CS F1 CT a0 l8 aW bB o h
theorem Ae {a0 : List ae} {a1 : Int} {r : Int × (List ae)} {g1000 : Nat} {bU : Nat} {ee : Nat → List PV} (h : ij a0 a1 = some r) (cu : DR ae.D bU ee a0) : ACall Tryz.prog 121 [.own 0 g1000 0 bU, .int .i64 a1] [.row g1000 8 bU 197 ee] (fun res h => ∃ F0 : Nat → List PV, DR ae.D bU F0 r.2 ∧ res = .int .i64 r.1 ∧ h = [.row g1000 8 bU 197 F0]) := wZ.1 a0 a1 r h g1000 bU ee cu
def gq (a0 : List au) (l8 : List au) (aW : Int) (bB : Int) : Option (Int × (List au)) :=
 (if bB < (a0.length : Int) then
 aR aW >>= fun du =>
 idx l8 bB >>= fun aX =>
 aR (ai (aW + 1)) >>= fun v24 =>
 aR (ai ((ai ((ai ((ai ((ai (aW + 1)) + 1)) + 1)) + 1)) + 1)) >>= fun pk =>
 ij aX.bc.af (ai ((ai ((ai ((ai ((ai ((ai ((ai (aW + 1)) + 1)) + 1)) + 1)) + 1)) + 1)) + 1)) >>= fun (v28, P2) =>
 gq a0 (l8.set bB.toNat (au.mk du v24 (((ai ((ai (aW + 1)) + 1)).tmod 3) == 0) (ah.mk (ai ((ai ((ai (aW + 1)) + 1)) + 1)) (ai ((ai ((ai ((ai (aW + 1)) + 1)) + 1)) + 1)) pk (ai ((ai ((ai ((ai ((ai ((ai (aW + 1)) + 1)) + 1)) + 1)) + 1)) + 1)) P2))) v28 (ai (bB + 1))
 else
 some (aW, l8))
partial_fixpoint
def kP (a0 : List au) (a1 : Int) : Option (Int × (List au)) :=
 (
 gq a0 a0 a1 0
 : Option (Int × (List au))) >>= fun (y1, l2) =>
 some (y1, l2)
theorem Af {a0 : List au} {a1 : Int} {r : Int × (List au)} {g1000 : Nat} {bU : Nat} {ee : Nat → List PV} (h : kP a0 a1 = some r) (cu : DR au.D bU ee a0) : ACall Tryz.prog 69 [.own 0 g1000 0 bU, .int .i64 a1] [.row g1000 8 bU 99 ee] (fun res h => ∃ F0 : Nat → List PV, DR au.D bU F0 r.2 ∧ res = .int .i64 r.1 ∧ h = [.row g1000 8 bU 99 F0]) := by
 obtain rfl := cu.len
 refine dx Tryz.func69 ?_
 unfold kP at h
 refine .d ?_
 obtain ⟨o5, ym, wS⟩ := bd h
 replace h := ym
 refine .cut (fun σ η => ∃ y1, ∃ l2, ∃ f3 : Nat → List PV, DR au.D a0.length f3 l2 ∧ (y1, l2) = o5 ∧ σ = [(1, .int .i64 y1)] ∧ η = [.row g1000 8 a0.length 99 f3]) ?_ ?_
 refine .d ?_
 refine le (gq.partial_correctness a0 (motive := fun l8 aW bB W4 => ∀ f9 : Nat → List PV, DR au.D a0.length f9 l8 → o5 = W4 → aB _ _ [(0, .own 0 g1000 0 a0.length), (1, .int .i64 aW), (5, .int .i64 bB)] [.row g1000 8 a0.length 99 f9]) ?_ a0 a1 0 o5 h ee cu rfl) (tk [0] ⟨(.od ahF), .i, .i, ⟨⟩⟩ ⟨(tg cu), ⟨⟩⟩)
 intro TJ sg l8 aW bB W4 h f9 d10 aaZ
 subst aaZ
 refine aB.round (.d (.d ⟨rfl, (sD h (fun eE h => ?_) (fun eE h => ?_))⟩))
 refine .d (.d (bk h fun du tP h => (bJ (bh tP) (bk h fun aX dK h => ?_))))
 obtain ⟨Ib, f21, e23, d22⟩ := au.A8 (DR.idx d10 dK)
 refine ⟨rfl, DR.bd d10 dK, _, adX _, ⟨rfl, ⟨rfl, _, (bx f9 bB.toNat [.str du, .str aX.jv, .bool aX.ed, .int .i64 aX.bc.aF, .int .i64 aX.bc.aP, .str aX.bc.aQ, .int .i64 aX.bc.aO, .bf 8 aX.bc.af.length 197 f21 Ib]), e23, sh ⟨.same _, .same _, .same _, .same _, .same _, .same _, .same _, .same _, trivial⟩, (.d (.d (bk h fun v24 TN h => (bJ (bh TN) ⟨rfl, DR.bd d10 dK, _, adX _, ⟨rfl, ⟨rfl, _, (bx f9 bB.toNat [.str du, .str v24, .bool aX.ed, .int .i64 aX.bc.aF, .int .i64 aX.bc.aP, .str aX.bc.aQ, .int .i64 aX.bc.aO, .bf 8 aX.bc.af.length 197 f21 Ib]), aT, eT ⟨.same _, .same _, .same _, .same _, .same _, .same _, .same _, .same _, trivial⟩, (.d (.d ⟨by decide, ⟨rfl, DR.bd d10 dK, _, adX _, ⟨rfl, ?_⟩⟩⟩))⟩⟩⟩))))⟩⟩⟩
 refine ⟨rfl, _, (bx f9 bB.toNat [.str du, .str v24, .bool (((ai ((ai (aW + 1)) + 1)).tmod 3) == 0), .int .i64 aX.bc.aF, .int .i64 aX.bc.aP, .str aX.bc.aQ, .int .i64 aX.bc.aO, .bf 8 aX.bc.af.length 197 f21 Ib]), aT, eT ⟨.same _, .same _, .same _, .same _, .same _, .same _, .same _, .same _, trivial⟩, (.d (.d ⟨rfl, DR.bd d10 dK, _, adX _, ⟨rfl, ⟨rfl, ⟨rfl, _, (bx f9 bB.toNat [.str du, .str v24, .bool (((ai ((ai (aW + 1)) + 1)).tmod 3) == 0), .int .i64 (ai ((ai ((ai (aW + 1)) + 1)) + 1)), .int .i64 aX.bc.aP, .str aX.bc.aQ, .int .i64 aX.bc.aO, .bf 8 aX.bc.af.length 197 f21 Ib]), aT, eT ⟨.same _, .same _, .same _, .same _, .same _, .same _, .same _, .same _, trivial⟩, (.d (.d ⟨rfl, DR.bd d10 dK, _, adX _, ⟨rfl, ⟨rfl, ⟨rfl, _, (bx f9 bB.toNat [.str du, .str v24, .bool (((ai ((ai (aW + 1)) + 1)).tmod 3) == 0), .int .i64 (ai ((ai ((ai (aW + 1)) + 1)) + 1)), .int .i64 (ai ((ai ((ai ((ai (aW + 1)) + 1)) + 1)) + 1)), .str aX.bc.aQ, .int .i64 aX.bc.aO, .bf 8 aX.bc.af.length 197 f21 Ib]), aT, eT ⟨.same _, .same _, .same _, .same _, .same _, .same _, .same _, .same _, trivial⟩, (.d (.d ?_))⟩⟩⟩⟩))⟩⟩⟩⟩))⟩
 refine bk h fun pk MJ h => (bJ (bh MJ) ⟨rfl, DR.bd d10 dK, _, adX _, ⟨rfl, ⟨rfl, ⟨rfl, _, (bx f9 bB.toNat [.str du, .str v24, .bool (((ai ((ai (aW + 1)) + 1)).tmod 3) == 0), .int .i64 (ai ((ai ((ai (aW + 1)) + 1)) + 1)), .int .i64 (ai ((ai ((ai ((ai (aW + 1)) + 1)) + 1)) + 1)), .str pk, .int .i64 aX.bc.aO, .bf 8 aX.bc.af.length 197 f21 Ib]), aT, eT ⟨.same _, .same _, .same _, .same _, .same _, .same _, .same _, .same _, trivial⟩, (.d (.d ⟨rfl, DR.bd d10 dK, _, adX _, ⟨rfl, ⟨rfl, ⟨rfl, _, (bx f9 bB.toNat [.str du, .str v24, .bool (((ai ((ai (aW + 1)) + 1)).tmod 3) == 0), .int .i64 (ai ((ai ((ai (aW + 1)) + 1)) + 1)), .int .i64 (ai ((ai ((ai ((ai (aW + 1)) + 1)) + 1)) + 1)), .str pk, .int .i64 (ai ((ai ((ai ((ai ((ai ((ai (aW + 1)) + 1)) + 1)) + 1)) + 1)) + 1)), .bf 8 aX.bc.af.length 197 f21 Ib]), aT, eT ⟨.same _, .same _, .same _, .same _, .same _, .same _, .same _, .same _, trivial⟩, (.ex [.row g1000 8 a0.length 99 (bx f9 bB.toNat [.str du, .str v24, .bool (((ai ((ai (aW + 1)) + 1)).tmod 3) == 0), .int .i64 (ai ((ai ((ai (aW + 1)) + 1)) + 1)), .int .i64 (ai ((ai ((ai ((ai (aW + 1)) + 1)) + 1)) + 1)), .str pk, .int .i64 (ai ((ai ((ai ((ai ((ai ((ai (aW + 1)) + 1)) + 1)) + 1)) + 1)) + 1)), .own 1 0 0 aX.bc.af.length]), .row 0 8 aX.bc.af.length 197 f21] (R8 0 7 [.str du, .str v24, .bool (((ai ((ai (aW + 1)) + 1)).tmod 3) == 0), .int .i64 (ai ((ai ((ai (aW + 1)) + 1)) + 1)), .int .i64 (ai ((ai ((ai ((ai (aW + 1)) + 1)) + 1)) + 1)), .str pk, .int .i64 (ai ((ai ((ai ((ai ((ai ((ai (aW + 1)) + 1)) + 1)) + 1)) + 1)) + 1)), .bf 8 aX.bc.af.length 197 f21 Ib] [.str du, .str v24, .bool (((ai ((ai (aW + 1)) + 1)).tmod 3) == 0), .int .i64 (ai ((ai ((ai (aW + 1)) + 1)) + 1)), .int .i64 (ai ((ai ((ai ((ai (aW + 1)) + 1)) + 1)) + 1)), .str pk, .int .i64 (ai ((ai ((ai ((ai ((ai ((ai (aW + 1)) + 1)) + 1)) + 1)) + 1)) + 1)), .own 1 0 0 aX.bc.af.length] (bx f9 bB.toNat [.str du, .str v24, .bool (((ai ((ai (aW + 1)) + 1)).tmod 3) == 0), .int .i64 (ai ((ai ((ai (aW + 1)) + 1)) + 1)), .int .i64 (ai ((ai ((ai ((ai (aW + 1)) + 1)) + 1)) + 1)), .str pk, .int .i64 (ai ((ai ((ai ((ai ((ai ((ai (aW + 1)) + 1)) + 1)) + 1)) + 1)) + 1)), .own 1 0 0 aX.bc.af.length]) (DR.lt d10 dK) aT aT eo rfl rfl rfl rfl) (.d ⟨rfl, DR.bd d10 dK, _, adX _, ?_⟩))⟩⟩⟩⟩))⟩⟩⟩⟩)
 refine ⟨rfl, ⟨rfl, ⟨rfl, _, aT, ?_⟩⟩⟩
 obtain ⟨⟨v28, P2⟩, TO, h⟩ := bd h
 refine tR (Ae (g1000 := 0) TO d22) [1] ⟨(KY d22), ⟨⟩⟩ ?_
 rintro _ _ ⟨f31, d32, rfl, rfl⟩
 refine ⟨.int .i64 v28, [.row g1000 8 a0.length 99 (bx f9 bB.toNat [.str du, .str v24, .bool (((ai ((ai (aW + 1)) + 1)).tmod 3) == 0), .int .i64 (ai ((ai ((ai (aW + 1)) + 1)) + 1)), .int .i64 (ai ((ai ((ai ((ai (aW + 1)) + 1)) + 1)) + 1)), .str pk, .int .i64 (ai ((ai ((ai ((ai ((ai ((ai (aW + 1)) + 1)) + 1)) + 1)) + 1)) + 1)), .own 1 0 0 aX.bc.af.length]), .row 0 8 aX.bc.af.length 197 f31], rfl, (by simp only [lN, eM, aec, aep, List.drop, As, adU, EB, red d32, red d22]; rfl), (.ab 0 bB.toNat 7 1 (fun P3 => [.row g1000 8 a0.length 99 (bx f9 bB.toNat [.str du, .str v24, .bool (((ai ((ai (aW + 1)) + 1)).tmod 3) == 0), .int .i64 (ai ((ai ((ai (aW + 1)) + 1)) + 1)), .int .i64 (ai ((ai ((ai ((ai (aW + 1)) + 1)) + 1)) + 1)), .str pk, .int .i64 (ai ((ai ((ai ((ai ((ai ((ai (aW + 1)) + 1)) + 1)) + 1)) + 1)) + 1)), .bf 8 aX.bc.af.length 197 f31 P3]), .dead]) (fun P3 => tS [.str du, .str v24, .bool (((ai ((ai (aW + 1)) + 1)).tmod 3) == 0), .int .i64 (ai ((ai ((ai (aW + 1)) + 1)) + 1)), .int .i64 (ai ((ai ((ai ((ai (aW + 1)) + 1)) + 1)) + 1)), .str pk, .int .i64 (ai ((ai ((ai ((ai ((ai ((ai (aW + 1)) + 1)) + 1)) + 1)) + 1)) + 1)), .own 1 0 0 aX.bc.af.length] [.str du, .str v24, .bool (((ai ((ai (aW + 1)) + 1)).tmod 3) == 0), .int .i64 (ai ((ai ((ai (aW + 1)) + 1)) + 1)), .int .i64 (ai ((ai ((ai ((ai (aW + 1)) + 1)) + 1)) + 1)), .str pk, .int .i64 (ai ((ai ((ai ((ai ((ai ((ai (aW + 1)) + 1)) + 1)) + 1)) + 1)) + 1)), .bf 8 aX.bc.af.length 197 f31 P3] (bx f9 bB.toNat [.str du, .str v24, .bool (((ai ((ai (aW + 1)) + 1)).tmod 3) == 0), .int .i64 (ai ((ai ((ai (aW + 1)) + 1)) + 1)), .int .i64 (ai ((ai ((ai ((ai (aW + 1)) + 1)) + 1)) + 1)), .str pk, .int .i64 (ai ((ai ((ai ((ai ((ai ((ai (aW + 1)) + 1)) + 1)) + 1)) + 1)) + 1)), .bf 8 aX.bc.af.length 197 f31 P3]) (DR.lt d10 dK) aT aT eo (d32).po rfl rfl rfl rfl ahx rfl) fun P3 => ?_)⟩
 have d34 : DR au.D a0.length (bx f9 bB.toNat [.str du, .str v24, .bool (((ai ((ai (aW + 1)) + 1)).tmod 3) == 0), .int .i64 (ai ((ai ((ai (aW + 1)) + 1)) + 1)), .int .i64 (ai ((ai ((ai ((ai (aW + 1)) + 1)) + 1)) + 1)), .str pk, .int .i64 (ai ((ai ((ai ((ai ((ai ((ai (aW + 1)) + 1)) + 1)) + 1)) + 1)) + 1)), .bf 8 aX.bc.af.length 197 f31 P3]) (l8.set bB.toNat (au.mk du v24 (((ai ((ai (aW + 1)) + 1)).tmod 3) == 0) (ah.mk (ai ((ai ((ai (aW + 1)) + 1)) + 1)) (ai ((ai ((ai ((ai (aW + 1)) + 1)) + 1)) + 1)) pk (ai ((ai ((ai ((ai ((ai ((ai (aW + 1)) + 1)) + 1)) + 1)) + 1)) + 1)) P2))) := DR.set d10 (kO dK) (au.Ad (x := (au.mk du v24 (((ai ((ai (aW + 1)) + 1)).tmod 3) == 0) (ah.mk (ai ((ai ((ai (aW + 1)) + 1)) + 1)) (ai ((ai ((ai ((ai (aW + 1)) + 1)) + 1)) + 1)) pk (ai ((ai ((ai ((ai ((ai ((ai (aW + 1)) + 1)) + 1)) + 1)) + 1)) + 1)) P2))) d32 : au.D [.str du, .str v24, .bool (((ai ((ai (aW + 1)) + 1)).tmod 3) == 0), .int .i64 (ai ((ai ((ai (aW + 1)) + 1)) + 1)), .int .i64 (ai ((ai ((ai ((ai (aW + 1)) + 1)) + 1)) + 1)), .str pk, .int .i64 (ai ((ai ((ai ((ai ((ai ((ai (aW + 1)) + 1)) + 1)) + 1)) + 1)) + 1)), .bf 8 aX.bc.af.length 197 f31 P3] (au.mk du v24 (((ai ((ai (aW + 1)) + 1)).tmod 3) == 0) (ah.mk (ai ((ai ((ai (aW + 1)) + 1)) + 1)) (ai ((ai ((ai ((ai (aW + 1)) + 1)) + 1)) + 1)) pk (ai ((ai ((ai ((ai ((ai ((ai (aW + 1)) + 1)) + 1)) + 1)) + 1)) + 1)) P2)))
 exact lg (sg _ _ _ _ h (bx f9 bB.toNat [.str du, .str v24, .bool (((ai ((ai (aW + 1)) + 1)).tmod 3) == 0), .int .i64 (ai ((ai ((ai (aW + 1)) + 1)) + 1)), .int .i64 (ai ((ai ((ai ((ai (aW + 1)) + 1)) + 1)) + 1)), .str pk, .int .i64 (ai ((ai ((ai ((ai ((ai ((ai (aW + 1)) + 1)) + 1)) + 1)) + 1)) + 1)), .bf 8 aX.bc.af.length 197 f31 P3]) d34 rfl) (tk [0] ⟨(.od (by first | rfl | exact d34.len | exact d34.len.symm)), .i, .i, ⟨⟩⟩ ⟨(tg d34), ⟨⟩⟩)
 exact agV
 rintro _ _ ⟨y1, l2, f3, d4, rfl, rfl, rfl⟩
 replace h := wS
 refine .d ?_
 exact agv
def gr (a0 : List aw) (l8 : List aw) (aW : Int) (bB : Int) : Option (Int × (List aw)) :=
 (if bB < (a0.length : Int) then
 aR aW >>= fun du =>
 idx l8 bB >>= fun aX =>
 aR (ai (aW + 1)) >>= fun mq =>
 kP aX.aH (ai ((ai (aW + 1)) + 1)) >>= fun (lz, v28) =>
 j8 aX.aE lz >>= fun (Gl, Gn) =>
 gr a0 (l8.set bB.toNat (aw.mk du mq v28 Gn)) Gl (ai (bB + 1))
 else
 some (aW, l8))
partial_fixpoint
def kQ (a0 : List aw) (a1 : Int) : Option (Int × (List aw)) :=
 (
 gr a0 a0 a1 0
 : Option (Int × (List aw))) >>= fun (y1, l2) =>
 some (y1, l2)
theorem Ag {a0 : List aw} {a1 : Int} {r : Int × (List aw)} {g1000 : Nat} {bU : Nat} {ee : Nat → List PV} (h : kQ a0 a1 = some r) (cu : DR aw.D bU ee a0) : ACall Tryz.prog 32 [.own 0 g1000 0 bU, .int .i64 a1] [.row g1000 4 bU 68 ee] (fun res h => ∃ F0 : Nat → List PV, DR aw.D bU F0 r.2 ∧ res = .int .i64 r.1 ∧ h = [.row g1000 4 bU 68 F0]) := by
 obtain rfl := cu.len
 refine dx Tryz.func32 ?_
 unfold kQ at h
 refine .d ?_
 obtain ⟨o5, ym, wS⟩ := bd h
 replace h := ym
 refine .cut (fun σ η => ∃ y1, ∃ l2, ∃ f3 : Nat → List PV, DR aw.D a0.length f3 l2 ∧ (y1, l2) = o5 ∧ σ = [(1, .int .i64 y1)] ∧ η = [.row g1000 4 a0.length 68 f3]) ?_ ?_
 refine .d ?_
 refine le (gr.partial_correctness a0 (motive := fun l8 aW bB Ic => ∀ f9 : Nat → List PV, DR aw.D a0.length f9 l8 → o5 = Ic → aB _ _ [(0, .own 0 g1000 0 a0.length), (1, .int .i64 aW), (5, .int .i64 bB)] [.row g1000 4 a0.length 68 f9]) ?_ a0 a1 0 o5 h ee cu rfl) (tk [0] ⟨(.od ahF), .i, .i, ⟨⟩⟩ ⟨(tg cu), ⟨⟩⟩)
 intro TJ sg l8 aW bB Ic h f9 d10 TP
 subst TP
 refine aB.round (.d (.d ⟨rfl, (sD h (fun eE h => ?_) (fun eE h => ?_))⟩))
 refine .d (.d (bk h fun du tP h => (bJ (bh tP) (bk h fun aX dK h => ?_))))
 obtain ⟨Ib, f21, zp, e24, d22⟩ := aw.A8 (DR.idx d10 dK)
 refine ⟨rfl, DR.bd d10 dK, _, adX _, ⟨rfl, ⟨rfl, _, (bx f9 bB.toNat [.str du, .str aX.dp, .bf 8 aX.aH.length 99 f21 Ib, .bf 5 aX.aE.length 106 (row aj.cells aX.aE) zp]), e24, sh ⟨.same _, .same _, .same _, .same _, trivial⟩, (.d (.d (bk h fun mq Ia h => (bJ (bh Ia) ⟨rfl, DR.bd d10 dK, _, adX _, ⟨rfl, ⟨rfl, _, (bx f9 bB.toNat [.str du, .str mq, .bf 8 aX.aH.length 99 f21 Ib, .bf 5 aX.aE.length 106 (row aj.cells aX.aE) zp]), aT, eT ⟨.same _, .same _, .same _, .same _, trivial⟩, (.d (.ex [.row g1000 4 a0.length 68 (bx f9 bB.toNat [.str du, .str mq, .own 1 0 0 aX.aH.length, .bf 5 aX.aE.length 106 (row aj.cells aX.aE) zp]), .row 0 8 aX.aH.length 99 f21] (R8 0 2 [.str du, .str mq, .bf 8 aX.aH.length 99 f21 Ib, .bf 5 aX.aE.length 106 (row aj.cells aX.aE) zp] [.str du, .str mq, .own 1 0 0 aX.aH.length, .bf 5 aX.aE.length 106 (row aj.cells aX.aE) zp] (bx f9 bB.toNat [.str du, .str mq, .own 1 0 0 aX.aH.length, .bf 5 aX.aE.length 106 (row aj.cells aX.aE) zp]) (DR.lt d10 dK) aT aT eo rfl rfl rfl rfl) (.ex [.row g1000 4 a0.length 68 (bx f9 bB.toNat [.str du, .str mq, .own 1 0 0 aX.aH.length, .own 2 0 0 aX.aE.length]), .row 0 8 aX.aH.length 99 f21, .row 0 5 aX.aE.length 106 (row aj.cells aX.aE)] (R8 0 3 [.str du, .str mq, .own 1 0 0 aX.aH.length, .bf 5 aX.aE.length 106 (row aj.cells aX.aE) zp] [.str du, .str mq, .own 1 0 0 aX.aH.length, .own 2 0 0 aX.aE.length] (bx f9 bB.toNat [.str du, .str mq, .own 1 0 0 aX.aH.length, .own 2 0 0 aX.aE.length]) (DR.lt d10 dK) aT aT eo rfl rfl rfl rfl) (.d ⟨rfl, DR.bd d10 dK, _, adX _, ?_⟩))))⟩⟩⟩))))⟩⟩⟩
 refine ⟨rfl, ⟨rfl, _, aT, ?_⟩⟩
 obtain ⟨⟨lz, v28⟩, yq, h⟩ := bd h
 refine tR (Af (g1000 := 0) yq d22) [1] ⟨(KY d22), ⟨⟩⟩ ?_
 rintro _ _ ⟨f30, d31, rfl, rfl⟩
 refine ⟨.int .i64 lz, [.row g1000 4 a0.length 68 (bx f9 bB.toNat [.str du, .str mq, .own 1 0 0 aX.aH.length, .own 2 0 0 aX.aE.length]), .row 0 8 aX.aH.length 99 f30, .row 0 5 aX.aE.length 106 (row aj.cells aX.aE)], rfl, (by simp only [lN, eM, aec, aep, List.drop, As, adU, EB, red d31, red d22]; rfl), ⟨rfl, DR.bd d10 dK, _, adX _, ⟨rfl, ⟨rfl, _, aT, ?_⟩⟩⟩⟩
 obtain ⟨⟨Gl, Gn⟩, TQ, h⟩ := bd h
 refine tR (yo (g1000 := 0) TQ DR.sq) [2] ⟨(KY DR.sq), ⟨⟩⟩ ?_
 rintro _ _ ⟨f35, d36, rfl, rfl⟩
 refine ⟨.int .i64 Gl, [.row g1000 4 a0.length 68 (bx f9 bB.toNat [.str du, .str mq, .own 1 0 0 aX.aH.length, .own 2 0 0 aX.aE.length]), .row 0 8 aX.aH.length 99 f30, .row 0 5 aX.aE.length 106 f35], rfl, aih, (.ab 0 bB.toNat 2 1 (fun KZ => [.row g1000 4 a0.length 68 (bx f9 bB.toNat [.str du, .str mq, .bf 8 aX.aH.length 99 f30 KZ, .own 2 0 0 aX.aE.length]), .dead, .row 0 5 aX.aE.length 106 f35]) (fun KZ => tS [.str du, .str mq, .own 1 0 0 aX.aH.length, .own 2 0 0 aX.aE.length] [.str du, .str mq, .bf 8 aX.aH.length 99 f30 KZ, .own 2 0 0 aX.aE.length] (bx f9 bB.toNat [.str du, .str mq, .bf 8 aX.aH.length 99 f30 KZ, .own 2 0 0 aX.aE.length]) (DR.lt d10 dK) aT aT eo (d31).po rfl rfl rfl rfl ahx rfl) fun KZ => ?_)⟩
 obtain rfl := DR.XS d36
 refine .ab 0 bB.toNat 3 2 (fun P4 => [.row g1000 4 a0.length 68 (bx f9 bB.toNat [.str du, .str mq, .bf 8 aX.aH.length 99 f30 KZ, .bf 5 aX.aE.length 106 (row aj.cells Gn) P4]), .dead, .dead]) (fun P4 => tS [.str du, .str mq, .bf 8 aX.aH.length 99 f30 KZ, .own 2 0 0 aX.aE.length] [.str du, .str mq, .bf 8 aX.aH.length 99 f30 KZ, .bf 5 aX.aE.length 106 (row aj.cells Gn) P4] (bx f9 bB.toNat [.str du, .str mq, .bf 8 aX.aH.length 99 f30 KZ, .bf 5 aX.aE.length 106 (row aj.cells Gn) P4]) (DR.lt d10 dK) aT aT eo (d36).po rfl rfl rfl rfl ahx rfl) fun P4 => ?_
 have d39 : DR aw.D a0.length (bx f9 bB.toNat [.str du, .str mq, .bf 8 aX.aH.length 99 f30 KZ, .bf 5 aX.aE.length 106 (row aj.cells Gn) P4]) (l8.set bB.toNat (aw.mk du mq v28 Gn)) := DR.set d10 (kO dK) (aw.Ad (x := (aw.mk du mq v28 Gn)) d31 d36.len : aw.D [.str du, .str mq, .bf 8 aX.aH.length 99 f30 KZ, .bf 5 aX.aE.length 106 (row aj.cells Gn) P4] (aw.mk du mq v28 Gn))
 exact lg (sg _ _ _ _ h (bx f9 bB.toNat [.str du, .str mq, .bf 8 aX.aH.length 99 f30 KZ, .bf 5 aX.aE.length 106 (row aj.cells Gn) P4]) d39 rfl) (tk [0] ⟨(.od (by first | rfl | exact d39.len | exact d39.len.symm)), .i, .i, ⟨⟩⟩ ⟨(tg d39), ⟨⟩⟩)
 exact agV
 rintro _ _ ⟨y1, l2, f3, d4, rfl, rfl, rfl⟩
 replace h := wS
 refine .d ?_
 exact agv
def hU (a0 : List aC) (l8 : List aC) (aW : Int) (bB : Int) : Option (Int × (List aC)) :=
 (if bB < (a0.length : Int) then
 aR aW >>= fun du =>
 idx l8 bB >>= fun aX =>
 jx aX.av (ai (aW + 1)) >>= fun (mq, pk) =>
 jx aX.aM mq >>= fun (v30, v31) =>
 jZ aX.ay v30 >>= fun (oz, qT) =>
 mO aX.ax (ai (oz + 1)) >>= fun (v40, pn) =>
 hU a0 (l8.set bB.toNat (aC.mk du pk v31 qT ((oz.tmod 3) == 0) pn)) v40 (ai (bB + 1))
 else
 some (aW, l8))
partial_fixpoint
def lO (a0 : List aC) (a1 : Int) : Option (Int × (List aC)) :=
 (
 hU a0 a0 a1 0
 : Option (Int × (List aC))) >>= fun (y1, l2) =>
 some (y1, l2)
theorem A9 {a0 : List aC} {a1 : Int} {r : Int × (List aC)} {g1000 : Nat} {bU : Nat} {ee : Nat → List PV} (h : lO a0 a1 = some r) (cu : DR aC.D bU ee a0) : ACall Tryz.prog 31 [.own 0 g1000 0 bU, .int .i64 a1] [.row g1000 6 bU 57 ee] (fun res h => ∃ F0 : Nat → List PV, DR aC.D bU F0 r.2 ∧ res = .int .i64 r.1 ∧ h = [.row g1000 6 bU 57 F0]) := by
 obtain rfl := cu.len
 refine dx Tryz.func31 ?_
 unfold lO at h
 refine .d ?_
 obtain ⟨o5, ym, wS⟩ := bd h
 replace h := ym
 refine .cut (fun σ η => ∃ y1, ∃ l2, ∃ f3 : Nat → List PV, DR aC.D a0.length f3 l2 ∧ (y1, l2) = o5 ∧ σ = [(1, .int .i64 y1)] ∧ η = [.row g1000 6 a0.length 57 f3]) ?_ ?_
 refine .d ?_
 refine le (hU.partial_correctness a0 (motive := fun l8 aW bB o50 => ∀ f9 : Nat → List PV, DR aC.D a0.length f9 l8 → o5 = o50 → aB _ _ [(0, .own 0 g1000 0 a0.length), (1, .int .i64 aW), (5, .int .i64 bB)] [.row g1000 6 a0.length 57 f9]) ?_ a0 a1 0 o5 h ee cu rfl) (tk [0] ⟨(.od ahF), .i, .i, ⟨⟩⟩ ⟨(tg cu), ⟨⟩⟩)
 intro TJ sg l8 aW bB o50 h f9 d10 aa0
 subst aa0
 refine aB.round (.d (.d ⟨rfl, (sD h (fun eE h => ?_) (fun eE h => ?_))⟩))
 refine .d (.d (bk h fun du tP h => (bJ (bh tP) (bk h fun aX dK h => ?_))))
 obtain ⟨Ib, Qt, Me, zp, e24⟩ := aC.A8 (DR.idx d10 dK)
 refine ⟨rfl, DR.bd d10 dK, _, adX _, ⟨rfl, ⟨rfl, _, (bx f9 bB.toNat [.str du, .bf 2 aX.av.length 61 (row TParam.cells aX.av) Ib, .bf 2 aX.aM.length 61 (row TParam.cells aX.aM) Qt, .bf 1 aX.ay.length 9 (row cS aX.ay) Me, .bool aX.eN, .bf 5 aX.ax.length 64 (row aL.cells aX.ax) zp]), e24, sh ⟨.same _, .same _, .same _, .same _, .same _, .same _, trivial⟩, (.d (.ex [.row g1000 6 a0.length 57 (bx f9 bB.toNat [.str du, .own 1 0 0 aX.av.length, .bf 2 aX.aM.length 61 (row TParam.cells aX.aM) Qt, .bf 1 aX.ay.length 9 (row cS aX.ay) Me, .bool aX.eN, .bf 5 aX.ax.length 64 (row aL.cells aX.ax) zp]), .row 0 2 aX.av.length 61 (row TParam.cells aX.av)] (R8 0 1 [.str du, .bf 2 aX.av.length 61 (row TParam.cells aX.av) Ib, .bf 2 aX.aM.length 61 (row TParam.cells aX.aM) Qt, .bf 1 aX.ay.length 9 (row cS aX.ay) Me, .bool aX.eN, .bf 5 aX.ax.length 64 (row aL.cells aX.ax) zp] [.str du, .own 1 0 0 aX.av.length, .bf 2 aX.aM.length 61 (row TParam.cells aX.aM) Qt, .bf 1 aX.ay.length 9 (row cS aX.ay) Me, .bool aX.eN, .bf 5 aX.ax.length 64 (row aL.cells aX.ax) zp] (bx f9 bB.toNat [.str du, .own 1 0 0 aX.av.length, .bf 2 aX.aM.length 61 (row TParam.cells aX.aM) Qt, .bf 1 aX.ay.length 9 (row cS aX.ay) Me, .bool aX.eN, .bf 5 aX.ax.length 64 (row aL.cells aX.ax) zp]) (DR.lt d10 dK) aT aT eo rfl rfl rfl rfl) (.d ⟨rfl, DR.bd d10 dK, _, adX _, ⟨rfl, ⟨rfl, _, aT, ?_⟩⟩⟩)))⟩⟩⟩
 obtain ⟨⟨mq, pk⟩, MJ, h⟩ := bd h
 refine tR (tf (g1000 := 0) MJ DR.sq) [1] ⟨(KY DR.sq), ⟨⟩⟩ ?_
 rintro _ _ ⟨f28, d29, rfl, rfl⟩
 refine ⟨.int .i64 mq, [.row g1000 6 a0.length 57 (bx f9 bB.toNat [.str du, .own 1 0 0 aX.av.length, .bf 2 aX.aM.length 61 (row TParam.cells aX.aM) Qt, .bf 1 aX.ay.length 9 (row cS aX.ay) Me, .bool aX.eN, .bf 5 aX.ax.length 64 (row aL.cells aX.ax) zp]), .row 0 2 aX.av.length 61 f28], rfl, (by simp only [lN, eM, aec, aep, List.drop, As, adU, EB, red d29, red DR.sq]; rfl), (.ex [.row g1000 6 a0.length 57 (bx f9 bB.toNat [.str du, .own 1 0 0 aX.av.length, .own 2 0 0 aX.aM.length, .bf 1 aX.ay.length 9 (row cS aX.ay) Me, .bool aX.eN, .bf 5 aX.ax.length 64 (row aL.cells aX.ax) zp]), .row 0 2 aX.av.length 61 f28, .row 0 2 aX.aM.length 61 (row TParam.cells aX.aM)] (R8 0 2 [.str du, .own 1 0 0 aX.av.length, .bf 2 aX.aM.length 61 (row TParam.cells aX.aM) Qt, .bf 1 aX.ay.length 9 (row cS aX.ay) Me, .bool aX.eN, .bf 5 aX.ax.length 64 (row aL.cells aX.ax) zp] [.str du, .own 1 0 0 aX.av.length, .own 2 0 0 aX.aM.length, .bf 1 aX.ay.length 9 (row cS aX.ay) Me, .bool aX.eN, .bf 5 aX.ax.length 64 (row aL.cells aX.ax) zp] (bx f9 bB.toNat [.str du, .own 1 0 0 aX.av.length, .own 2 0 0 aX.aM.length, .bf 1 aX.ay.length 9 (row cS aX.ay) Me, .bool aX.eN, .bf 5 aX.ax.length 64 (row aL.cells aX.ax) zp]) (DR.lt d10 dK) aT aT eo rfl rfl rfl rfl) (.d ⟨rfl, DR.bd d10 dK, _, adX _, ⟨rfl, ⟨rfl, _, aT, ?_⟩⟩⟩))⟩
 obtain ⟨⟨v30, v31⟩, Ie, h⟩ := bd h
 refine tR (tf (g1000 := 0) Ie DR.sq) [2] ⟨(KY DR.sq), ⟨⟩⟩ ?_
 rintro _ _ ⟨f33, d34, rfl, rfl⟩
 refine ⟨.int .i64 v30, [.row g1000 6 a0.length 57 (bx f9 bB.toNat [.str du, .own 1 0 0 aX.av.length, .own 2 0 0 aX.aM.length, .bf 1 aX.ay.length 9 (row cS aX.ay) Me, .bool aX.eN, .bf 5 aX.ax.length 64 (row aL.cells aX.ax) zp]), .row 0 2 aX.av.length 61 f28, .row 0 2 aX.aM.length 61 f33], rfl, (by simp only [lN, eM, aec, aep, List.drop, As, adU, EB, red d34, red DR.sq]; rfl), (.ex [.row g1000 6 a0.length 57 (bx f9 bB.toNat [.str du, .own 1 0 0 aX.av.length, .own 2 0 0 aX.aM.length, .own 3 0 0 aX.ay.length, .bool aX.eN, .bf 5 aX.ax.length 64 (row aL.cells aX.ax) zp]), .row 0 2 aX.av.length 61 f28, .row 0 2 aX.aM.length 61 f33, .row 0 1 aX.ay.length 9 (row cS aX.ay)] (R8 0 3 [.str du, .own 1 0 0 aX.av.length, .own 2 0 0 aX.aM.length, .bf 1 aX.ay.length 9 (row cS aX.ay) Me, .bool aX.eN, .bf 5 aX.ax.length 64 (row aL.cells aX.ax) zp] [.str du, .own 1 0 0 aX.av.length, .own 2 0 0 aX.aM.length, .own 3 0 0 aX.ay.length, .bool aX.eN, .bf 5 aX.ax.length 64 (row aL.cells aX.ax) zp] (bx f9 bB.toNat [.str du, .own 1 0 0 aX.av.length, .own 2 0 0 aX.aM.length, .own 3 0 0 aX.ay.length, .bool aX.eN, .bf 5 aX.ax.length 64 (row aL.cells aX.ax) zp]) (DR.lt d10 dK) aT aT eo rfl rfl rfl rfl) (.d ⟨rfl, DR.bd d10 dK, _, adX _, ⟨rfl, ⟨rfl, _, aT, ?_⟩⟩⟩))⟩
 obtain ⟨⟨oz, qT⟩, TR, h⟩ := bd h
 refine tR (yn (g1000 := 0) TR DR.sq) [3] ⟨(KY DR.sq), ⟨⟩⟩ ?_
 rintro _ _ ⟨f38, d39, rfl, rfl⟩
 refine ⟨.int .i64 oz, [.row g1000 6 a0.length 57 (bx f9 bB.toNat [.str du, .own 1 0 0 aX.av.length, .own 2 0 0 aX.aM.length, .own 3 0 0 aX.ay.length, .bool aX.eN, .bf 5 aX.ax.length 64 (row aL.cells aX.ax) zp]), .row 0 2 aX.av.length 61 f28, .row 0 2 aX.aM.length 61 f33, .row 0 1 aX.ay.length 9 f38], rfl, (by simp only [lN, eM, aec, aep, List.drop, As, adU, EB, red d39, red DR.sq]; rfl), (.d ⟨by decide, ⟨rfl, DR.bd d10 dK, _, adX _, ⟨rfl, ⟨rfl, _, (bx f9 bB.toNat [.str du, .own 1 0 0 aX.av.length, .own 2 0 0 aX.aM.length, .own 3 0 0 aX.ay.length, .bool ((oz.tmod 3) == 0), .bf 5 aX.ax.length 64 (row aL.cells aX.ax) zp]), aT, eT ⟨.same _, .same _, .same _, .same _, .same _, .same _, trivial⟩, (.ex [.row g1000 6 a0.length 57 (bx f9 bB.toNat [.str du, .own 1 0 0 aX.av.length, .own 2 0 0 aX.aM.length, .own 3 0 0 aX.ay.length, .bool ((oz.tmod 3) == 0), .own 4 0 0 aX.ax.length]), .row 0 2 aX.av.length 61 f28, .row 0 2 aX.aM.length 61 f33, .row 0 1 aX.ay.length 9 f38, .row 0 5 aX.ax.length 64 (row aL.cells aX.ax)] (R8 0 5 [.str du, .own 1 0 0 aX.av.length, .own 2 0 0 aX.aM.length, .own 3 0 0 aX.ay.length, .bool ((oz.tmod 3) == 0), .bf 5 aX.ax.length 64 (row aL.cells aX.ax) zp] [.str du, .own 1 0 0 aX.av.length, .own 2 0 0 aX.aM.length, .own 3 0 0 aX.ay.length, .bool ((oz.tmod 3) == 0), .own 4 0 0 aX.ax.length] (bx f9 bB.toNat [.str du, .own 1 0 0 aX.av.length, .own 2 0 0 aX.aM.length, .own 3 0 0 aX.ay.length, .bool ((oz.tmod 3) == 0), .own 4 0 0 aX.ax.length]) (DR.lt d10 dK) aT aT eo rfl rfl rfl rfl) (.d ⟨rfl, DR.bd d10 dK, _, adX _, ⟨rfl, ⟨rfl, _, aT, ?_⟩⟩⟩))⟩⟩⟩⟩)⟩
 obtain ⟨⟨v40, pn⟩, Ba, h⟩ := bd h
 refine tR (CY (g1000 := 0) Ba DR.sq) [4] ⟨(KY DR.sq), ⟨⟩⟩ ?_
 rintro _ _ ⟨f43, d44, rfl, rfl⟩
 refine ⟨.int .i64 v40, [.row g1000 6 a0.length 57 (bx f9 bB.toNat [.str du, .own 1 0 0 aX.av.length, .own 2 0 0 aX.aM.length, .own 3 0 0 aX.ay.length, .bool ((oz.tmod 3) == 0), .own 4 0 0 aX.ax.length]), .row 0 2 aX.av.length 61 f28, .row 0 2 aX.aM.length 61 f33, .row 0 1 aX.ay.length 9 f38, .row 0 5 aX.ax.length 64 f43], rfl, (by simp only [lN, eM, aec, aep, List.drop, As, adU, EB, red d44, red DR.sq]; rfl), ?_⟩
 obtain rfl := DR.XS d29
 refine .ab 0 bB.toNat 1 1 (fun Dy => [.row g1000 6 a0.length 57 (bx f9 bB.toNat [.str du, .bf 2 aX.av.length 61 (row TParam.cells pk) Dy, .own 2 0 0 aX.aM.length, .own 3 0 0 aX.ay.length, .bool ((oz.tmod 3) == 0), .own 4 0 0 aX.ax.length]), .dead, .row 0 2 aX.aM.length 61 f33, .row 0 1 aX.ay.length 9 f38, .row 0 5 aX.ax.length 64 f43]) (fun Dy => tS [.str du, .own 1 0 0 aX.av.length, .own 2 0 0 aX.aM.length, .own 3 0 0 aX.ay.length, .bool ((oz.tmod 3) == 0), .own 4 0 0 aX.ax.length] [.str du, .bf 2 aX.av.length 61 (row TParam.cells pk) Dy, .own 2 0 0 aX.aM.length, .own 3 0 0 aX.ay.length, .bool ((oz.tmod 3) == 0), .own 4 0 0 aX.ax.length] (bx f9 bB.toNat [.str du, .bf 2 aX.av.length 61 (row TParam.cells pk) Dy, .own 2 0 0 aX.aM.length, .own 3 0 0 aX.ay.length, .bool ((oz.tmod 3) == 0), .own 4 0 0 aX.ax.length]) (DR.lt d10 dK) aT aT eo (d29).po rfl rfl rfl rfl ahx rfl) fun Dy => ?_
 obtain rfl := DR.XS d34
 refine .ab 0 bB.toNat 2 2 (fun HW => [.row g1000 6 a0.length 57 (bx f9 bB.toNat [.str du, .bf 2 aX.av.length 61 (row TParam.cells pk) Dy, .bf 2 aX.aM.length 61 (row TParam.cells v31) HW, .own 3 0 0 aX.ay.length, .bool ((oz.tmod 3) == 0), .own 4 0 0 aX.ax.length]), .dead, .dead, .row 0 1 aX.ay.length 9 f38, .row 0 5 aX.ax.length 64 f43]) (fun HW => tS [.str du, .bf 2 aX.av.length 61 (row TParam.cells pk) Dy, .own 2 0 0 aX.aM.length, .own 3 0 0 aX.ay.length, .bool ((oz.tmod 3) == 0), .own 4 0 0 aX.ax.length] [.str du, .bf 2 aX.av.length 61 (row TParam.cells pk) Dy, .bf 2 aX.aM.length 61 (row TParam.cells v31) HW, .own 3 0 0 aX.ay.length, .bool ((oz.tmod 3) == 0), .own 4 0 0 aX.ax.length] (bx f9 bB.toNat [.str du, .bf 2 aX.av.length 61 (row TParam.cells pk) Dy, .bf 2 aX.aM.length 61 (row TParam.cells v31) HW, .own 3 0 0 aX.ay.length, .bool ((oz.tmod 3) == 0), .own 4 0 0 aX.ax.length]) (DR.lt d10 dK) aT aT eo (d34).po rfl rfl rfl rfl ahx rfl) fun HW => ?_
 obtain rfl := DR.XS d39
 refine .ab 0 bB.toNat 3 3 (fun uQ => [.row g1000 6 a0.length 57 (bx f9 bB.toNat [.str du, .bf 2 aX.av.length 61 (row TParam.cells pk) Dy, .bf 2 aX.aM.length 61 (row TParam.cells v31) HW, .bf 1 aX.ay.length 9 (row cS qT) uQ, .bool ((oz.tmod 3) == 0), .own 4 0 0 aX.ax.length]), .dead, .dead, .dead, .row 0 5 aX.ax.length 64 f43]) (fun uQ => tS [.str du, .bf 2 aX.av.length 61 (row TParam.cells pk) Dy, .bf 2 aX.aM.length 61 (row TParam.cells v31) HW, .own 3 0 0 aX.ay.length, .bool ((oz.tmod 3) == 0), .own 4 0 0 aX.ax.length] [.str du, .bf 2 aX.av.length 61 (row TParam.cells pk) Dy, .bf 2 aX.aM.length 61 (row TParam.cells v31) HW, .bf 1 aX.ay.length 9 (row cS qT) uQ, .bool ((oz.tmod 3) == 0), .own 4 0 0 aX.ax.length] (bx f9 bB.toNat [.str du, .bf 2 aX.av.length 61 (row TParam.cells pk) Dy, .bf 2 aX.aM.length 61 (row TParam.cells v31) HW, .bf 1 aX.ay.length 9 (row cS qT) uQ, .bool ((oz.tmod 3) == 0), .own 4 0 0 aX.ax.length]) (DR.lt d10 dK) aT aT eo (d39).po rfl rfl rfl rfl ahx rfl) fun uQ => ?_
 obtain rfl := DR.XS d44
 refine .ab 0 bB.toNat 5 4 (fun zq => [.row g1000 6 a0.length 57 (bx f9 bB.toNat [.str du, .bf 2 aX.av.length 61 (row TParam.cells pk) Dy, .bf 2 aX.aM.length 61 (row TParam.cells v31) HW, .bf 1 aX.ay.length 9 (row cS qT) uQ, .bool ((oz.tmod 3) == 0), .bf 5 aX.ax.length 64 (row aL.cells pn) zq]), .dead, .dead, .dead, .dead]) (fun zq => tS [.str du, .bf 2 aX.av.length 61 (row TParam.cells pk) Dy, .bf 2 aX.aM.length 61 (row TParam.cells v31) HW, .bf 1 aX.ay.length 9 (row cS qT) uQ, .bool ((oz.tmod 3) == 0), .own 4 0 0 aX.ax.length] [.str du, .bf 2 aX.av.length 61 (row TParam.cells pk) Dy, .bf 2 aX.aM.length 61 (row TParam.cells v31) HW, .bf 1 aX.ay.length 9 (row cS qT) uQ, .bool ((oz.tmod 3) == 0), .bf 5 aX.ax.length 64 (row aL.cells pn) zq] (bx f9 bB.toNat [.str du, .bf 2 aX.av.length 61 (row TParam.cells pk) Dy, .bf 2 aX.aM.length 61 (row TParam.cells v31) HW, .bf 1 aX.ay.length 9 (row cS qT) uQ, .bool ((oz.tmod 3) == 0), .bf 5 aX.ax.length 64 (row aL.cells pn) zq]) (DR.lt d10 dK) aT aT eo (d44).po rfl rfl rfl rfl ahx rfl) fun zq => ?_
 have d49 : DR aC.D a0.length (bx f9 bB.toNat [.str du, .bf 2 aX.av.length 61 (row TParam.cells pk) Dy, .bf 2 aX.aM.length 61 (row TParam.cells v31) HW, .bf 1 aX.ay.length 9 (row cS qT) uQ, .bool ((oz.tmod 3) == 0), .bf 5 aX.ax.length 64 (row aL.cells pn) zq]) (l8.set bB.toNat (aC.mk du pk v31 qT ((oz.tmod 3) == 0) pn)) := DR.set d10 (kO dK) (aC.Ad (x := (aC.mk du pk v31 qT ((oz.tmod 3) == 0) pn)) d29.len d34.len d39.len d44.len : aC.D [.str du, .bf 2 aX.av.length 61 (row TParam.cells pk) Dy, .bf 2 aX.aM.length 61 (row TParam.cells v31) HW, .bf 1 aX.ay.length 9 (row cS qT) uQ, .bool ((oz.tmod 3) == 0), .bf 5 aX.ax.length 64 (row aL.cells pn) zq] (aC.mk du pk v31 qT ((oz.tmod 3) == 0) pn))
 exact lg (sg _ _ _ _ h (bx f9 bB.toNat [.str du, .bf 2 aX.av.length 61 (row TParam.cells pk) Dy, .bf 2 aX.aM.length 61 (row TParam.cells v31) HW, .bf 1 aX.ay.length 9 (row cS qT) uQ, .bool ((oz.tmod 3) == 0), .bf 5 aX.ax.length 64 (row aL.cells pn) zq]) d49 rfl) (tk [0] ⟨(.od ahL), .i, .i, ⟨⟩⟩ ⟨(tg d49), ⟨⟩⟩)
 exact agV
 rintro _ _ ⟨y1, l2, f3, d4, rfl, rfl, rfl⟩
 replace h := wS
 refine .d ?_
 exact agv
def iI (a0 : aN) (a1 : Int) : Option (Int × aN) :=
 lO a0.a6 a1 >>= fun (v1, v2) =>
 kQ a0.aJ v1 >>= fun (v6, v7) =>
 some (v6, (aN.mk v2 v7))
theorem yr {a0 : aN} {a1 : Int} {r : Int × aN} {g1000 : Nat} {g1001 : Nat} {bU : Nat} {Gp : Nat} {ee : Nat → List PV} {MK : Nat → List PV} (h : iI a0 a1 = some r) (cu : DR aC.D bU ee a0.a6) (J3 : DR aw.D Gp MK a0.aJ) : ACall Tryz.prog 11 [.agg [.own 0 g1000 0 bU, .own 1 g1001 0 Gp], .int .i64 a1] [.row g1000 6 bU 57 ee, .row g1001 4 Gp 68 MK] (fun res h => ∃ F0 : Nat → List PV, ∃ F1 : Nat → List PV, DR aC.D bU F0 r.2.a6 ∧ DR aw.D Gp F1 r.2.aJ ∧ res = .int .i64 r.1 ∧ h = [.row g1000 6 bU 57 F0, .row g1001 4 Gp 68 F1]) := by
 obtain rfl := cu.len
 obtain rfl := J3.len
 refine dx Tryz.func11 ?_
 unfold iI at h
 refine .d (.d ⟨rfl, ⟨rfl, _, rfl, ?_⟩⟩)
 obtain ⟨⟨v1, v2⟩, qs, h⟩ := bd h
 refine tR (A9 (g1000 := g1000) qs cu) [0] ⟨(KY cu), ⟨⟩⟩ ?_
 rintro _ _ ⟨f4, d5, rfl, rfl⟩
 refine ⟨.int .i64 v1, [.row g1000 6 a0.a6.length 57 f4, .row g1001 4 a0.aJ.length 68 MK, .row 0 2 1 33 (fun _ => [.own 0 g1000 0 a0.a6.length, .own 1 g1001 0 a0.aJ.length])], rfl, (by simp only [lN, eM, aec, aep, List.drop, As, adU, EB, red d5, red cu]; rfl), (.d ⟨rfl, ⟨rfl, _, rfl, ?_⟩⟩)⟩
 obtain ⟨⟨v6, v7⟩, TS, h⟩ := bd h
 refine tR (Ag (g1000 := g1001) TS J3) [1] ⟨(KY J3), ⟨⟩⟩ ?_
 rintro _ _ ⟨f9, d10, rfl, rfl⟩
 refine ⟨.int .i64 v6, [.row g1000 6 a0.a6.length 57 f4, .row g1001 4 a0.aJ.length 68 f9, .row 0 2 1 33 (fun _ => [.own 0 g1000 0 a0.a6.length, .own 1 g1001 0 a0.aJ.length])], rfl, (by simp only [lN, eM, aec, aep, List.drop, As, adU, EB, red d10, red J3]; rfl), (.d ?_)⟩
 obtain rfl := si h
 exact en [0, 1] ⟨f4, f9, d5, d10, rfl, rfl⟩ .i ⟨(tg d5), (tg d10), ⟨⟩⟩
set_option maxRecDepth 100000
def gu (a0 : List TParam) (y5 : Int) (y6 : Int) : Option ((Int) ⊕ Int) :=
 (if y6 < (a0.length : Int) then
 idx a0 y6 >>= fun th =>
 aR y5 >>= fun v12 =>
 (if th.az = v12 then
 idx a0 y6 >>= fun vu =>
 (if vu.Gi = (((ai (y5 + 1)).tmod 3) == 0) then
 gu a0 (ai ((ai (y5 + 1)) + 1)) (ai (y6 + 1))
 else
 some (.inr (-1)))
 else
 some (.inr (-1)))
 else
 some (.inl y5))
partial_fixpoint
def jy (a0 : List TParam) (a1 : Int) : Option (Int) :=
 ((
 gu a0 a1 0
 : Option ((Int) ⊕ Int)) >>= fun o2 => match o2 with
 | .inr r => some r
 | .inl y1 =>
 some y1
 )
theorem tj {a0 : List TParam} {a1 : Int} {r : Int} (h : jy a0 a1 = some r) : ACall Tryz.prog 81 [sl 2 TParam.cells a0, .int .i64 a1] [] (fun res h => res = .int .i64 r ∧ h = []) := by
 refine dx Tryz.func81 ?_
 unfold jy at h
 refine .d ?_
 obtain ⟨o2, mD, ft⟩ := bd h
 replace h := mD
 refine .cut (fun σ η => ∃ y1, .inl y1 = o2 ∧ σ = [(1, .int .i64 y1)] ∧ η = []) ?_ ?_
 refine .d ?_
 refine le (gu.partial_correctness a0 (motive := fun y5 y6 HX => o2 = HX → aB _ _ [(0, sl 2 TParam.cells a0), (1, .int .i64 y5), (5, .int .i64 y6)] []) ?_ a1 0 o2 h rfl) (tk [] ⟨.l, .i, .i, ⟨⟩⟩ ⟨⟩)
 intro F8 zr y5 y6 HX h ML
 subst ML
 refine aB.round (.d (.d (sD h (fun qu h => ?_) (fun qu h => ?_))))
 refine .d (.d (.d (.float [(0, true), (1, true), (2, true), (3, true), (4, true), (5, true), (6, false), (7, true)] ahA ?_)))
 refine bk h fun th nZ h => ⟨aK nZ, _, (aD nZ).trans (TParam.aA th), (bk h fun v12 tz h => (bJ (bh tz) (nq h (fun jd h => ?_) (fun jd h => ?_))))⟩
 refine .d ?_
 exact afU
 refine .d (.d (.d (bk h fun vu nE h => ⟨aK nE, _, (aD nE).trans (TParam.aA vu), ⟨by decide, (nq h (fun jO h => ?_) (fun jO h => ?_))⟩⟩)))
 refine .d ?_
 exact afU
 exact ahf
 exact agW
 exact afY
def fD (a0 : List aU) (y5 : Int) (y6 : Int) : Option ((Int) ⊕ Int) :=
 (if y6 < (a0.length : Int) then
 idx a0 y6 >>= fun th =>
 aR y5 >>= fun v12 =>
 (if th = v12 then
 fD a0 (ai (y5 + 1)) (ai (y6 + 1))
 else
 some (.inr (-1)))
 else
 some (.inl y5))
partial_fixpoint
def j9 (a0 : List aU) (a1 : Int) : Option (Int) :=
 ((
 fD a0 a1 0
 : Option ((Int) ⊕ Int)) >>= fun o2 => match o2 with
 | .inr r => some r
 | .inl y1 =>
 some y1
 )
theorem yt {a0 : List aU} {a1 : Int} {r : Int} (h : j9 a0 a1 = some r) : ACall Tryz.prog 82 [sl 1 cS a0, .int .i64 a1] [] (fun res h => res = .int .i64 r ∧ h = []) := by
 refine dx Tryz.func82 ?_
 unfold j9 at h
 refine .d ?_
 obtain ⟨o2, mD, ft⟩ := bd h
 replace h := mD
 refine .cut (fun σ η => ∃ y1, .inl y1 = o2 ∧ σ = [(1, .int .i64 y1)] ∧ η = []) ?_ ?_
 refine .d ?_
 refine le (fD.partial_correctness a0 (motive := fun y5 y6 o15 => o2 = o15 → aB _ _ [(0, sl 1 cS a0), (1, .int .i64 y5), (5, .int .i64 y6)] []) ?_ a1 0 o2 h rfl) (tk [] ⟨.l, .i, .i, ⟨⟩⟩ ⟨⟩)
 intro F8 zr y5 y6 o15 h aa1
 subst aa1
 refine aB.round (.d (.d (sD h (fun qu h => ?_) (fun qu h => ?_))))
 refine .d (.d (.d (.float [(0, true), (1, true), (2, true), (3, true), (4, true), (5, false), (6, true)] ahA ?_)))
 refine bk h fun th nZ h => ⟨aK nZ, _, (aD nZ).trans rfl, (bk h fun v12 tz h => (bJ (bh tz) (nq h (fun jd h => ?_) (fun jd h => ?_))))⟩
 refine .d ?_
 exact afU
 exact ahf
 exact agW
 exact afY
def iJ (a0 : List aL) (y5 : Int) (y6 : Int) : Option ((Int) ⊕ Int) :=
 (if y6 < (a0.length : Int) then
 idx a0 y6 >>= fun th =>
 (if th.a8 = y5 then
 idx a0 y6 >>= fun tL =>
 (if tL.fA = (ai (y5 + 1)) then
 idx a0 y6 >>= fun Gm =>
 (if Gm.fB = (ai ((ai (y5 + 1)) + 1)) then
 idx a0 y6 >>= fun Mz =>
 aR (ai ((ai ((ai (y5 + 1)) + 1)) + 1)) >>= fun v21 =>
 (if Mz.fS = v21 then
 idx a0 y6 >>= fun Qu =>
 aR (ai ((ai ((ai ((ai (y5 + 1)) + 1)) + 1)) + 1)) >>= fun pk =>
 (if Qu.fT = pk then
 iJ a0 (ai ((ai ((ai ((ai ((ai (y5 + 1)) + 1)) + 1)) + 1)) + 1)) (ai (y6 + 1))
 else
 some (.inr (-1)))
 else
 some (.inr (-1)))
 else
 some (.inr (-1)))
 else
 some (.inr (-1)))
 else
 some (.inr (-1)))
 else
 some (.inl y5))
partial_fixpoint
def mP (a0 : List aL) (a1 : Int) : Option (Int) :=
 ((
 iJ a0 a1 0
 : Option ((Int) ⊕ Int)) >>= fun o2 => match o2 with
 | .inr r => some r
 | .inl y1 =>
 some y1
 )
theorem CZ {a0 : List aL} {a1 : Int} {r : Int} (h : mP a0 a1 = some r) : ACall Tryz.prog 83 [sl 5 aL.cells a0, .int .i64 a1] [] (fun res h => res = .int .i64 r ∧ h = []) := by
 refine dx Tryz.func83 ?_
 unfold mP at h
 refine .d ?_
 obtain ⟨o2, mD, ft⟩ := bd h
 replace h := mD
 refine .cut (fun σ η => ∃ y1, .inl y1 = o2 ∧ σ = [(1, .int .i64 y1)] ∧ η = []) ?_ ?_
 refine .d ?_
 refine le (iJ.partial_correctness a0 (motive := fun y5 y6 o29 => o2 = o29 → aB _ _ [(0, sl 5 aL.cells a0), (1, .int .i64 y5), (5, .int .i64 y6)] []) ?_ a1 0 o2 h rfl) (tk [] ⟨.l, .i, .i, ⟨⟩⟩ ⟨⟩)
 intro F8 zr y5 y6 o29 h aa2
 subst aa2
 refine aB.round (.d (.d (sD h (fun qu h => ?_) (fun qu h => ?_))))
 refine .d (.d (.d (bk h fun th nZ h => ⟨aK nZ, _, (aD nZ).trans (aL.aA th), (sN h (fun me h => ?_) (fun me h => ?_))⟩)))
 refine .d ?_
 exact afU
 refine .d (.d (.d (bk h fun tL tT h => ⟨aK tT, _, (aD tT).trans (aL.aA tL), (sN h (fun eE h => ?_) (fun eE h => ?_))⟩)))
 refine .d ?_
 exact afU
 refine .d (.d (.d (bk h fun Gm oS h => ⟨aK oS, _, (aD oS).trans (aL.aA Gm), (sN h (fun lG h => ?_) (fun lG h => ?_))⟩)))
 refine .d ?_
 exact afU
 refine .d (.d (.d (.float [(0, true), (1, true), (2, true), (3, true), (4, true), (5, true), (6, false), (7, true)] ahA ?_)))
 refine bk h fun Mz wa h => ⟨aK wa, _, (aD wa).trans (aL.aA Mz), (bk h fun v21 MM h => (bJ (bh MM) (nq h (fun oT h => ?_) (fun oT h => ?_))))⟩
 refine .d ?_
 exact afU
 refine .d (.d (.d (.float [(0, true), (1, true), (2, true), (3, true), (4, true), (5, true), (6, false), (7, true)] ahA ?_)))
 refine bk h fun Qu EC h => ⟨aK EC, _, (aD EC).trans (aL.aA Qu), (bk h fun pk MJ h => (bJ (bh MJ) (nq h (fun pD h => ?_) (fun pD h => ?_))))⟩
 refine .d ?_
 exact afU
 exact ahf
 exact agW
 exact afY
def fE (a0 : List aj) (y5 : Int) (y6 : Int) : Option ((Int) ⊕ Int) :=
 (if y6 < (a0.length : Int) then
 idx a0 y6 >>= fun th =>
 aR y5 >>= fun v12 =>
 (if th.az = v12 then
 idx a0 y6 >>= fun vu =>
 aR (ai (y5 + 1)) >>= fun rX =>
 (if vu.jv = rX then
 idx a0 y6 >>= fun we =>
 aR (ai ((ai (y5 + 1)) + 1)) >>= fun oO =>
 (if we.nB = oO then
 idx a0 y6 >>= fun Bb =>
 (if Bb.ed = (((ai ((ai ((ai (y5 + 1)) + 1)) + 1)).tmod 3) == 0) then
 idx a0 y6 >>= fun MN =>
 (if MN.mL = (((ai ((ai ((ai ((ai (y5 + 1)) + 1)) + 1)) + 1)).tmod 3) == 0) then
 fE a0 (ai ((ai ((ai ((ai ((ai (y5 + 1)) + 1)) + 1)) + 1)) + 1)) (ai (y6 + 1))
 else
 some (.inr (-1)))
 else
 some (.inr (-1)))
 else
 some (.inr (-1)))
 else
 some (.inr (-1)))
 else
 some (.inr (-1)))
 else
 some (.inl y5))
partial_fixpoint
def ka (a0 : List aj) (a1 : Int) : Option (Int) :=
 ((
 fE a0 a1 0
 : Option ((Int) ⊕ Int)) >>= fun o2 => match o2 with
 | .inr r => some r
 | .inl y1 =>
 some y1
 )
theorem yu {a0 : List aj} {a1 : Int} {r : Int} (h : ka a0 a1 = some r) : ACall Tryz.prog 85 [sl 5 aj.cells a0, .int .i64 a1] [] (fun res h => res = .int .i64 r ∧ h = []) := by
 refine dx Tryz.func85 ?_
 unfold ka at h
 refine .d ?_
 obtain ⟨o2, mD, ft⟩ := bd h
 replace h := mD
 refine .cut (fun σ η => ∃ y1, .inl y1 = o2 ∧ σ = [(1, .int .i64 y1)] ∧ η = []) ?_ ?_
 refine .d ?_
 refine le (fE.partial_correctness a0 (motive := fun y5 y6 Mf => o2 = Mf → aB _ _ [(0, sl 5 aj.cells a0), (1, .int .i64 y5), (5, .int .i64 y6)] []) ?_ a1 0 o2 h rfl) (tk [] ⟨.l, .i, .i, ⟨⟩⟩ ⟨⟩)
 intro F8 zr y5 y6 Mf h TT
 subst TT
 refine aB.round (.d (.d (sD h (fun qu h => ?_) (fun qu h => ?_))))
 refine .d (.d (.d (.float [(0, true), (1, true), (2, true), (3, true), (4, true), (5, true), (6, false), (7, true)] ahA ?_)))
 refine bk h fun th nZ h => ⟨aK nZ, _, (aD nZ).trans (aj.aA th), (bk h fun v12 tz h => (bJ (bh tz) (nq h (fun jd h => ?_) (fun jd h => ?_))))⟩
 refine .d ?_
 exact afU
 refine .d (.d (.d (.float [(0, true), (1, true), (2, true), (3, true), (4, true), (5, true), (6, false), (7, true)] ahA ?_)))
 refine bk h fun vu nE h => ⟨aK nE, _, (aD nE).trans (aj.aA vu), (bk h fun rX yv h => (bJ (bh yv) (nq h (fun lH h => ?_) (fun lH h => ?_))))⟩
 refine .d ?_
 exact afU
 refine .d (.d (.d (.float [(0, true), (1, true), (2, true), (3, true), (4, true), (5, true), (6, false), (7, true)] ahA ?_)))
 refine bk h fun we oD h => ⟨aK oD, _, (aD oD).trans (aj.aA we), (bk h fun oO yp h => (bJ (bh yp) (nq h (fun oU h => ?_) (fun oU h => ?_))))⟩
 refine .d ?_
 exact afU
 refine .d (.d (.d (bk h fun Bb rA h => ⟨aK rA, _, (aD rA).trans (aj.aA Bb), ⟨by decide, (nq h (fun n7 h => ?_) (fun n7 h => ?_))⟩⟩)))
 refine .d ?_
 exact afU
 refine .d (.d (.d (bk h fun MN Gq h => ⟨aK Gq, _, (aD Gq).trans (aj.aA MN), ⟨by decide, (nq h (fun qU h => ?_) (fun qU h => ?_))⟩⟩)))
 refine .d ?_
 exact afU
 exact ahf
 exact agW
 exact afY
def jz (a0 : List UInt8) (y5 : Int) (y6 : Int) : Option ((Int) ⊕ Int) :=
 (if y6 < (a0.length : Int) then
 idx a0 y6 >>= fun c10 =>
 (if (c10.toNat : Int) = (IntKind.u8.wrap (y5)) then
 jz a0 (ai (y5 + 1)) (ai (y6 + 1))
 else
 some (.inr (-1)))
 else
 some (.inl y5))
partial_fixpoint
def vF (a0 : List UInt8) (a1 : Int) : Option (Int) :=
 ((
 jz a0 a1 0
 : Option ((Int) ⊕ Int)) >>= fun o2 => match o2 with
 | .inr r => some r
 | .inl y1 =>
 some y1
 )
mutual
def ik (a0 : List ae) (a1 : Int) : Option (Int) :=
 ((
 eV a0 a1 0
 : Option ((Int) ⊕ Int)) >>= fun o2 => match o2 with
 | .inr r => some r
 | .inl y1 =>
 some y1
 )
partial_fixpoint
def eV (a0 : List ae) (y5 : Int) (y6 : Int) : Option ((Int) ⊕ Int) :=
 (if y6 < (a0.length : Int) then
 idx a0 y6 >>= fun qq =>
 (if qq.bm.df = ((y5.tmod 3) == 0) then
 idx a0 y6 >>= fun K0 =>
 (if K0.bm.aP = (ai (y5 + 1)) then
 idx a0 y6 >>= fun ns =>
 aR (ai ((ai (y5 + 1)) + 1)) >>= fun zt =>
 (if ns.bm.aQ = zt then
 idx a0 y6 >>= fun Qv =>
 (if Qv.aY.aF = (ai ((ai ((ai (y5 + 1)) + 1)) + 1)) then
 idx a0 y6 >>= fun Bb =>
 (if Bb.aY.aP = (ai ((ai ((ai ((ai (y5 + 1)) + 1)) + 1)) + 1)) then
 idx a0 y6 >>= fun MN =>
 aR (ai ((ai ((ai ((ai ((ai (y5 + 1)) + 1)) + 1)) + 1)) + 1)) >>= fun v30 =>
 (if MN.aY.aQ = v30 then
 idx a0 y6 >>= fun Gr =>
 (if Gr.aY.aO = (ai ((ai ((ai ((ai ((ai ((ai (y5 + 1)) + 1)) + 1)) + 1)) + 1)) + 1)) then
 idx a0 y6 >>= fun TU =>
 ik TU.aY.af (ai ((ai ((ai ((ai ((ai ((ai ((ai (y5 + 1)) + 1)) + 1)) + 1)) + 1)) + 1)) + 1)) >>= fun ED =>
 (if ED < 0 then
 some (.inr (-1))
 else
 eV a0 ED (ai (y6 + 1)))
 else
 some (.inr (-1)))
 else
 some (.inr (-1)))
 else
 some (.inr (-1)))
 else
 some (.inr (-1)))
 else
 some (.inr (-1)))
 else
 some (.inr (-1)))
 else
 some (.inr (-1)))
 else
 some (.inl y5))
partial_fixpoint
end
def EE (a0 : List ae) (a1 : Int) (r : Int) : Prop := ACall Tryz.prog 127 [sl 8 ae.cells a0, .int .i64 a1] [] (fun res h => res = .int .i64 r ∧ h = [])
inductive dS : (List ae) → Int → Int → ((Int) ⊕ Int) → Prop
 | mk (MO : (List ae) → Int → Option (Int)) (XT : ∀ a0 a1 r, MO a0 a1 = some r → EE a0 a1 r) (fh : (List ae) → Int → Int → Option ((Int) ⊕ Int)) (tU : ∀ a0 y5 y6 o, fh a0 y5 y6 = some o → dS a0 y5 y6 o) (a0 : List ae) (y5 : Int) (y6 : Int) (o : (Int) ⊕ Int) (h : (
 (if y6 < (a0.length : Int) then
 idx a0 y6 >>= fun qq =>
 (if qq.bm.df = ((y5.tmod 3) == 0) then
 idx a0 y6 >>= fun K0 =>
 (if K0.bm.aP = (ai (y5 + 1)) then
 idx a0 y6 >>= fun ns =>
 aR (ai ((ai (y5 + 1)) + 1)) >>= fun zt =>
 (if ns.bm.aQ = zt then
 idx a0 y6 >>= fun Qv =>
 (if Qv.aY.aF = (ai ((ai ((ai (y5 + 1)) + 1)) + 1)) then
 idx a0 y6 >>= fun Bb =>
 (if Bb.aY.aP = (ai ((ai ((ai ((ai (y5 + 1)) + 1)) + 1)) + 1)) then
 idx a0 y6 >>= fun MN =>
 aR (ai ((ai ((ai ((ai ((ai (y5 + 1)) + 1)) + 1)) + 1)) + 1)) >>= fun v30 =>
 (if MN.aY.aQ = v30 then
 idx a0 y6 >>= fun Gr =>
 (if Gr.aY.aO = (ai ((ai ((ai ((ai ((ai ((ai (y5 + 1)) + 1)) + 1)) + 1)) + 1)) + 1)) then
 idx a0 y6 >>= fun TU =>
 MO TU.aY.af (ai ((ai ((ai ((ai ((ai ((ai ((ai (y5 + 1)) + 1)) + 1)) + 1)) + 1)) + 1)) + 1)) >>= fun ED =>
 (if ED < 0 then
 some (.inr (-1))
 else
 fh a0 ED (ai (y6 + 1)))
 else
 some (.inr (-1)))
 else
 some (.inr (-1)))
 else
 some (.inr (-1)))
 else
 some (.inr (-1)))
 else
 some (.inr (-1)))
 else
 some (.inr (-1)))
 else
 some (.inr (-1)))
 else
 some (.inl y5))
 ) = some o) : dS a0 y5 y6 o
theorem tB {motive : (List ae) → Int → Int → ((Int) ⊕ Int) → Prop} (step : ∀ (MO : (List ae) → Int → Option (Int)) (XT : ∀ a0 a1 r, MO a0 a1 = some r → EE a0 a1 r) (fh : (List ae) → Int → Int → Option ((Int) ⊕ Int)) (tU : ∀ a0 y5 y6 o, fh a0 y5 y6 = some o → dS a0 y5 y6 o) (a0 : List ae) (y5 : Int) (y6 : Int) (o : (Int) ⊕ Int) (h : (
 (if y6 < (a0.length : Int) then
 idx a0 y6 >>= fun qq =>
 (if qq.bm.df = ((y5.tmod 3) == 0) then
 idx a0 y6 >>= fun K0 =>
 (if K0.bm.aP = (ai (y5 + 1)) then
 idx a0 y6 >>= fun ns =>
 aR (ai ((ai (y5 + 1)) + 1)) >>= fun zt =>
 (if ns.bm.aQ = zt then
 idx a0 y6 >>= fun Qv =>
 (if Qv.aY.aF = (ai ((ai ((ai (y5 + 1)) + 1)) + 1)) then
 idx a0 y6 >>= fun Bb =>
 (if Bb.aY.aP = (ai ((ai ((ai ((ai (y5 + 1)) + 1)) + 1)) + 1)) then
 idx a0 y6 >>= fun MN =>
 aR (ai ((ai ((ai ((ai ((ai (y5 + 1)) + 1)) + 1)) + 1)) + 1)) >>= fun v30 =>
 (if MN.aY.aQ = v30 then
 idx a0 y6 >>= fun Gr =>
 (if Gr.aY.aO = (ai ((ai ((ai ((ai ((ai ((ai (y5 + 1)) + 1)) + 1)) + 1)) + 1)) + 1)) then
 idx a0 y6 >>= fun TU =>
 MO TU.aY.af (ai ((ai ((ai ((ai ((ai ((ai ((ai (y5 + 1)) + 1)) + 1)) + 1)) + 1)) + 1)) + 1)) >>= fun ED =>
 (if ED < 0 then
 some (.inr (-1))
 else
 fh a0 ED (ai (y6 + 1)))
 else
 some (.inr (-1)))
 else
 some (.inr (-1)))
 else
 some (.inr (-1)))
 else
 some (.inr (-1)))
 else
 some (.inr (-1)))
 else
 some (.inr (-1)))
 else
 some (.inr (-1)))
 else
 some (.inl y5))
 ) = some o) (ih : ∀ a0 y5 y6 o, fh a0 y5 y6 = some o → motive a0 y5 y6 o), motive a0 y5 y6 o) : ∀ a0 y5 y6 o, dS a0 y5 y6 o → motive a0 y5 y6 o :=
 fun a0 y5 y6 o h => dS.rec (motive := fun a0 y5 y6 o _ => motive a0 y5 y6 o) step h
theorem w8 : (∀ a0 a1 r, ik a0 a1 = some r → EE a0 a1 r) ∧ (∀ a0 y5 y6 o, eV a0 y5 y6 = some o → dS a0 y5 y6 o) := by
 refine ik.mutual_partial_correctness EE dS ?_ ?_
 intro _ aa3 a0 a1 r h
 refine dx Tryz.func127 ?_
 refine .d ?_
 obtain ⟨o2, mD, ft⟩ := bd h
 replace h := mD
 refine .cut (fun σ η => ∃ y1, .inl y1 = o2 ∧ σ = [(1, .int .i64 y1)] ∧ η = []) ?_ ?_
 refine .d ?_
 have aa4 := aa3 _ _ _ _ h
 refine le (tB (motive := fun p43 y5 y6 o41 => a0 = p43 → o2 = o41 → aB _ _ [(0, sl 8 ae.cells a0), (1, .int .i64 y5), (5, .int .i64 y6)] []) ?_ a0 a1 0 o2 aa4 rfl rfl) (tk [] ⟨.l, .i, .i, ⟨⟩⟩ ⟨⟩)
 intro _ hG9 _ _ p43 y5 y6 o41 h zr  TV aa5
 subst TV
 subst aa5
 refine aB.round (.d (.d (sD h (fun iy h => ?_) (fun iy h => ?_))))
 refine .d (.d (.d (bk h fun qq iB h => ⟨aK iB, _, (aD iB).trans (ae.aA qq), ⟨by decide, (nq h (fun kM h => ?_) (fun kM h => ?_))⟩⟩)))
 refine .d ?_
 exact afU
 refine .d (.d (.d (bk h fun K0 qe h => ⟨aK qe, _, (aD qe).trans (ae.aA K0), (sN h (fun kz h => ?_) (fun kz h => ?_))⟩)))
 refine .d ?_
 exact afU
 refine .d (.d (.d (.float [(0, true), (1, true), (2, true), (3, true), (4, true), (5, true), (6, true), (7, false), (8, true)] ahA ?_)))
 refine bk h fun ns sj h => ⟨aK sj, _, (aD sj).trans (ae.aA ns), (bk h fun zt EF h => (bJ (bh EF) (nq h (fun pE h => ?_) (fun pE h => ?_))))⟩
 refine .d ?_
 exact afU
 refine .d (.d (.d (bk h fun Qv K1 h => ⟨aK K1, _, (aD K1).trans (ae.aA Qv), (sN h (fun oU h => ?_) (fun oU h => ?_))⟩)))
 refine .d ?_
 exact afU
 refine .d (.d (.d (bk h fun Bb rA h => ⟨aK rA, _, (aD rA).trans (ae.aA Bb), (sN h (fun n7 h => ?_) (fun n7 h => ?_))⟩)))
 refine .d ?_
 exact afU
 refine .d (.d (.d (.float [(0, true), (1, true), (2, true), (3, true), (4, true), (5, true), (6, true), (7, false), (8, true)] ahA ?_)))
 refine bk h fun MN Gq h => ⟨aK Gq, _, (aD Gq).trans (ae.aA MN), (bk h fun v30 Ig h => (bJ (bh Ig) (nq h (fun wg h => ?_) (fun wg h => ?_))))⟩
 refine .d ?_
 exact afU
 refine .d (.d (.d (bk h fun Gr Ah h => ⟨aK Ah, _, (aD Ah).trans (ae.aA Gr), (sN h (fun MP h => ?_) (fun MP h => ?_))⟩)))
 refine .d ?_
 exact afU
 refine .d (.d (bk h fun TU MQ h => ⟨aK MQ, _, (aD MQ).trans (ae.aA TU), (bk h fun ED TW h => (bJ (hG9 _ _ _ TW) (.d (sD h (fun sr h => ?_) (fun sr h => ?_)))))⟩))
 refine .d ?_
 exact afU
 exact lg (zr _ _ _ _ h rfl rfl) (tk [] ⟨.l, .i, .i, ⟨⟩⟩ ⟨⟩)
 exact agW
 exact afY
 intro F0 F1 CS CT a0 y5 y6 o h
 exact .mk F0 CS F1 CT a0 y5 y6 o h
theorem Ai {a0 : List ae} {a1 : Int} {r : Int} (h : ik a0 a1 = some r) : ACall Tryz.prog 127 [sl 8 ae.cells a0, .int .i64 a1] [] (fun res h => res = .int .i64 r ∧ h = []) := w8.1 a0 a1 r h
def gv (a0 : List au) (y5 : Int) (y6 : Int) : Option ((Int) ⊕ Int) :=
 (if y6 < (a0.length : Int) then
 idx a0 y6 >>= fun th =>
 aR y5 >>= fun v12 =>
 (if th.az = v12 then
 idx a0 y6 >>= fun vu =>
 aR (ai (y5 + 1)) >>= fun rX =>
 (if vu.jv = rX then
 idx a0 y6 >>= fun we =>
 (if we.ed = (((ai ((ai (y5 + 1)) + 1)).tmod 3) == 0) then
 idx a0 y6 >>= fun TX =>
 (if TX.bc.aF = (ai ((ai ((ai (y5 + 1)) + 1)) + 1)) then
 idx a0 y6 >>= fun TY =>
 (if TY.bc.aP = (ai ((ai ((ai ((ai (y5 + 1)) + 1)) + 1)) + 1)) then
 idx a0 y6 >>= fun x29 =>
 aR (ai ((ai ((ai ((ai ((ai (y5 + 1)) + 1)) + 1)) + 1)) + 1)) >>= fun v31 =>
 (if x29.bc.aQ = v31 then
 idx a0 y6 >>= fun x34 =>
 (if x34.bc.aO = (ai ((ai ((ai ((ai ((ai ((ai (y5 + 1)) + 1)) + 1)) + 1)) + 1)) + 1)) then
 idx a0 y6 >>= fun W5 =>
 ik W5.bc.af (ai ((ai ((ai ((ai ((ai ((ai ((ai (y5 + 1)) + 1)) + 1)) + 1)) + 1)) + 1)) + 1)) >>= fun K2 =>
 (if K2 < 0 then
 some (.inr (-1))
 else
 gv a0 K2 (ai (y6 + 1)))
 else
 some (.inr (-1)))
 else
 some (.inr (-1)))
 else
 some (.inr (-1)))
 else
 some (.inr (-1)))
 else
 some (.inr (-1)))
 else
 some (.inr (-1)))
 else
 some (.inr (-1)))
 else
 some (.inl y5))
partial_fixpoint
def kR (a0 : List au) (a1 : Int) : Option (Int) :=
 ((
 gv a0 a1 0
 : Option ((Int) ⊕ Int)) >>= fun o2 => match o2 with
 | .inr r => some r
 | .inl y1 =>
 some y1
 )
theorem Aj {a0 : List au} {a1 : Int} {r : Int} (h : kR a0 a1 = some r) : ACall Tryz.prog 84 [sl 8 au.cells a0, .int .i64 a1] [] (fun res h => res = .int .i64 r ∧ h = []) := by
 refine dx Tryz.func84 ?_
 unfold kR at h
 refine .d ?_
 obtain ⟨o2, mD, ft⟩ := bd h
 replace h := mD
 refine .cut (fun σ η => ∃ y1, .inl y1 = o2 ∧ σ = [(1, .int .i64 y1)] ∧ η = []) ?_ ?_
 refine .d ?_
 refine le (gv.partial_correctness a0 (motive := fun y5 y6 Gd => o2 = Gd → aB _ _ [(0, sl 8 au.cells a0), (1, .int .i64 y5), (5, .int .i64 y6)] []) ?_ a1 0 o2 h rfl) (tk [] ⟨.l, .i, .i, ⟨⟩⟩ ⟨⟩)
 intro F8 zr y5 y6 Gd h aa6
 subst aa6
 refine aB.round (.d (.d (sD h (fun qu h => ?_) (fun qu h => ?_))))
 refine .d (.d (.d (.float [(0, true), (1, true), (2, true), (3, true), (4, true), (5, true), (6, false), (7, true)] ahA ?_)))
 refine bk h fun th nZ h => ⟨aK nZ, _, (aD nZ).trans (au.aA th), (bk h fun v12 tz h => (bJ (bh tz) (nq h (fun jd h => ?_) (fun jd h => ?_))))⟩
 refine .d ?_
 exact afU
 refine .d (.d (.d (.float [(0, true), (1, true), (2, true), (3, true), (4, true), (5, true), (6, false), (7, true)] ahA ?_)))
 refine bk h fun vu nE h => ⟨aK nE, _, (aD nE).trans (au.aA vu), (bk h fun rX yv h => (bJ (bh yv) (nq h (fun lH h => ?_) (fun lH h => ?_))))⟩
 refine .d ?_
 exact afU
 refine .d (.d (.d (bk h fun we oD h => ⟨aK oD, _, (aD oD).trans (au.aA we), ⟨by decide, (nq h (fun kS h => ?_) (fun kS h => ?_))⟩⟩)))
 refine .d ?_
 exact afU
 refine .d (.d (.d (bk h fun TX MR h => ⟨aK MR, _, (aD MR).trans (au.aA TX), (sN h (fun ny h => ?_) (fun ny h => ?_))⟩)))
 refine .d ?_
 exact afU
 refine .d (.d (.d (bk h fun TY EG h => ⟨aK EG, _, (aD EG).trans (au.aA TY), (sN h (fun pD h => ?_) (fun pD h => ?_))⟩)))
 refine .d ?_
 exact afU
 refine .d (.d (.d (.float [(0, true), (1, true), (2, true), (3, true), (4, true), (5, true), (6, true), (7, false), (8, true)] ahA ?_)))
 refine bk h fun x29 EH h => ⟨aK EH, _, (aD EH).trans (au.aA x29), (bk h fun v31 Ie h => (bJ (bh Ie) (nq h (fun yw h => ?_) (fun yw h => ?_))))⟩
 refine .d ?_
 exact afU
 refine .d (.d (.d (bk h fun x34 XU h => ⟨aK XU, _, (aD XU).trans (au.aA x34), (sN h (fun EI h => ?_) (fun EI h => ?_))⟩)))
 refine .d ?_
 exact afU
 refine .d (.d (bk h fun W5 Gs h => ⟨aK Gs, _, (aD Gs).trans (au.aA W5), (bk h fun K2 TZ h => (bJ (Ai TZ) (.d (sD h (fun yx h => ?_) (fun yx h => ?_)))))⟩))
 refine .d ?_
 exact afU
 exact ahf
 exact agW
 exact afY
def gw (a0 : List aw) (y5 : Int) (y6 : Int) : Option ((Int) ⊕ Int) :=
 (if y6 < (a0.length : Int) then
 idx a0 y6 >>= fun th =>
 aR y5 >>= fun v12 =>
 (if th.az = v12 then
 idx a0 y6 >>= fun vu =>
 aR (ai (y5 + 1)) >>= fun rX =>
 (if vu.dp = rX then
 idx a0 y6 >>= fun we =>
 kR we.aH (ai ((ai (y5 + 1)) + 1)) >>= fun oO =>
 (if oO < 0 then
 some (.inr (-1))
 else
 idx a0 y6 >>= fun Bb =>
 ka Bb.aE oO >>= fun lz =>
 (if lz < 0 then
 some (.inr (-1))
 else
 gw a0 lz (ai (y6 + 1))))
 else
 some (.inr (-1)))
 else
 some (.inr (-1)))
 else
 some (.inl y5))
partial_fixpoint
def kU (a0 : List aw) (a1 : Int) : Option (Int) :=
 ((
 gw a0 a1 0
 : Option ((Int) ⊕ Int)) >>= fun o2 => match o2 with
 | .inr r => some r
 | .inl y1 =>
 some y1
 )
theorem Ak {a0 : List aw} {a1 : Int} {r : Int} (h : kU a0 a1 = some r) : ACall Tryz.prog 40 [sl 4 aw.cells a0, .int .i64 a1] [] (fun res h => res = .int .i64 r ∧ h = []) := by
 refine dx Tryz.func40 ?_
 unfold kU at h
 refine .d ?_
 obtain ⟨o2, mD, ft⟩ := bd h
 replace h := mD
 refine .cut (fun σ η => ∃ y1, .inl y1 = o2 ∧ σ = [(1, .int .i64 y1)] ∧ η = []) ?_ ?_
 refine .d ?_
 refine le (gw.partial_correctness a0 (motive := fun y5 y6 o30 => o2 = o30 → aB _ _ [(0, sl 4 aw.cells a0), (1, .int .i64 y5), (5, .int .i64 y6)] []) ?_ a1 0 o2 h rfl) (tk [] ⟨.l, .i, .i, ⟨⟩⟩ ⟨⟩)
 intro F8 zr y5 y6 o30 h aa7
 subst aa7
 refine aB.round (.d (.d (sD h (fun qu h => ?_) (fun qu h => ?_))))
 refine .d (.d (.d (.float [(0, true), (1, true), (2, true), (3, true), (4, true), (5, true), (6, false), (7, true)] ahA ?_)))
 refine bk h fun th nZ h => ⟨aK nZ, _, (aD nZ).trans (aw.aA th), (bk h fun v12 tz h => (bJ (bh tz) (nq h (fun jd h => ?_) (fun jd h => ?_))))⟩
 refine .d ?_
 exact afU
 refine .d (.d (.d (.float [(0, true), (1, true), (2, true), (3, true), (4, true), (5, true), (6, false), (7, true)] ahA ?_)))
 refine bk h fun vu nE h => ⟨aK nE, _, (aD nE).trans (aw.aA vu), (bk h fun rX yv h => (bJ (bh yv) (nq h (fun lH h => ?_) (fun lH h => ?_))))⟩
 refine .d ?_
 exact afU
 refine .d (.d (bk h fun we oD h => ⟨aK oD, _, (aD oD).trans (aw.aA we), (bk h fun oO yp h => (bJ (Aj yp) (.d (.d (sD h (fun oU h => ?_) (fun oU h => ?_))))))⟩))
 refine .d ?_
 exact afU
 refine .d (bk h fun Bb rA h => ⟨aK rA, _, (aD rA).trans (aw.aA Bb), (bk h fun lz Ih h => (bJ (yu Ih) (.d (sD h (fun qV h => ?_) (fun qV h => ?_)))))⟩)
 refine .d ?_
 exact afU
 exact ahf
 exact agW
 exact afY
def hZ (a0 : List aC) (y5 : Int) (y6 : Int) : Option ((Int) ⊕ Int) :=
 (if y6 < (a0.length : Int) then
 idx a0 y6 >>= fun th =>
 aR y5 >>= fun v12 =>
 (if th.az = v12 then
 idx a0 y6 >>= fun vu =>
 jy vu.av (ai (y5 + 1)) >>= fun rX =>
 (if rX < 0 then
 some (.inr (-1))
 else
 idx a0 y6 >>= fun we =>
 jy we.aM rX >>= fun oO =>
 (if oO < 0 then
 some (.inr (-1))
 else
 idx a0 y6 >>= fun Bb =>
 j9 Bb.ay oO >>= fun lz =>
 (if lz < 0 then
 some (.inr (-1))
 else
 idx a0 y6 >>= fun Sa =>
 (if Sa.eN = ((lz.tmod 3) == 0) then
 idx a0 y6 >>= fun Gr =>
 mP Gr.ax (ai (lz + 1)) >>= fun oz =>
 (if oz < 0 then
 some (.inr (-1))
 else
 hZ a0 oz (ai (y6 + 1)))
 else
 some (.inr (-1))))))
 else
 some (.inr (-1)))
 else
 some (.inl y5))
partial_fixpoint
def lP (a0 : List aC) (a1 : Int) : Option (Int) :=
 ((
 hZ a0 a1 0
 : Option ((Int) ⊕ Int)) >>= fun o2 => match o2 with
 | .inr r => some r
 | .inl y1 =>
 some y1
 )
theorem Bc {a0 : List aC} {a1 : Int} {r : Int} (h : lP a0 a1 = some r) : ACall Tryz.prog 39 [sl 6 aC.cells a0, .int .i64 a1] [] (fun res h => res = .int .i64 r ∧ h = []) := by
 refine dx Tryz.func39 ?_
 unfold lP at h
 refine .d ?_
 obtain ⟨o2, mD, ft⟩ := bd h
 replace h := mD
 refine .cut (fun σ η => ∃ y1, .inl y1 = o2 ∧ σ = [(1, .int .i64 y1)] ∧ η = []) ?_ ?_
 refine .d ?_
 refine le (hZ.partial_correctness a0 (motive := fun y5 y6 Sb => o2 = Sb → aB _ _ [(0, sl 6 aC.cells a0), (1, .int .i64 y5), (5, .int .i64 y6)] []) ?_ a1 0 o2 h rfl) (tk [] ⟨.l, .i, .i, ⟨⟩⟩ ⟨⟩)
 intro F8 zr y5 y6 Sb h aa8
 subst aa8
 refine aB.round (.d (.d (sD h (fun qu h => ?_) (fun qu h => ?_))))
 refine .d (.d (.d (.float [(0, true), (1, true), (2, true), (3, true), (4, true), (5, true), (6, false), (7, true)] ahA ?_)))
 refine bk h fun th nZ h => ⟨aK nZ, _, (aD nZ).trans (aC.aA th), (bk h fun v12 tz h => (bJ (bh tz) (nq h (fun jd h => ?_) (fun jd h => ?_))))⟩
 refine .d ?_
 exact afU
 refine .d (.d (bk h fun vu nE h => ⟨aK nE, _, (aD nE).trans (aC.aA vu), (bk h fun rX yv h => (bJ (tj yv) (.d (.d (sD h (fun lH h => ?_) (fun lH h => ?_))))))⟩))
 refine .d ?_
 exact afU
 refine .d (bk h fun we oD h => ⟨aK oD, _, (aD oD).trans (aC.aA we), (bk h fun oO yp h => (bJ (tj yp) (.d (.d (sD h (fun oU h => ?_) (fun oU h => ?_))))))⟩)
 refine .d ?_
 exact afU
 refine .d (bk h fun Bb rA h => ⟨aK rA, _, (aD rA).trans (aC.aA Bb), (bk h fun lz Ih h => (bJ (yt Ih) (.d (.d (sD h (fun qV h => ?_) (fun qV h => ?_))))))⟩)
 refine .d ?_
 exact afU
 refine .d (.d (bk h fun Sa EJ h => ⟨aK EJ, _, (aD EJ).trans (aC.aA Sa), ⟨by decide, (nq h (fun wg h => ?_) (fun wg h => ?_))⟩⟩))
 refine .d ?_
 exact afU
 refine .d (.d (bk h fun Gr Ah h => ⟨aK Ah, _, (aD Ah).trans (aC.aA Gr), (bk h fun oz A4 h => (bJ (CZ A4) (.d (sD h (fun wc h => ?_) (fun wc h => ?_)))))⟩))
 refine .d ?_
 exact afU
 exact ahf
 exact agW
 exact afY
def gG (a0 : aN) (a1 : Int) : Option (Int) :=
 lP a0.a6 a1 >>= fun v1 =>
 (if v1 < 0 then
 some (-1)
 else
 kU a0.aJ v1 >>= fun v4 =>
 (if v4 < 0 then
 some (-1)
 else
 some v4))
theorem rB {a0 : aN} {a1 : Int} {r : Int} (h : gG a0 a1 = some r) : ACall Tryz.prog 17 [.agg a0.lit, .int .i64 a1] [] (fun res h => res = .int .i64 r ∧ h = []) := by
 refine dx Tryz.func17 ?_
 unfold gG at h
 refine .d (.d ⟨rfl, ⟨rfl, _, rfl, (bk h fun v1 rq h => (bJ (Bc rq) (.d (.d (sD h (fun lE h => ?_) (fun lE h => ?_))))))⟩⟩)
 exact ahd
 refine .d ⟨rfl, ⟨rfl, _, rfl, (bk h fun v4 CU h => (bJ (Ak CU) (.d (.d (sD h (fun mJ h => ?_) (fun mJ h => ?_))))))⟩⟩
 exact ahd
 exact ahd
def wh (a0 : Int) (a1 : Int) (a2 : Int) : Option (Bool) :=
 (if a0 ≥ a1 then
 some (decide (a0 ≤ a2))
 else
 some false)
theorem qf {a0 : Int} {a1 : Int} {a2 : Int} {r : Bool} (h : wh a0 a1 a2 = some r) : ACall Tryz.prog 91 [.int .i64 a0, .int .i64 a1, .int .i64 a2] [] (fun res h => res = .bool r ∧ h = []) := by
 refine dx Tryz.func91 ?_
 unfold wh at h
 refine .d (.d (sD h (fun eD h => ?_) (fun eD h => ?_)))
 exact .t (.t (.t (eB h)))
 exact aho
theorem kc : ACall Tryz.prog 126 [] [] (fun res h => res = .agg [.int .i64 0, .int .i64 0, .str [], .int .i64 0, .aq] ∧ h = []) := by
 refine dx Tryz.func126 ?_
 exact .d (.d ⟨rfl, _, fun _ => [.int .i64 0, .int .i64 0, .str [], .int .i64 0, .aq], rfl, ar rfl, ⟨rfl, _, rfl, (en [] ⟨rfl, rfl⟩ (.bD ⟨.i, .i, .s, .i, .aq, ⟨⟩⟩) ⟨⟩)⟩⟩)
def zu (a0 : Int) (a1 : Int) (a2 : Int) : Option (Bool) :=
 (if a1 ≤ a0 then
 some (decide (a0 ≤ a2))
 else
 some false)
theorem vw {a0 : Int} {a1 : Int} {a2 : Int} {r : Bool} (h : zu a0 a1 a2 = some r) : ACall Tryz.prog 57 [.int .i64 a0, .int .i64 a1, .int .i64 a2] [] (fun res h => res = .bool r ∧ h = []) := by
 refine dx Tryz.func57 ?_
 unfold zu at h
 refine .d (.d (sD h (fun eD h => ?_) (fun eD h => ?_)))
 exact .t (.t (.t (eB h)))
 exact aho
theorem w9 (a0 : Int) : ACall Tryz.prog 200 [.int .i64 a0] [] (fun res h => res = .agg [.bool false, .int .i64 a0, .str []] ∧ h = []) := by
 refine dx Tryz.func200 ?_
 exact .d (.d ⟨rfl, _, fun _ => [.bool false, .int .i64 a0, .str []], rfl, ar rfl, ⟨rfl, _, rfl, (en [] ⟨rfl, rfl⟩ (.bD ⟨.b, .i, .s, ⟨⟩⟩) ⟨⟩)⟩⟩)
theorem pF (a0 : Int) : ACall Tryz.prog 172 [.int .i64 a0] [] (fun res h => res = .agg [.int .i64 2, .int .i64 a0, .str [], .int .i64 0, .aq] ∧ h = []) := by
 refine dx Tryz.func172 ?_
 exact .d (.d ⟨rfl, _, fun _ => [.int .i64 2, .int .i64 a0, .str [], .int .i64 0, .aq], rfl, ar rfl, ⟨rfl, _, rfl, (en [] ⟨rfl, rfl⟩ (.bD ⟨.i, .i, .s, .i, .aq, ⟨⟩⟩) ⟨⟩)⟩⟩)
theorem oE (a0 : aU) : ACall Tryz.prog 174 [.str a0] [] (fun res h => res = .agg [.int .i64 3, .int .i64 0, .str a0, .int .i64 0, .aq] ∧ h = []) := by
 refine dx Tryz.func174 ?_
 exact .d (.d ⟨rfl, _, fun _ => [.int .i64 3, .int .i64 0, .str a0, .int .i64 0, .aq], rfl, ar rfl, ⟨rfl, _, rfl, (en [] ⟨rfl, rfl⟩ (.bD ⟨.i, .i, .s, .i, .aq, ⟨⟩⟩) ⟨⟩)⟩⟩)
theorem yy : ACall Tryz.prog 168 [] [] (fun res h => res = .agg [.int .i64 4, .int .i64 0, .str [], .int .i64 0, .aq] ∧ h = []) := by
 refine dx Tryz.func168 ?_
 exact .d (.d ⟨rfl, _, fun _ => [.int .i64 4, .int .i64 0, .str [], .int .i64 0, .aq], rfl, ar rfl, ⟨rfl, _, rfl, (en [] ⟨rfl, rfl⟩ (.bD ⟨.i, .i, .s, .i, .aq, ⟨⟩⟩) ⟨⟩)⟩⟩)
theorem Bd (a0 : Int) : ACall Tryz.prog 166 [.int .i64 a0] [] (fun res h => res = .agg [.int .i64 2, .int .i64 a0, .str [], .int .i64 0, .aq] ∧ h = []) := by
 refine dx Tryz.func166 ?_
 exact .d (.d ⟨rfl, _, fun _ => [.int .i64 2, .int .i64 a0, .str [], .int .i64 0, .aq], rfl, ar rfl, ⟨rfl, _, rfl, (en [] ⟨rfl, rfl⟩ (.bD ⟨.i, .i, .s, .i, .aq, ⟨⟩⟩) ⟨⟩)⟩⟩)
theorem Al (a0 : aU) : ACall Tryz.prog 167 [.str a0] [] (fun res h => res = .agg [.int .i64 3, .int .i64 0, .str a0, .int .i64 0, .aq] ∧ h = []) := by
 refine dx Tryz.func167 ?_
 exact .d (.d ⟨rfl, _, fun _ => [.int .i64 3, .int .i64 0, .str a0, .int .i64 0, .aq], rfl, ar rfl, ⟨rfl, _, rfl, (en [] ⟨rfl, rfl⟩ (.bD ⟨.i, .i, .s, .i, .aq, ⟨⟩⟩) ⟨⟩)⟩⟩)
def jP (a0 : bH) : Option (ah) :=
 (if a0.df = true then
 some (ah.mk 3 0 a0.aQ 0 [])
 else
 some (ah.mk 2 a0.aP [] 0 []))
theorem C0 {a0 : bH} {r : ah} (h : jP a0 = some r) : ACall Tryz.prog 160 [.agg a0.lit] [] (fun res h => res = .agg r.lit ∧ h = []) := by
 refine dx Tryz.func160 ?_
 unfold jP at h
 refine .d (.d (.d ⟨rfl, ⟨rfl, _, rfl, (sV h (fun eD h => ?_) (fun eD h => ?_))⟩⟩))
 refine .d ⟨rfl, ⟨rfl, _, rfl, (bJ (oE a0.aQ) ⟨rfl, _, fun _ => [.int .i64 3, .int .i64 0, .str a0.aQ, .int .i64 0, .aq], rfl, ar rfl, ?_⟩)⟩⟩
 obtain rfl := si h
 exact ⟨rfl, _, rfl, (en [] ⟨rfl, rfl⟩ (.bD ⟨.i, .i, .s, .i, .z, ⟨⟩⟩) ⟨⟩)⟩
 refine .d ⟨rfl, ⟨rfl, _, rfl, (bJ (pF a0.aP) ⟨rfl, _, fun _ => [.int .i64 2, .int .i64 a0.aP, .str [], .int .i64 0, .aq], rfl, ar rfl, ?_⟩)⟩⟩
 obtain rfl := si h
 exact ⟨rfl, _, rfl, (en [] ⟨rfl, rfl⟩ (.bD ⟨.i, .i, .s, .i, .z, ⟨⟩⟩) ⟨⟩)⟩
def wi (a0 : ah) (a1 : bH) (y4 : Int) : Option ((Unit) ⊕ Int) :=
 (if a0.aF = 4 then
 (if y4 < (a0.af.length : Int) then
 idx a0.af y4 >>= fun x9 =>
 (if x9.bm = a1 then
 some (.inr y4)
 else
 wi a0 a1 (ai (y4 + 1)))
 else
 some (.inl ()))
 else
 some (.inl ()))
partial_fixpoint
def P5 (a0 : ah) (a1 : bH) : Option (Int) :=
 ((
 wi a0 a1 0
 : Option ((Unit) ⊕ Int)) >>= fun o1 => match o1 with
 | .inr r => some r
 | .inl _ =>
 some (-1)
 )
theorem XV {a0 : ah} {a1 : bH} {r : Int} (h : P5 a0 a1 = some r) : ACall Tryz.prog 141 [.agg a0.lit, .agg a1.lit] [] (fun res h => res = .int .i64 r ∧ h = []) := by
 refine dx Tryz.func141 ?_
 unfold P5 at h
 refine .d ?_
 obtain ⟨o1, yz, mE⟩ := bd h
 replace h := yz
 refine .cut (fun σ η => .inl () = o1 ∧ σ = [] ∧ η = []) ?_ ?_
 refine .d ?_
 refine le (wi.partial_correctness a0 a1 (motive := fun y4 HY => o1 = HY → aB _ _ [(2, .aG 0 0 0 0), (3, .aG 1 0 0 0), (5, .int .i64 y4)] [.row 0 5 1 97 (fun _ => a0.lit), .row 0 3 1 195 (fun _ => a1.lit)]) ?_ 0 o1 h rfl) (tk [0, 1] ⟨.p, .p, .i, ⟨⟩⟩ ⟨(bn rfl), (bn rfl), ⟨⟩⟩)
 intro F6 MS y4 HY h aa9
 subst aa9
 refine aB.round (.d (.d ⟨rfl, ⟨rfl, _, rfl, (sE h (fun nr h => ?_) (fun nr h => ?_))⟩⟩))
 refine .t ⟨rfl, (.t ⟨rfl, _, rfl, (.t (.t (.t (sD h (fun mI h => ?_) (fun mI h => ?_)))))⟩)⟩
 refine .d (.d ⟨rfl, ⟨rfl, _, rfl, (bk h fun x9 iN h => ⟨aK iN, _, (aD iN).trans (ae.aA x9), ⟨rfl, _, rfl, ⟨_, bH.n8 x9.bm a1, (sD h (fun jt h => ?_) (fun jt h => ?_))⟩⟩⟩)⟩⟩)
 refine .d ?_
 exact agn
 exact lg (MS _ _ h rfl) (tk [0, 1] ⟨.p, .p, .i, ⟨⟩⟩ ⟨(bn rfl), (bn rfl), ⟨⟩⟩)
 exact agQ
 exact .f (.f (.f (.f (.f (.f (ct ⟨si h, rfl, rfl⟩ (tk [] ⟨⟩ ⟨⟩)))))))
 exact agl
end Go.Am
