/- Texts of the proof, joined and shortened. -/
import Derived.WalkKit
import Derived.Deep.Draws
import Derived.Deep.Quiet
namespace Go.Am
open Go Go.RowKit
set_option linter.unusedVariables false
abbrev so := @Bool.and_eq_true
abbrev An := @List.getElem?_eq_some_iff
abbrev As := @List.length_cons
abbrev Is := @List.getElem?_eq_getElem
abbrev No := @List.length_append
abbrev adU := @List.length_nil
abbrev adV := @Nat.le_refl
abbrev adW := @Nat.eq_of_beq_eq_true
abbrev adX := @Nat.zero_add
abbrev adY := @List.getD_eq_getElem?_getD
abbrev adZ := @Array.getElem?_eq_some_iff
abbrev aea := @List.mem_append
abbrev aeb := @List.all_eq_true
abbrev aec := @List.map_cons
abbrev aed := @List.mem_cons
abbrev aee := @List.getElem_mem
abbrev aef := @List.mem_of_getElem?
abbrev aeg := @List.drop_eq_getElem_cons
abbrev aeh := @Int.toNat_natCast
abbrev aei := @List.mem_cons_of_mem
abbrev aej := @List.mem_map
abbrev aek := @Nat.mul_le_mul_right
abbrev ael := @Nat.le_of_ble_eq_true
abbrev aem := @List.getElem?_map
abbrev aen := @List.getElem?_append_right
abbrev aeo := @Nat.zero_le
abbrev aep := @List.map_nil
abbrev aeq := @Array.getElem?_eq_getElem
abbrev aer := @Nat.le_trans
abbrev aes := @Array.getElem?_toList
abbrev aet := @Nat.lt_of_lt_of_le
abbrev aeu := @Nat.add_mul
abbrev aev := @List.getElem?_eq_none
abbrev aew := @List.getElem?_append_left
abbrev aex := @Bool.not_eq_true'
abbrev aey := @Nat.not_lt_zero
abbrev aez := @List.length_drop
abbrev aeA := @Bool.eq_iff_iff
abbrev aeB := @List.map_append
abbrev aeC := @Option.some.inj
abbrev aeD := @Bool.or_eq_true
abbrev aeE := @Nat.lt_or_ge
abbrev aeF := @List.getElem?_set_ne
abbrev aeG := @List.append_assoc
abbrev aeH := @Array.getElem?_append_left
abbrev aeI := @List.append_nil
abbrev aeJ := @Nat.eq_zero_or_pos
abbrev aeK := @Nat.zero_lt_one
abbrev aeL := @Array.length_toList
abbrev aeM := @List.mem_iff_getElem
abbrev aeN := @List.eq_nil_of_length_eq_zero
abbrev aeO := @Nat.add_zero
abbrev aeP := @List.length_take
abbrev aeQ := @List.nil_append
abbrev aeR := @Nat.sub_self
abbrev aeS := @List.drop_of_length_le
abbrev aeT := @Bool.true_and
abbrev aeU := @Bool.false_eq_true
abbrev aeV := @List.getElem?_drop
abbrev aeW := @List.mem_singleton
abbrev aeX := @Array.eq_empty_of_size_eq_zero
abbrev aeY := @Nat.beq_refl
abbrev aeZ := @List.length_set
abbrev afa := @List.mem_append_left
abbrev afb := @List.all_cons
abbrev afc := @List.cons_append
abbrev afd := @Bool.false_and
abbrev afe := @List.getElem?_set_self
abbrev aff := @Ne.symm
abbrev afg := @List.getElem_append_right
abbrev afh := @Classical.byContradiction
abbrev afi := @List.take_append_getElem
abbrev afj := @Bool.and_true
abbrev afk := @List.getElem?_take
abbrev afl := @UInt8.toNat_inj
abbrev afm := @Nat.eq_or_lt_of_le
abbrev afn := @List.drop_append_of_le_length
abbrev afo := @List.getElem?_set
abbrev afp := @List.drop_zero
abbrev afq := @Option.getD_some
abbrev afr := @List.getElem_of_mem
abbrev afs := @List.length_map
abbrev aft := @Array.getElem?_map
abbrev afu := @Array.empty_append
abbrev afv := @UInt8.toNat_ofNat'
abbrev afw := @Nat.lt_succ_iff_lt_or_eq
abbrev afx := @BitVec.toNat_ofNat
abbrev afy := @List.mem_range
abbrev afz := @Bool.eq_false_iff
abbrev afA := @List.drop_eq_nil_of_le
abbrev afB := @Bool.false_or
abbrev afC := @List.map_toArray
abbrev afD := @Nat.mod_eq_of_lt
abbrev afE := @List.drop_length
abbrev afF := @List.getElem?_toArray
abbrev afG := @Array.getElem?_setIfInBounds_ne
abbrev afH := @Bool.and_false
abbrev afI := @List.append_of_mem
abbrev afJ := @Nat.lt_of_lt_of_eq
abbrev afK := @Decidable.not_not
abbrev afL := @Array.size_append
abbrev afM := @List.getElem_take
abbrev afN := @Nat.mod_lt
abbrev afO := @List.reverse_nil
abbrev afP := @List.ext_getElem
abbrev afQ := @Option.bind_some
abbrev afR := @List.not_mem_nil
abbrev afS := @Bool.true_or
abbrev afT := @Nat.succ_ne_self
theorem afU {p : Prop} (h : p := by
  obtain rfl := si h
  replace h := ft
  exact eI h) : p := h
theorem afV {p : Prop} (h : p := by
  obtain rfl := si h
  replace h := jS
  exact eB h) : p := h
theorem afW {p : Prop} (h : p := by
  replace h := Db
  obtain rfl := si h
  exact ⟨rfl, _, rfl, (en [] ⟨rfl, rfl⟩ (.bq ⟨.bD ⟨.i, .i, .s, .i, .z, ⟨⟩⟩, .i, ⟨⟩⟩) ⟨⟩)⟩) : p := h
theorem afX {p : Prop} (h : p := by
  obtain rfl := si h
  replace h := mE
  exact eB h) : p := h
theorem afY {p : Prop} (h : p := by
  rintro _ _ ⟨y1, rfl, rfl, rfl⟩
  replace h := ft
  exact .d (eI h)) : p := h
theorem afZ {p : Prop} (h : p := by
  replace h := mE
  obtain rfl := si h
  exact en [] ⟨rfl, rfl⟩ (.bq ⟨.i, .i, .b, ⟨⟩⟩) ⟨⟩) : p := h
theorem aga {p : Prop} (h : p := by
  replace h := ft
  obtain rfl := si h
  exact en [] ⟨rfl, rfl⟩ (.bq ⟨.i, .i, .b, ⟨⟩⟩) ⟨⟩) : p := h
theorem agb {p : Prop} (h : p := by
  rintro _ _ ⟨rfl, rfl, rfl⟩
  replace h := ft
  exact .d (eB h)) : p := h
theorem agc {p : Prop} (h : p := by
  replace h := mE
  obtain rfl := si h
  exact en [0, 1, 2, 3] ⟨g1001, g1003, rfl, rfl⟩ .b ⟨(ob rfl ⟨.o, ⟨⟩⟩), od, (ob rfl ⟨.o, ⟨⟩⟩), od, ⟨⟩⟩) : p := h
theorem agd {p : Prop} (h : p := by
  obtain rfl := si h
  replace h := ft
  exact eB h) : p := h
theorem age {p : Prop} (h : p := by
  obtain rfl := si h
  replace h := wj
  exact eB h) : p := h
theorem agf {p : Prop} (h : p := by
  obtain rfl := si h
  replace h := Fy
  exact eB h) : p := h
theorem agh {p : Prop} (h : p := by
  replace h := ER
  obtain rfl := si h
  exact en [] ⟨rfl, rfl⟩ (.bq ⟨.z, .b, ⟨⟩⟩) ⟨⟩) : p := h
theorem agi {p : Prop} (h : p := by
  obtain rfl := si h
  replace h := KX
  exact eB h) : p := h
theorem agj {p : Prop} (h : p := by
  replace h := mE
  obtain rfl := si h
  exact en [0] ⟨rfl, rfl⟩ (.bq ⟨.b, .b, ⟨⟩⟩) ⟨od, ⟨⟩⟩) : p := h
theorem agk {p : Prop} (h : p := by
  replace h := QA
  obtain rfl := si h
  exact en [] ⟨rfl, rfl⟩ (.bq ⟨(.rx rfl), .b, ⟨⟩⟩) ⟨⟩) : p := h
theorem agl {p : Prop} (h : p := by
  rintro _ _ ⟨rfl, rfl, rfl⟩
  replace h := mE
  exact .d (eI h)) : p := h
theorem agm {p : Prop} (h : p := by
  obtain ⟨dst, op, ty, pos, after, guard⟩ := o
  subst hg
  exact hp) : p := h
theorem agn {p : Prop} (h : p := by
  obtain rfl := si h
  replace h := mE
  exact eI h) : p := h
theorem ago {p : Prop} (h : p := by
  obtain rfl := si h
  replace h := hk9
  exact eB h) : p := h
theorem agp {p : Prop} (h : p := by
  obtain rfl := si h
  replace h := Gx
  exact eB h) : p := h
theorem agq {p : Prop} (h : p := by
  obtain rfl := si h
  replace h := BH
  exact eB h) : p := h
theorem agr {p : Prop} (h : p := by
  obtain rfl := si h
  exact ⟨rfl, _, rfl, (en [0, 4] ⟨(fun _ => []), (DR.nil (D := ae.D)), rfl, rfl⟩ (.bD ⟨.i, .i, .s, .i, .g, ⟨⟩⟩) ⟨(ob rfl ⟨.s, .i, .b, ⟨⟩⟩), gh, ⟨⟩⟩)⟩) : p := h
theorem ags {p : Prop} (h : p := by
  obtain rfl := si h
  exact en [] ⟨rfl, rfl⟩ (.bq ⟨.i, .b, ⟨⟩⟩) ⟨⟩) : p := h
theorem agt {p : Prop} (h : p := by
  obtain rfl := si h
  exact ⟨rfl, _, rfl, (en [] ⟨rfl, rfl⟩ (.bq ⟨.bD ⟨.i, .i, .s, .i, .z, ⟨⟩⟩, .i, ⟨⟩⟩) ⟨⟩)⟩) : p := h
theorem agu {p : Prop} (h : p := by
  obtain rfl := si h
  exact ⟨rfl, _, rfl, (en [] ⟨rfl, rfl⟩ (.bq ⟨.bD ⟨.i, .i, .s, .i, .r, ⟨⟩⟩, .i, ⟨⟩⟩) ⟨⟩)⟩) : p := h
theorem agv {p : Prop} (h : p := by
  obtain rfl := si h
  exact en [0] ⟨f3, d4, rfl, rfl⟩ .i ⟨(tg d4), ⟨⟩⟩) : p := h
theorem agw {p : Prop} (h : p := by
  obtain rfl := si h
  exact ⟨rfl, _, rfl, (en [4] ⟨(fun _ => []), (DR.nil (D := ae.D)), rfl, rfl⟩ (.bq ⟨.bD ⟨.i, .i, .s, .i, .g, ⟨⟩⟩, .b, ⟨⟩⟩) ⟨gh, ⟨⟩⟩)⟩) : p := h
theorem agx {p : Prop} (h : p := by
  obtain rfl := si h
  exact ⟨rfl, _, rfl, (en [7, 8] ⟨(fun _ => []), (fun _ => []), (DR.nil (D := aC.D)), (DR.nil (D := aw.D)), rfl, rfl⟩ (.bq ⟨.bD ⟨.g, .g, ⟨⟩⟩, .b, ⟨⟩⟩) ⟨gh, gh, ⟨⟩⟩)⟩) : p := h
theorem agy {p : Prop} (h : p := by
  obtain rfl := si h
  exact en [] ⟨rfl, rfl⟩ (.bq ⟨.s, .i, .b, ⟨⟩⟩) ⟨⟩) : p := h
theorem agz {p : Prop} (h : p := by
  obtain rfl := si h
  exact ⟨rfl, _, rfl, (en [0, 3] ⟨(fun _ => []), (DR.nil (D := ae.D)), rfl, rfl⟩ (.bD ⟨.i, .i, .s, .i, .g, ⟨⟩⟩) ⟨(ob rfl ⟨.s, .i, .b, ⟨⟩⟩), gh, ⟨⟩⟩)⟩) : p := h
theorem agA {p : Prop} (h : p := by
  obtain rfl := si h
  exact ⟨rfl, _, rfl, (en [] ⟨rfl, rfl⟩ (.bq ⟨.bD ⟨.b, .i, .s, ⟨⟩⟩, .b, ⟨⟩⟩) ⟨⟩)⟩) : p := h
theorem agB {p : Prop} (h : p := by
  obtain rfl := si h
  exact en [] ⟨rfl, rfl⟩ (.bq ⟨.i, .i, ⟨⟩⟩) ⟨⟩) : p := h
theorem agC {p : Prop} (h : p := by
  obtain rfl := si h
  exact en [0] ⟨(g1000 + 1), rfl, rfl⟩ .o ⟨od, ⟨⟩⟩) : p := h
theorem agD {p : Prop} (h : p := by
  obtain ⟨e, he, hb, rfl⟩ := (nM wX).1 vV
  exact (Td _ (mH i vb _ vV).1).1 (HJ e he hb)) : p := h
theorem agE {p : Prop} (h : p := by
  obtain rfl := si h
  exact en [0] ⟨rfl, rfl⟩ .i ⟨(ob rfl ⟨.l, .i, .b, ⟨⟩⟩), ⟨⟩⟩) : p := h
theorem agF {p : Prop} (h : p := by
  obtain rfl := si h
  exact en [0] ⟨rfl, rfl⟩ .s ⟨(ob rfl ⟨.l, .i, .b, ⟨⟩⟩), ⟨⟩⟩) : p := h
theorem agG {p : Prop} (h : p := by
  obtain rfl := si h
  exact en [] ⟨rfl, rfl⟩ (.bq ⟨.i, .i, .b, ⟨⟩⟩) ⟨⟩) : p := h
theorem agH {p : Prop} (h : p := by
  replace h := Bz
  exact age) : p := h
theorem agI {p : Prop} (h : p := by
  replace h := Bm
  exact agf) : p := h
theorem agJ {p : Prop} (h : p := by
  obtain rfl := si h
  exact afW) : p := h
theorem agK {p : Prop} (h : p := by
  obtain rfl := si h
  exact afZ) : p := h
theorem agL {p : Prop} (h : p := by
  obtain rfl := si h
  exact en [] ⟨rfl, rfl⟩ (.bq ⟨.s, .b, ⟨⟩⟩) ⟨⟩) : p := h
theorem agM {p : Prop} (h : p := by
  obtain rfl := si h
  exact aga) : p := h
theorem agN {p : Prop} (h : p := by
  replace h := Jm
  exact afV) : p := h
theorem agO {p : Prop} (h : p := by exact ct ⟨_, si h, rfl, rfl⟩ (tk [0] ⟨.p, .i, .b, ⟨⟩⟩ ⟨(bn rfl), ⟨⟩⟩)) : p := h
theorem agP {p : Prop} (h : p := by exact .d (eB h)) : p := h
theorem agQ {p : Prop} (h : p := by exact ct ⟨si h, rfl, rfl⟩ (tk [] ⟨⟩ ⟨⟩)) : p := h
theorem agR {p : Prop} (h : p := by exact hp.elim) : p := h
theorem agS {p : Prop} (h : p := by exact ct ⟨si h, rfl, rfl⟩ (tk [0] ⟨.p, ⟨⟩⟩ ⟨(bn rfl), ⟨⟩⟩)) : p := h
theorem agT {p : Prop} (h : p := by exact ct ⟨_, si h, rfl, rfl⟩ (tk [0] ⟨.p, .b, ⟨⟩⟩ ⟨(bn rfl), ⟨⟩⟩)) : p := h
theorem agU {p : Prop} (h : p := by exact ct ⟨_, si h, rfl, rfl⟩ (tk [0] ⟨.i, .i, .p, .b, .b, .b, .i, .b, ⟨⟩⟩ ⟨(bn rfl), ⟨⟩⟩)) : p := h
theorem agV {p : Prop} (h : p := by exact ct ⟨_, _, f9, d10, si h, rfl, rfl⟩ (tk [0] ⟨.i, ⟨⟩⟩ ⟨(tg d10), ⟨⟩⟩)) : p := h
theorem agW {p : Prop} (h : p := by exact ct ⟨_, si h, rfl, rfl⟩ (tk [] ⟨.i, ⟨⟩⟩ ⟨⟩)) : p := h
theorem agX {p : Prop} (h : p := by exact ct ⟨_, si h, rfl, rfl⟩ (tk [0] ⟨.i, .p, .i, .b, ⟨⟩⟩ ⟨(bn rfl), ⟨⟩⟩)) : p := h
theorem agY {p : Prop} (h : p := by exact .d ⟨rfl, ⟨rfl, _, rfl, (eI h)⟩⟩) : p := h
theorem agZ {p : Prop} (h : p := by exact ⟨q1, by omega, fun x hx => (q3 x hx).resolve_left (by simp)⟩) : p := h
theorem aha {p : Prop} (h : p := by exact lg (zo _ _ h rfl) (tk [] ⟨.l, .l, .i, ⟨⟩⟩ ⟨⟩)) : p := h
theorem ahb {p : Prop} (h : p := by exact .d ⟨rfl, ⟨rfl, _, rfl, ⟨by decide, (eI h)⟩⟩⟩) : p := h
theorem ahc {p : Prop} (h : p := by exact .f (.f (.f (.f (.f (.f (.f (.f (ct ⟨si h, rfl, rfl⟩ (tk [0] ⟨.p, ⟨⟩⟩ ⟨(bn rfl), ⟨⟩⟩)))))))))) : p := h
theorem ahd {p : Prop} (h : p := by exact .d (eI h)) : p := h
theorem ahe {p : Prop} (h : p := by exact ⟨_, hu, rfl, h1, adW h2, h4, fun u => by rw [show 9999 = 9998 + 1 from rfl, Instr.checkKey]; simp [run_underlying hu]⟩) : p := h
theorem ahf {p : Prop} (h : p := by exact lg (zr _ _ _ h rfl) (tk [] ⟨.l, .i, .i, ⟨⟩⟩ ⟨⟩)) : p := h
theorem ahg {p : Prop} (h : p := by exact ct ⟨_, si h, rfl, rfl⟩ (tk [] ⟨.i, .b, ⟨⟩⟩ ⟨⟩)) : p := h
theorem ahh {p : Prop} (h : p := by exact ⟨fun hq => if_pos hq, fun hq => if_neg (by rw [hq]; decide)⟩) : p := h
theorem ahi {p : Prop} (h : p := by exact .t (.t (.t (.t (.t (.t (.t (.t (.t (.t (.d (eB h)))))))))))) : p := h
theorem ahj {p : Prop} (h : p := by exact .inr (.inl h)) : p := h
theorem ahk {p : Prop} (h : p := by exact .f (.f (.f (.f (eB h))))) : p := h
theorem ahl {p : Prop} (h : p := by exact .f (.f (eB h))) : p := h
theorem ahm {p : Prop} (h : p := by exact ⟨adV _, fun _ => ⟨rfl, rfl, rfl, rfl⟩⟩) : p := h
theorem ahn {p : Prop} (h : p := by exact ⟨false, rfl, rfl, fun h => by cases h⟩) : p := h
theorem aho {p : Prop} (h : p := by exact .f (.f (.f (eB h)))) : p := h
theorem ahp {p : Prop} (h : p := by exact ⟨rfl, (.t ⟨rfl, _, rfl, (.t (.t (.t (eB h))))⟩)⟩) : p := h
theorem ahq {p : Prop} (h : p := by exact ⟨_, _, _, _, _, _, _, _, _, _, q1, q2, q3, q4⟩) : p := h
theorem ahr {p : Prop} (h : p := by exact ⟨_, rfl, .inl ⟨rfl, h⟩⟩) : p := h
theorem ahs {p : Prop} (h : p := by exact .f (.f (.f (.f (.f (.f (.f (eB h)))))))) : p := h
theorem aht {p : Prop} (h : p := by exact ⟨_, rfl, rfl, .inl rfl⟩) : p := h
theorem ahu {p : Prop} (h : p := by exact .inr ⟨_, _, _, q⟩) : p := h
theorem ahv {p : Prop} (h : p := by exact .d ⟨rfl, ⟨rfl, _, rfl, (eB h)⟩⟩) : p := h
theorem ahw {p : Prop} (h : p := by omega) : p := h
theorem ahx {p : Prop} (h : p := by decide) : p := h
theorem ahy {p : Prop} (h : p := by simp) : p := h
theorem ahz {p : Prop} (h : p := by simp [Op.operands]) : p := h
theorem ahA {p : Prop} (h : p := by kernel_rfl) : p := h
theorem ahB {p : Prop} (h : p := by first | rfl | exact (DR.nil (D := ae.D)).len | exact (DR.nil (D := ae.D)).len.symm) : p := h
theorem ahC {p : Prop} (h : p := by simp; omega) : p := h
theorem ahD {p : Prop} (h : p := by simp only [No, As, adU]; omega) : p := h
theorem ahE {p : Prop} (h : p := by first | rfl | exact d12.len | exact d12.len.symm) : p := h
theorem ahF {p : Prop} (h : p := by first | rfl | exact cu.len | exact cu.len.symm) : p := h
theorem ahG {p : Prop} (h : p := by simp [Region.wanted, hg, hy]) : p := h
theorem ahH {p : Prop} (h : p := by simp only [As, adU]; omega) : p := h
theorem ahI {p : Prop} (h : p := by simpa using hj) : p := h
theorem ahJ {p : Prop} (h : p := by simp only [Nat.reduceAdd, Nat.reducePow]; omega) : p := h
theorem ahK {p : Prop} (h : p := by first | rfl | exact d51.len | exact d51.len.symm) : p := h
theorem ahL {p : Prop} (h : p := by first | rfl | exact d49.len | exact d49.len.symm) : p := h
theorem ahM {p : Prop} (h : p := by first | rfl | exact d33.len | exact d33.len.symm) : p := h
theorem ahN {p : Prop} (h : p := by first | rfl | exact d16.len | exact d16.len.symm) : p := h
theorem ahO {p : Prop} (h : p := by simpa using h2) : p := h
theorem ahP {p : Prop} (h : p := by first | rfl | exact d29.len | exact d29.len.symm) : p := h
theorem ahQ {p : Prop} (h : p := by first | rfl | exact d24.len | exact d24.len.symm) : p := h
theorem ahR {p : Prop} (h : p := by first | rfl | exact d6.len | exact d6.len.symm) : p := h
theorem ahS {p : Prop} (h : p := by first | rfl | exact d3.len | exact d3.len.symm) : p := h
theorem ahT {p : Prop} (h : p := by simpa using h) : p := h
theorem ahU {p : Prop} (h : p := by simp only [lN, eM, aec, aep, List.drop, As, adU, k8 mV]; rfl) : p := h
theorem ahV {p : Prop} (h : p := by simpa using hp) : p := h
theorem ahW {p : Prop} (h : p := by simpa using h1) : p := h
theorem ahX {p : Prop} (h : p := by simp [Op.operands, Call.operands]; have : x ∈ args.toList := (by rw [hx]; simp); simpa using this) : p := h
theorem ahY {p : Prop} (h : p := by first | rfl | exact d75.len | exact d75.len.symm) : p := h
theorem ahZ {p : Prop} (h : p := by first | rfl | exact d36.len | exact d36.len.symm) : p := h
theorem aia {p : Prop} (h : p := by first | rfl | exact d27.len | exact d27.len.symm) : p := h
theorem aib {p : Prop} (h : p := by simp [tw]) : p := h
theorem aic {p : Prop} (h : p := by rw [decide_eq_true_eq]; omega) : p := h
theorem aid {p : Prop} (h : p := by rw [← hf i hi]; exact hj) : p := h
theorem aie {p : Prop} (h : p := by simpa using jl) : p := h
theorem aif {p : Prop} (h : p := by simpa using hy) : p := h
theorem aih {p : Prop} (h : p := by simp only [lN, eM, aec, aep, List.drop, As, adU, EB, red d36, red DR.sq]; rfl) : p := h
theorem aii {p : Prop} (h : p := by simp [Region.wanted, hg, sU hs hj he]) : p := h
theorem aij {p : Prop} (h : p := by rw [he]; exact hu) : p := h
theorem aik {p : Prop} (h : p := by simpa using hq) : p := h
theorem ail {p : Prop} (h : p := by rw [zn]; omega) : p := h
theorem aim {p : Prop} (h : p := by subst hy; simp [Op.operands]) : p := h
theorem ain {p : Prop} (h : p := by simp only [aeB, aea]; exact .inl (aej.2 ⟨q, hq, rfl⟩)) : p := h
theorem aio {p : Prop} (h : p := by obtain ⟨h1, h2⟩ := An.1 AH; rw [← h2]; exact aee h1) : p := h
theorem aip {p : Prop} (h : p := by simp [Op.operands]; exact ⟨p.1, by simpa using hp⟩) : p := h
end Go.Am
set_option linter.unusedVariables false
set_option linter.unusedSimpArgs false
namespace Go.Am
open Go
def Hq : List Int := [1, 10, 100, 1000, 10000, 100000, 1000000, 10000000, 100000000, 1000000000, 10000000000, 100000000000, 1000000000000, 10000000000000, 100000000000000, 1000000000000000, 10000000000000000, 100000000000000000, 1000000000000000000, 10000000000000000000]
def FD : List (Nat × Array Value) := [(0, (Hq.map fun z => Value.int .u64 z).toArray)]
def xI : List Nat := [1, 2]
def KD : List Nat := []
end Go.Am
namespace Go.Am
open Go Go.RowKit
inductive PV where
 | int (k : IntKind) (n : Int)
 | bool (b : Bool)
 | str (s : List UInt8)
 | aq
 | gz (sz n : Nat) (f : Nat → List PV)
 | gf (cells : List PV)
 | own (id gen off len : Nat)
 | aG (id gen i off : Nat)
 | lA (id : Nat)
 | oP (f : Nat) (bX : List (Nat × Nat))
 | fn (f : Nat)
 | agg (cs : List PV)
 | fu (vs : List PV)
 | iZ
 | bf (sz n : Nat) (e : TypeId) (f : Nat → List PV) (F : Nat → Prop)
 deriving Inhabited
abbrev Env := Nat → PV
inductive ak where
 | row (gen sz n : Nat) (e : TypeId) (f : Nat → List PV)
 | dead
 deriving Inhabited
inductive TI where
 | int (k : IntKind)
 | bool
 | str
 | slice (e sz bytes : Nat) (zero : List PV)
 | struct (sz : Nat) (fields : List (Nat × Nat × Bool)) (zero : List PV)
 | ptr (e : Nat)
 | map (k e : Nat) (zero : PV)
 | other
 deriving Inhabited
structure pr where
 get : Nat → TI
def qo (env : Env) (t : Nat) (v : PV) : Env := fun j => bif Nat.beq j t then v else env j
def dQ (env : Env) (d : Option Nat) (v : PV) : Env := match d with | some t => qo env t v | none => env
def zd (env : Env) : List (Nat × PV) → Env
 | [] => env
 | (t, v) :: r => qo (zd env r) t v
inductive fv (b : Bool) (T F : Prop) : Prop
 | mk (ht : b = true → T) (hf : b = false → F) : fv b T F
theorem lh {b : Bool} {T F : Prop} (h : fv b T F) : (b = true → T) ∧ (b = false → F) := by cases h with | mk a b => exact ⟨a, b⟩
def eh (b : Bool) (K : Prop) : Prop := match b with | true => K | false => False
theorem bF {b : Bool} {K : Prop} (h : eh b K) : b = true ∧ K := by cases b; exact h.elim; exact ⟨rfl, h⟩
def rh : IntKind → IntKind → Bool
 | .i8, .i8 => true
 | .i16, .i16 => true
 | .i32, .i32 => true
 | .i64, .i64 => true
 | .u8, .u8 => true
 | .u16, .u16 => true
 | .u32, .u32 => true
 | .u64, .u64 => true
 | _, _ => false
theorem fp {k k' : IntKind} (h : rh k k' = true) : k = k' := by cases k <;> cases k' <;> first | rfl | cases h
def VP : Value → Option PV
 | .int k n => some (.int k n)
 | .bool b => some (.bool b)
 | .string s => some (.str s.data.toList)
 | .slice none 0 0 => some .aq
 | _ => none
def Lr : List Value → Option (List PV)
 | [] => some []
 | v :: r => match VP v, Lr r with
  | some p, some l => some (p :: l)
  | _, _ => none
def aaF : Option (List PV) → PV
 | some l => .agg l
 | none => .iZ
def ofValue : Value → PV
 | .int k n => .int k n
 | .bool b => .bool b
 | .string s => .str s.data.toList
 | .slice none 0 0 => .aq
 | .agg vs => aaF (Lr vs.toList)
 | _ => .iZ
inductive Mt : PV → PV → Prop
 | same (a : PV) : Mt a a
 | nil (sz : Nat) (f : Nat → List PV) : Mt .aq (.gz sz 0 f)
 | LA (sz : Nat) (e : TypeId) (f : Nat → List PV) : Mt .aq (.bf sz 0 e f (fun _ => False))
def nJ : List PV → List PV → Prop
 | [], [] => True
 | a :: l, b :: r => Mt a b ∧ nJ l r
 | _, _ => False
def ev (env : Env) : Operand → PV
 | .tmp t => env t
 | .const v => ofValue v
 | .func f => .fn f
 | .global _ => .iZ
abbrev Mu := Nat → Option (Nat × Nat)
inductive aV (S : Nat → Prop) (w : World) : PV → Value → Prop
 | int (k : IntKind) (n : Int) : aV S w (.int k n) (.int k n)
 | bool (b : Bool) : aV S w (.bool b) (.bool b)
 | str (s : List UInt8) : aV S w (.str s) (.string ⟨⟨s⟩⟩)
 | aq : aV S w .aq (.slice none 0 0)
 | fn (f : Nat) : aV S w (.fn f) (.func (.func f) #[] #[])
 | qj (sz : Nat) (f : Nat → List PV) (a : Option Addr) (c : Nat) : aV S w (.gz sz 0 f) (.slice a 0 c)
 | gz (sz n : Nat) (f : Nat → List PV) (b off c : Nat) (vf : Nat → Nat → Value) (hS : S b) (hlen : ∀ i, i < n → (f i).length = sz) (hc : n ≤ c)
   (bw : ∀ (i j : Nat) (pv : PV), i < n → (f i)[j]? = some pv → w.cell? ⟨b, off + i * sz + j, none⟩ = some (vf i j))
   (nH : ∀ (i j : Nat) (pv : PV), i < n → (f i)[j]? = some pv → aV S w pv (vf i j)) : aV S w (.gz sz n f) (.slice (some ⟨b, off, none⟩) n c)
 | gf (cs : List PV) (b off : Nat) (vf : Nat → Value) (hS : S b)
   (bw : ∀ (j : Nat) (pv : PV), cs[j]? = some pv → w.cell? ⟨b, off + j, none⟩ = some (vf j))
   (nH : ∀ (j : Nat) (pv : PV), cs[j]? = some pv → aV S w pv (vf j)) : aV S w (.gf cs) (.pointer (some ⟨b, off, none⟩))
inductive ml (S : Nat → Prop) (w : World) : PV → Value → Prop
 | nil (sz : Nat) (e : TypeId) (f : Nat → List PV) (F : Nat → Prop) (hF : ∀ b, ¬ F b) : ml S w (.bf sz 0 e f F) (.slice none 0 0)
 | HF (sz n : Nat) (e : TypeId) (f : Nat → List PV) (F : Nat → Prop) (b off c : Nat) (a : Addr) (cur : Array Value) (vf : Nat → Nat → Value) (hF : F b) (hb : w.heap[b]? = some (.cells cur e (0, 0))) (hlen : ∀ i, i < n → (f i).length = sz) (hc : n ≤ c)
   (ha : 0 < c → a = ⟨b, off, none⟩) (iY : off + c * sz ≤ cur.size)
   (bw : ∀ (i j : Nat) (pv : PV), i < n → (f i)[j]? = some pv → cur[off + i * sz + j]? = some (vf i j))
   (nH : ∀ (i j : Nat) (pv : PV), i < n → (f i)[j]? = some pv → aV S w pv (vf i j) ∨ ∃ cf n' e' f' F', pv = .bf cf n' e' f' F')
   (xD : ∀ (i j cf n' : Nat) (e' : TypeId) (f' : Nat → List PV) (F' : Nat → Prop), i < n → (f i)[j]? = some (.bf cf n' e' f' F') → ml S w (.bf cf n' e' f' F') (vf i j))
   (Dq : ∀ (i j cf n' : Nat) (e' : TypeId) (f' : Nat → List PV) (F' : Nat → Prop), i < n → (f i)[j]? = some (.bf cf n' e' f' F') → ∀ b', F' b' → F b' ∧ b' ≠ b)
   (HG : ∀ (i j cf n' : Nat) (e' : TypeId) (f' : Nat → List PV) (F' : Nat → Prop) (i2 j2 qI n2 : Nat) (e2 : TypeId) (f2 : Nat → List PV) (F2 : Nat → Prop), i < n → (f i)[j]? = some (.bf cf n' e' f' F') → i2 < n → (f i2)[j2]? = some (.bf qI n2 e2 f2 F2) →
    ∀ b', F' b' → F2 b' → i = i2 ∧ j = j2) : ml S w (.bf sz n e f F) (.slice (some a) n c)
def lj (w : World) (b k : Nat) : Prop := ∃ cur e, w.heap[b]? = some (.cells cur e (0, 0)) ∧ k ≤ cur.size
def bL (μ : Mu) (h : List ak) (w : World) (id gen off len : Nat) (v : Value) : Prop :=
 (∃ a l c, v = .slice a l c) ∧ match h[id]? with
 | some (ak.row g sz n _ _) => gen ≤ g ∧ (gen = g → off + len ≤ n ∧ match μ id with
  | none => v = .slice none 0 0
  | some (b, base) => ∃ a cap, v = .slice (some a) len cap ∧ len ≤ cap ∧ (0 < cap → a = ⟨b, base + off * sz, none⟩) ∧ lj w b (base + (off + cap) * sz))
 | some ak.dead => True
 | none => False
def cc (μ : Mu) (h : List ak) (w : World) (id gen i off : Nat) (v : Value) : Prop :=
 (∃ a, v = .pointer a) ∧ match h[id]? with
 | some (ak.row g sz n _ _) => gen ≤ g ∧ (gen = g → i < n ∧ ∃ b base, μ id = some (b, base) ∧ lj w b 0 ∧ v = .pointer (some ⟨b, base + i * sz + off, none⟩))
 | some ak.dead => True
 | none => False
def sP (w : World) (b : Nat) : Prop := ∃ es clock, w.heap[b]? = some (.map es clock)
def gJ (μ : Mu) (h : List ak) (w : World) (id : Nat) (v : Value) : Prop :=
 (∃ a, v = .map a) ∧ match h[id]? with
 | some (ak.row _ _ _ _ _) => ∃ b base, μ id = some (b, base) ∧ sP w b ∧ v = .map (some b)
 | some ak.dead => True
 | none => False
def tH (O : Nat → Nat → Value → Prop) (f : Nat) (bX : List (Nat × Nat)) (v : Value) : Prop :=
 ∃ vs : Array Value, v = .func (.func f) #[] vs ∧ vs.size = bX.length ∧ ∀ (j : Nat) (p : Nat × Nat), bX[j]? = some p → ∃ u : Value, vs[j]? = some u ∧ O p.1 p.2 u
theorem tH.mono {O O' : Nat → Nat → Value → Prop} {f : Nat} {bX : List (Nat × Nat)} {v : Value} (h : tH O f bX v) (hO : ∀ id g u, O id g u → O' id g u) : tH O' f bX v := by
 obtain ⟨vs, h1, h2, h3⟩ := h
 exact ⟨vs, h1, h2, fun j p hj => let ⟨u, q1, q2⟩ := h3 j p hj; ⟨u, q1, hO _ _ _ q2⟩⟩
def sY (σ : Nat → Nat) (bX : List (Nat × Nat)) : List (Nat × Nat) := bX.map fun p => (σ p.1, p.2)
theorem tH.map {O : Nat → Nat → Value → Prop} {σ : Nat → Nat} {f : Nat} {bX : List (Nat × Nat)} {v : Value} (h : tH (fun id g u => O (σ id) g u) f bX v) : tH O f (sY σ bX) v := by
 obtain ⟨vs, h1, h2, h3⟩ := h
 refine ⟨vs, h1, by unfold sY; rw [afs]; exact h2, fun j p hj => ?_⟩
 unfold sY at hj
 rw [aem] at hj
 cases hx : bX[j]? with
 | none => rw [hx] at hj; cases hj
 | some q =>
  rw [hx] at hj
  injection hj with hj
  subst hj
  exact h3 j q hx
theorem tH.aaE {O : Nat → Nat → Value → Prop} {σ : Nat → Nat} {f : Nat} {bX : List (Nat × Nat)} {v : Value} (h : tH O f (sY σ bX) v) : tH (fun id g u => O (σ id) g u) f bX v := by
 obtain ⟨vs, h1, h2, h3⟩ := h
 refine ⟨vs, h1, by unfold sY at h2; rw [afs] at h2; exact h2, fun j p hj => ?_⟩
 obtain ⟨u, q1, q2⟩ := h3 j (σ p.1, p.2) (by unfold sY; rw [aem, hj]; rfl)
 exact ⟨u, q1, q2⟩
def oJ (μ : Mu) (h : List ak) (w : World) (f : Nat) (bX : List (Nat × Nat)) (v : Value) : Prop := tH (fun id g u => cc μ h w id g 0 0 u) f bX v
def uq : PV → Bool
 | .int _ _ => true
 | .bool _ => true
 | .str _ => true
 | .iZ => true
 | _ => false
def kE : PV → Bool
 | .agg cs => cs.all uq
 | v => uq v
def tn : PV → Value → Prop
 | .int k n, v => v = .int k n
 | .bool b, v => v = .bool b
 | .str s, v => v = .string ⟨⟨s⟩⟩
 | _, v => v.oneCell' = true
def ri : PV → Value → Prop
 | .agg cs, v => ∃ vs : Array Value, v = .agg vs ∧ vs.size = cs.length ∧ ∀ (j : Nat) (pv : PV), cs[j]? = some pv → ∃ u : Value, vs[j]? = some u ∧ tn pv u
 | .iZ, _ => True
 | pv, v => tn pv v
def wB (C : PV → Value → Prop) (base sz n : Nat) (e : TypeId) (f : Nat → List PV) : Obj → Prop
 | .cells cur e' z => e' = e ∧ z = (0, 0) ∧ base + n * sz ≤ cur.size ∧ ∀ (i j : Nat) (pv : PV), i < n → (f i)[j]? = some pv → ∃ v : Value, cur[base + i * sz + j]? = some v ∧ C pv v
 | .map es _ => es.size = n ∧ ∀ i, i < n → ∃ (kp vp : PV) (en : MapEntry), f i = [kp, vp] ∧ kE kp = true ∧ kE vp = true ∧ es[i]? = some en ∧ ri kp en.key ∧ ri vp en.val
 | _ => False
theorem wB.mono {C C' : PV → Value → Prop} {base sz n : Nat} {e : TypeId} {f : Nat → List PV} {o : Obj} (h : wB C base sz n e f o) (hc : ∀ (i j : Nat) (pv : PV) (v : Value), i < n → (f i)[j]? = some pv → C pv v → C' pv v) : wB C' base sz n e f o := by
 cases o with
 | cells cur e' z =>
  obtain ⟨h1, h2, h3, h4⟩ := h
  exact ⟨h1, h2, h3, fun i j pv hi hj => let ⟨v, q1, q2⟩ := h4 i j pv hi hj; ⟨v, q1, hc i j pv v hi hj q2⟩⟩
 | map es c => exact h
 | _ => exact h.elim
def bZ (μ : Mu) (h : List ak) (S : Nat → Prop) (w : World) : PV → Value → Prop
 | .own id gen off len, v => bL μ h w id gen off len v
 | .aG id gen i off, v => cc μ h w id gen i off v
 | .lA id, v => gJ μ h w id v
 | .oP f bX, v => oJ μ h w f bX v
 | .iZ, v => v.oneCell' = true
 | .bf _ _ _ _ _, v => v.oneCell' = true
 | .agg _, _ => False
 | .fu _, _ => False
 | pv, v => aV S w pv v
def pf (μ : Mu) (h : List ak) (S : Nat → Prop) (w : World) : PV → Value → Prop
 | .bf sz n e f F, v => ml S w (.bf sz n e f F) v
 | pv, v => bZ μ h S w pv v
def jX (μ : Mu) (h : List ak) (S : Nat → Prop) (w : World) : PV → Value → Prop
 | .agg cs, v => ∃ vs : Array Value, v = .agg vs ∧ vs.size = cs.length ∧ ∀ (j : Nat) (pv : PV), cs[j]? = some pv → ∃ u : Value, vs[j]? = some u ∧ bZ μ h S w pv u
 | .iZ, _ => True
 | pv, v => bZ μ h S w pv v
def bN (μ : Mu) (h : List ak) (S : Nat → Prop) (w : World) : PV → Value → Prop
 | .fu ps, v => ∃ vs : Array Value, v = .tuple vs ∧ vs.size = ps.length ∧ ∀ (j : Nat) (pv : PV), ps[j]? = some pv → ∃ u : Value, vs[j]? = some u ∧ jX μ h S w pv u
 | pv, v => jX μ h S w pv v
def cH (μ : Mu) (h : List ak) (S : Nat → Prop) (w : World) : Prop :=
 ∀ (id g sz n : Nat) (e : TypeId) (f : Nat → List PV), h[id]? = some (ak.row g sz n e f) → (∀ i, i < n → (f i).length = sz) ∧ match μ id with
  | none => n = 0
  | some (b, base) => ∃ o : Obj, w.heap[b]? = some o ∧ wB (pf μ h S w) base sz n e f o
theorem cH.cells {μ : Mu} {h : List ak} {S : Nat → Prop} {w : World} {b base k sz n : Nat} {e : TypeId} {f : Nat → List PV} (hc : lj w b k) (ho : ∃ o : Obj, w.heap[b]? = some o ∧ wB (pf μ h S w) base sz n e f o) :
  ∃ cur : Array Value, w.heap[b]? = some (.cells cur e (0, 0)) ∧ base + n * sz ≤ cur.size ∧
    ∀ (i j : Nat) (pv : PV), i < n → (f i)[j]? = some pv → ∃ v : Value, cur[base + i * sz + j]? = some v ∧ pf μ h S w pv v := by
 obtain ⟨cur, e', h1, _⟩ := hc
 obtain ⟨o, h2, h3⟩ := ho
 obtain rfl := aeC (h1.symm.trans h2)
 obtain ⟨rfl, _, q1, q2⟩ := h3
 exact ⟨cur, h1, q1, q2⟩
theorem cH.Hl {C : PV → Value → Prop} {w : World} {b base sz n : Nat} {e : TypeId} {f : Nat → List PV} (ho : ∃ cur : Array Value, w.heap[b]? = some (.cells cur e (0, 0)) ∧ base + n * sz ≤ cur.size ∧
    ∀ (i j : Nat) (pv : PV), i < n → (f i)[j]? = some pv → ∃ v : Value, cur[base + i * sz + j]? = some v ∧ C pv v) : ∃ o : Obj, w.heap[b]? = some o ∧ wB C base sz n e f o := by
 obtain ⟨cur, h1, h2, h3⟩ := ho
 exact ⟨_, h1, rfl, rfl, h2, h3⟩
def CP (μ : Mu) (h : List ak) (b : Nat) : Prop := ∃ (id g sz n : Nat) (e : TypeId) (f : Nat → List PV) (base : Nat), h[id]? = some (ak.row g sz n e f) ∧ μ id = some (b, base)
def eg (h : List ak) (id i j b : Nat) : Prop := ∃ (g sz n : Nat) (e : TypeId) (f : Nat → List PV) (cf n' : Nat) (e' : TypeId) (f' : Nat → List PV) (F : Nat → Prop), h[id]? = some (ak.row g sz n e f) ∧ i < n ∧ (f i)[j]? = some (.bf cf n' e' f' F) ∧ F b
def cQ (μ : Mu) (h : List ak) (b : Nat) : Prop := CP μ h b ∨ ∃ id i j, eg h id i j b
def LI (S : Nat → Prop) (w : World) : Prop := (∀ p, p ∈ FD → S p.1 ∧ ∃ t z, w.heap[p.1]? = some (.cells p.2 t z)) ∧ (∀ g, g ∈ xI → S g ∧ ∃ tp p t z, w.heap[g]? = some (.cells #[.iface tp p] t z)) ∧
 ∀ g, g ∈ KD → S g ∧ ∃ m t z, w.heap[g]? = some (.cells #[.int .i64 m] t z)
theorem LI.BI {S S' : Nat → Prop} {w w' : World} (h : LI S w) (hb : ∀ b, S b → w'.heap[b]? = w.heap[b]?) (hs : ∀ b, S b → S' b) : LI S' w' :=
 ⟨fun p hp => ⟨hs _ (h.1 p hp).1, by rw [hb _ (h.1 p hp).1]; exact (h.1 p hp).2⟩, fun g hg => ⟨hs _ (h.2.1 g hg).1, by rw [hb _ (h.2.1 g hg).1]; exact (h.2.1 g hg).2⟩,
  fun g hg => ⟨hs _ (h.2.2 g hg).1, by rw [hb _ (h.2.2 g hg).1]; exact (h.2.2 g hg).2⟩⟩
structure tG (μ : Mu) (h : List ak) (S : Nat → Prop) (w : World) : Prop where
 apart : ∀ b, cQ μ h b → ¬ S b
 lt : ∀ b, cQ μ h b → b < w.heap.size
 slt : ∀ b, S b → b < w.heap.size
 inj : ∀ (i j g sz n : Nat) (e : TypeId) (f : Nat → List PV) (g' cf n' : Nat) (e' : TypeId) (f' : Nat → List PV) (b o o' : Nat), h[i]? = some (ak.row g sz n e f) → h[j]? = some (ak.row g' cf n' e' f') → μ i = some (b, o) → μ j = some (b, o') → i = j
 known : LI S w
 hv : ∀ b, CP μ h b → ∀ id i j, ¬ eg h id i j b
 hh : ∀ b id i j id' i' j', eg h id i j b → eg h id' i' j' b → id = id' ∧ i = i' ∧ j = j'
structure Fr (μ : Mu) (h : List ak) (S : Nat → Prop) (w : World) (μ' : Mu) (h' : List ak) (S' : Nat → Prop) (w' : World) : Prop where
 len : h.length ≤ h'.length
 blocks : ∀ b, b < w.heap.size → ¬ cQ μ h b → w'.heap[b]? = w.heap[b]?
 sub : ∀ b, S b → S' b
 new : ∀ b, S' b → S b ∨ cQ μ h b ∨ w.heap.size ≤ b
 own : ∀ b, cQ μ' h' b → cQ μ h b ∨ w.heap.size ≤ b
 size : w.heap.size ≤ w'.heap.size
 os : w'.os = w.os
 tape : w'.tape = w.tape
 output : w'.output = w.output
 B4 : ∀ (id g sz n : Nat) (e : TypeId) (f : Nat → List PV), h[id]? = some (ak.row g sz n e f) → match h'[id]? with
  | some (ak.row g' cf n' e' _) => g ≤ g' ∧ (g' = g → μ' id = μ id ∧ cf = sz ∧ n' = n ∧ e' = e)
  | some ak.dead => True
  | none => False
 dead : ∀ id : Nat, h[id]? = some ak.dead → h'[id]? = some ak.dead
 bX : ∀ b k, cQ μ h b → lj w b k → lj w' b k
 maps : ∀ (id g sz n : Nat) (e : TypeId) (f : Nat → List PV) (b base : Nat), h[id]? = some (ak.row g sz n e f) → μ id = some (b, base) → sP w b →
  sP w' b ∧ (h'[id]? = some ak.dead ∨ ((∃ g' cf n' e' f', h'[id]? = some (ak.row g' cf n' e' f')) ∧ μ' id = some (b, base)))
 vO : ∀ b id i j, eg h id i j b → sP w b → sP w' b
def aao (P : Program) (f : FuncId) : Prop := ∃ fn c, P.funcs[f]? = some fn ∧ fn.body = some c ∧ (fn.name == "runtime.NumGoroutine") = false
def ACall (P : Program) (f : FuncId) (args : List PV) (h : List ak) (R : PV → List ak → Prop) : Prop :=
 aao P f ∧ ∀ (w : World) (vs : Array Value) (μ : Mu) (S : Nat → Prop), cH μ h S w → tG μ h S w → vs.size = args.length →
  (∀ (j : Nat) (pv : PV), args[j]? = some pv → ∃ v : Value, vs[j]? = some v ∧ jX μ h S w pv v) →
  Calls P f vs w (fun e w' => ∃ (v : Value) (res : PV) (h' : List ak) (μ' : Mu) (S' : Nat → Prop), e = .returned v ∧ R res h' ∧ bN μ' h' S' w' res v ∧ cH μ' h' S' w' ∧ tG μ' h' S' w' ∧ Fr μ h S w μ' h' S' w')
def bG : PV → Bool
 | .int _ _ => true
 | .bool _ => true
 | .str _ => true
 | .aq => true
 | .gz _ _ _ => true
 | .gf _ => true
 | .fn _ => true
 | _ => false
def ef : PV → Bool
 | .bf _ _ _ _ _ => true
 | _ => false
inductive AA : PV → PV → Prop
 | mk (sz n : Nat) (e : TypeId) (f f' : Nat → List PV) (F : Nat → Prop) (hl : ∀ i, i < n → (f' i).length = (f i).length) (hf : ∀ (i j : Nat) (pv fR : PV), i < n → (f i)[j]? = some pv → (f' i)[j]? = some fR → ef pv = false → fR = pv) (ho : ∀ (i j : Nat) (pv fR : PV), i < n → (f i)[j]? = some pv → (f' i)[j]? = some fR → ef pv = true → AA pv fR)
   (hp : ∀ (i j : Nat) (fR : PV), i < n → (f' i)[j]? = some fR → bG fR = true) : AA (.bf sz n e f F) (.gz sz n f')
inductive Fz (h η : List ak) (k : List Nat) : PV → PV → Prop
 | int (k' : IntKind) (n : Int) : Fz h η k (.int k' n) (.int k' n)
 | bool (b : Bool) : Fz h η k (.bool b) (.bool b)
 | str (s : List UInt8) : Fz h η k (.str s) (.str s)
 | aq : Fz h η k .aq .aq
 | S6 (sz : Nat) (f : Nat → List PV) : Fz h η k .aq (.gz sz 0 f)
 | aaj (id id' g' cf : Nat) (e' : TypeId) (f' : Nat → List PV) (hk : k[id']? = some id) (ho : h[id]? = none) (hη : η[id']? = some (ak.row g' cf 0 e' f')) : Fz h η k .aq (.own id' g' 0 0)
 | fn (f : Nat) : Fz h η k (.fn f) (.fn f)
 | gz (sz n : Nat) (f f' : Nat → List PV) (hf : ∀ i, i < n → f' i = f i) : Fz h η k (.gz sz n f) (.gz sz n f')
 | gf (cs : List PV) : Fz h η k (.gf cs) (.gf cs)
 | iZ (pv : PV) : Fz h η k pv .iZ
 | bf (sz n : Nat) (e : TypeId) (f : Nat → List PV) (F : Nat → Prop) : Fz h η k (.bf sz n e f F) (.bf sz n e f F)
 | LA (sz : Nat) (e : TypeId) (f : Nat → List PV) : Fz h η k .aq (.bf sz 0 e f (fun _ => False))
 | own (id id' g g' sz cf n n' off len : Nat) (e e' : TypeId) (f f' : Nat → List PV) (hk : k[id']? = some id) (ho : h[id]? = some (ak.row g sz n e f)) (hη : η[id']? = some (ak.row g' cf n' e' f')) (hn : off + len ≤ n') : Fz h η k (.own id g off len) (.own id' g' off len)
 | aG (id id' g g' sz cf n n' i off : Nat) (e e' : TypeId) (f f' : Nat → List PV) (hk : k[id']? = some id) (ho : h[id]? = some (ak.row g sz n e f)) (hη : η[id']? = some (ak.row g' cf n' e' f')) (hn : i < n') : Fz h η k (.aG id g i off) (.aG id' g' i off)
 | lA (id id' g g' sz cf n n' : Nat) (e e' : TypeId) (f f' : Nat → List PV) (hk : k[id']? = some id) (ho : h[id]? = some (ak.row g sz n e f)) (hη : η[id']? = some (ak.row g' cf n' e' f')) : Fz h η k (.lA id) (.lA id')
 | oP (f : Nat) (bX xK : List (Nat × Nat)) (hl : xK.length = bX.length) (hc : ∀ (j : Nat) (p p' : Nat × Nat), bX[j]? = some p → xK[j]? = some p' → k[p'.1]? = some p.1 ∧ (∃ sz n e f, h[p.1]? = some (ak.row p.2 sz n e f)) ∧ ∃ sz n e f, η[p'.1]? = some (ak.row p'.2 sz n e f) ∧ 0 < n) : Fz h η k (.oP f bX) (.oP f xK)
 | Z9 (id g sz n off len : Nat) (e : TypeId) (f f' : Nat → List PV) (hk : id ∉ k) (ho : h[id]? = some (ak.row g sz n e f)) (hl : ∀ i, i < len → (f' i).length = (f (off + i)).length)
   (hp : ∀ (i j : Nat) (fR : PV), i < len → (f' i)[j]? = some fR → bG fR = true)
   (hf : ∀ (i j : Nat) (pv fR : PV), i < len → (f (off + i))[j]? = some pv → (f' i)[j]? = some fR → ¬ AA pv fR → Fz h η k pv fR) : Fz h η k (.own id g off len) (.gz sz len f')
 | agg (cs Dm : List PV) (hl : Dm.length = cs.length) (hc : ∀ (j : Nat) (pv fR : PV), cs[j]? = some pv → Dm[j]? = some fR → Fz h η k pv fR) : Fz h η k (.agg cs) (.agg Dm)
 | fu (cs Dm : List PV) (hl : Dm.length = cs.length) (hc : ∀ (j : Nat) (pv fR : PV), cs[j]? = some pv → Dm[j]? = some fR → Fz h η k pv fR) : Fz h η k (.fu cs) (.fu Dm)
def wE (h η : List ak) (k : List Nat) : List PV → List PV → Prop
 | [], [] => True
 | a :: l, b :: r => Fz h η k a b ∧ wE h η k l r
 | _, _ => False
def LQ : List Nat → Nat → Bool
 | [], _ => false
 | a :: r, x => match Nat.beq a x with
  | true => true
  | false => LQ r x
def oM : List Nat → Bool
 | [] => true
 | a :: r => match LQ r a with
  | true => false
  | false => oM r
def oq : List ak → List Nat → List Nat
 | .row _ _ _ _ _ :: r, i :: is => i :: oq r is
 | .dead :: r, _ :: is => oq r is
 | _, _ => []
def vT (h η : List ak) (k : List Nat) (m : Nat) (o : ak) (id' id : Nat) : Prop :=
 match o, h[id]? with
 | .row g' cf n' e' f', some (ak.row g sz n e f) => (id' < m → id' = id ∧ g' = g) ∧ cf = sz ∧ (n' = n ∨ m ≤ id' ∧ sz ≠ 2 ∧ n' ≤ n) ∧ e' = e ∧
   ∀ i, i < n' → wE h η k (f i) (f' i)
 | .dead, _ => True
 | .row _ _ n' _ _, none => m ≤ id' ∧ n' = 0
 | _, _ => False
def gA (l : List PV) (off : Nat) : List PV → List PV
 | [] => l
 | c :: r => gA (l.set off c) (off + 1) r
def cellsOf : PV → List PV
 | .agg cs => cs
 | v => [v]
def dk (h : List ak) (id : Nat) : ak := h.getD id .dead
def force (v : PV) (K : PV → Prop) : Prop :=
 match v with
 | .int k n => K (.int k n)
 | .bool b => K (.bool b)
 | .str s => K (.str s)
 | .aq => K .aq
 | .gz sz n f => K (.gz sz n f)
 | .gf cs => K (.gf cs)
 | .own id gen off len => K (.own id gen off len)
 | .aG id gen i off => K (.aG id gen i off)
 | .lA id => K (.lA id)
 | .oP f bX => K (.oP f bX)
 | .fn f => K (.fn f)
 | .agg cs => K (.agg cs)
 | .fu vs => K (.fu vs)
 | .iZ => K .iZ
 | .bf sz n e f F => K (.bf sz n e f F)
theorem cp {v : PV} {K : PV → Prop} (h : force v K) : K v := by cases v <;> exact h
def Eh (K : List PV → Prop) : Nat → List PV → List PV → Prop
 | 0, _, acc => K acc.reverse
 | _ + 1, [], _ => False
 | n + 1, c :: r, acc => force c fun v => Eh K n r (v :: acc)
theorem pS {K : List PV → Prop} : ∀ (n : Nat) (l acc : List PV), Eh K n l acc → n ≤ l.length ∧ K (acc.reverse ++ l.take n)
 | 0, l, acc, h => ⟨aeo _, by simp only [List.take_zero, aeI]; exact h⟩
 | _ + 1, [], _, h => h.elim
 | n + 1, c :: r, acc, h => by
  obtain ⟨h1, h2⟩ := pS n r (c :: acc) (cp h)
  exact ⟨by simp; omega, by simpa using h2⟩
def yO (T : pr) (t : Nat) (cells : List PV) (K : PV → Prop) : Prop :=
 match T.get t with
 | .struct sz _ _ => Eh (fun l => K (.agg l)) sz cells []
 | .other => False
 | _ => match cells with
  | c :: _ => force c K
  | [] => False
def xy (T : pr) (t : Nat) (a : PV) (h : List ak) (K : PV → Prop) : Prop :=
 match a with
 | .gf cells => yO T t cells K
 | .aG id gen i off => match dk h id with
  | .row g _ _ _ f => g = gen ∧ ∃ c, f i = c ∧ yO T t (c.drop off) K
  | .dead => False
 | _ => False
def bx (f : Nat → List PV) (i : Nat) (l : List PV) : Nat → List PV := fun k => bif Nat.beq k i then l else f k
def zN : List PV → Bool
 | [] => true
 | .int _ _ :: r => zN r
 | .bool _ :: r => zN r
 | .str _ :: r => zN r
 | _ => false
def Hb (g : Bool) (q : Bool) : Option Bool → Option Bool
 | some c => match g with
  | true => some (q && c)
  | false => none
 | none => none
def DM : List PV → List PV → List PV → Option Bool
 | [], [], [] => some true
 | .int k _ :: z, .int k1 a :: r, .int k2 b :: r' => Hb (rh k k1 && rh k k2) (a == b) (DM z r r')
 | .bool _ :: z, .bool a :: r, .bool b :: r' => Hb true (a == b) (DM z r r')
 | .str _ :: z, .str a :: r, .str b :: r' => Hb true (a == b) (DM z r r')
 | _, _, _ => none
def lf (ti : TI) (a b : PV) : Option Bool :=
 match ti, a, b with
 | .int k, .int k1 x, .int k2 y => Hb (rh k k1 && rh k k2) (x == y) (some true)
 | .str, .str x, .str y => some (x == y)
 | .struct _ _ z, .agg xs, .agg ys => match zN z with
  | true => DM z xs ys
  | false => none
 | _, _, _ => none
def DQ (ti : TI) (f : Nat → List PV) (n : Nat) (kv : PV) : Prop := ∀ j, j < n → ∃ kp vp, f j = [kp, vp] ∧ lf ti kv kp = some false
def MAt (ti : TI) (f : Nat → List PV) (n : Nat) (kv : PV) (i : Nat) (r : PV) : Prop := i < n ∧ DQ ti f i kv ∧ ∃ kp, f i = [kp, r] ∧ lf ti kv kp = some true
def OW (ti : TI) (f : Nat → List PV) (n : Nat) (kv zv r : PV) (b : Bool) : Prop := (b = true ∧ ∃ i, MAt ti f n kv i r) ∨ (b = false ∧ r = zv ∧ DQ ti f n kv)
def aai (ti : TI) (f : Nat → List PV) (n : Nat) (kv vv : PV) (n' : Nat) (f' : Nat → List PV) : Prop :=
 (∃ i r, MAt ti f n kv i r ∧ n' = n ∧ f' i = [kv, vv] ∧ ∀ j, j < n → j ≠ i → f' j = f j) ∨ (DQ ti f n kv ∧ n' = n + 1 ∧ f' n = [kv, vv] ∧ ∀ j, j < n → f' j = f j)
def Lt (ti : TI) (bo : BinOp) (x y : PV) (K : PV → Prop) : Prop :=
 match x, y with
 | .int k a, .int k' b =>
  match bo with
  | .shl => 0 ≤ b ∧ K (.int k (k.wrap (a * 2 ^ min b.toNat k.bits)))
  | .shr => 0 ≤ b ∧ K (.int k (a.fdiv (2 ^ min b.toNat k.bits)))
  | _ => eh (rh k k') <| match bo with
  | .and => K (.int k (bits .and k a b))
  | .or => K (.int k (bits .or k a b))
  | .xor => K (.int k (bits .xor k a b))
  | .andNot => K (.int k (bits .andNot k a b))
  | .add => K (.int k (k.wrap (a + b)))
  | .sub => K (.int k (k.wrap (a - b)))
  | .mul => K (.int k (k.wrap (a * b)))
  | .quo => b ≠ 0 ∧ K (.int k (k.wrap (a.tdiv b)))
  | .rem => b ≠ 0 ∧ K (.int k (a.tmod b))
  | .eql => K (.bool (a == b))
  | .neq => K (.bool (a != b))
  | .lss => K (.bool (decide (a < b)))
  | .leq => K (.bool (decide (a ≤ b)))
  | .gtr => K (.bool (decide (a > b)))
  | .geq => K (.bool (decide (a ≥ b)))
  | _ => False
 | .bool a, .bool b => match ti, bo with
  | .bool, .eql => K (.bool (a == b))
  | .bool, .neq => K (.bool (!(a == b)))
  | _, _ => False
 | .str a, .str b => match bo with
  | .add => a.length + b.length ≤ 4611686018427387904 ∧ ∃ s, a ++ b = s ∧ K (.str s)
  | .eql => K (.bool (a == b))
  | .neq => K (.bool (!(a == b)))
  | .lss => K (.bool (Op.bytesLess a b))
  | .leq => K (.bool (Op.bytesLess a b || a == b))
  | .gtr => K (.bool !(Op.bytesLess a b || a == b))
  | .geq => K (.bool !(Op.bytesLess a b))
  | _ => False
 | .agg xs, .agg ys => match ti with
  | .struct _ _ z => eh (zN z) (match DM z xs ys with
   | some b => match bo with
    | .eql => ∃ c, b = c ∧ K (.bool c)
    | .neq => ∃ c, b = c ∧ K (.bool !c)
    | _ => False
   | none => False)
  | _ => False
 | _, _ => False
def BT (x : PV) (lo hi : Option PV) (K : PV → Prop) : Prop :=
 match x with
 | .gz sz n f => match lo, hi with
  | none, none => K (.gz sz n f)
  | some (.int _ l), none => (0 ≤ l ∧ l ≤ n) ∧ K (.gz sz (n - l.toNat) (fun i => f (l.toNat + i)))
  | none, some (.int _ m) => (0 ≤ m ∧ m ≤ n) ∧ K (.gz sz m.toNat f)
  | some (.int _ l), some (.int _ m) => (0 ≤ l ∧ l ≤ m ∧ m ≤ n) ∧ K (.gz sz (m.toNat - l.toNat) (fun i => f (l.toNat + i)))
  | _, _ => False
 | .own id gen off len => match lo, hi with
  | none, none => K (.own id gen off len)
  | some (.int _ l), none => (0 ≤ l ∧ l ≤ len) ∧ K (.own id gen (off + l.toNat) (len - l.toNat))
  | none, some (.int _ m) => (0 ≤ m ∧ m ≤ len) ∧ K (.own id gen off m.toNat)
  | some (.int _ l), some (.int _ m) => (0 ≤ l ∧ l ≤ m ∧ m ≤ len) ∧ K (.own id gen (off + l.toNat) (m.toNat - l.toNat))
  | _, _ => False
 | .str s => match lo, hi with
  | none, none => K (.str s)
  | some (.int _ l), none => (0 ≤ l ∧ l ≤ s.length) ∧ K (.str (s.drop l.toNat))
  | none, some (.int _ m) => (0 ≤ m ∧ m ≤ s.length) ∧ K (.str (s.take m.toNat))
  | some (.int _ l), some (.int _ m) => (0 ≤ l ∧ l ≤ m ∧ m ≤ s.length) ∧ K (.str ((s.take m.toNat).drop l.toNat))
  | _, _ => False
 | _ => False
def He (K : PV → Prop) (v : PV) : Prop :=
 match v with
 | .gz sz n f => ∃ n' f', n' = n ∧ (∀ i, i < n' → f' i = f i) ∧ K (.gz sz n' f')
 | .str s => ∃ s', s = s' ∧ K (.str s')
 | .own id g off n => ∃ Rl n', Rl = off ∧ n' = n ∧ K (.own id g Rl n')
 | v => K v
def Q4 (n : Nat) (hi mx : Option PV) : Prop :=
 match mx with
 | none => True
 | some (.int _ q) => match hi with
  | some (.int _ m) => m ≤ q ∧ q ≤ n
  | _ => False
 | _ => False
def isByte : List PV → Bool
 | [.int .u8 _] => true
 | _ => false
def byteOf : List PV → UInt8
 | [.int _ v] => UInt8.ofNat v.toNat
 | _ => 0
def wx (v : PV) (h : List ak) (K : List UInt8 → Prop) : Prop :=
 match v with
 | .aq => K []
 | .gz sz n f => eh (Nat.beq sz 1) (∃ s : List UInt8, s.length = n ∧ (∀ i, i < n → f i = [.int .u8 (s.getD i 0).toNat]) ∧ K s)
 | .own id gen off n => match dk h id with
  | .row g sz _ _ f => g = gen ∧ eh (Nat.beq sz 1) (∃ s : List UInt8, s.length = n ∧ (∀ i, i < n → f (off + i) = [.int .u8 (s.getD i 0).toNat]) ∧ K s)
  | .dead => False
 | _ => False
def my : PV → Bool
 | .agg _ => false
 | .fu _ => false
 | .iZ => false
 | .bf _ _ _ _ _ => false
 | _ => true
def storable : PV → Bool
 | .agg cs => cs.all my
 | v => my v
def pT (env : Env) (sz : Nat) (fl : List (Nat × Nat × Bool)) (K : List PV → Prop) : List (Nat × Operand) → List PV → Prop
 | [], acc => K acc
 | (k, x) :: r, acc => match fl[k]? with
  | some (o, size, _) => force (ev env x) fun v => eh (storable v && Nat.beq (cellsOf v).length size && Nat.ble (o + size) sz) (pT env sz fl K r (gA acc o (cellsOf v)))
  | none => False
def ur (env : Env) (K : List (Nat × Nat) → Prop) : List Operand → List (Nat × Nat) → Prop
 | [], acc => K acc.reverse
 | x :: r, acc => match ev env x with
  | .aG id gen 0 0 => ur env K r ((id, gen) :: acc)
  | _ => False
def cz (T : pr) (op : Op) (env : Env) (h : List ak) (K : PV → Prop) : Prop :=
 match op with
 | .move x => force (ev env x) K
 | .assign x => force (ev env x) K
 | .pick c a b => match ev env c with
  | .bool t => fv t (force (ev env a) K) (force (ev env b) K)
  | _ => False
 | .binOp bo t x y _ => Lt (T.get t) bo (ev env x) (ev env y) K
 | .unOp u _ x => match u, ev env x with
  | .not, .bool b => K (.bool !b)
  | .neg, .int k n => K (.int k (k.wrap (0 - n)))
  | _, _ => False
 | .load t a => xy T t (ev env a) h K
 | .convert s d x => match T.get s, T.get d, ev env x with
  | .int _, .int k, .int _ n => K (.int k (k.wrap n))
  | .slice e _ _ _, .str, v => match T.get e with
   | .int .u8 => wx v h (fun s => K (.str s))
   | _ => False
  | _, _, _ => False
 | .nilCheck x => match ev env x with
  | .gf cs => K (.gf cs)
  | .aG id gen i off => match dk h id with
   | .row g _ _ _ _ => g = gen ∧ K (.aG id gen i off)
   | .dead => False
  | _ => False
 | .fieldAddr s x k => match T.get s with
  | .struct _ fl _ => match fl[k]? with
   | some (o, _, _) => match ev env x with
    | .gf cs => K (.gf (cs.drop o))
    | .aG id gen i off => match dk h id with
     | .row g _ _ _ _ => g = gen ∧ K (.aG id gen i (off + o))
     | .dead => False
    | _ => False
   | none => False
  | _ => False
 | .field s x k => match T.get s with
  | .struct _ fl _ => match fl[k]? with
   | some (o, size, ag) => match ev env x with
    | .agg cs => match ag with
     | true => Eh (fun l => K (.agg l)) size (cs.drop o) []
     | false => match cs.drop o with
      | c :: _ => force c K
      | [] => False
    | _ => False
   | none => False
  | _ => False
 | .build t parts => match T.get t with
  | .struct sz fl z => pT env sz fl (fun cs => K (.agg cs)) parts.toList z
  | _ => False
 | .indexAddr t x i => match T.get t, ev env x, ev env i with
  | .slice _ sz _ _, .gz cf n f, .int _ i => eh (Nat.beq sz cf) ((0 ≤ i ∧ i < n) ∧ ∃ c, f i.toNat = c ∧ K (.gf c))
  | .slice _ sz _ _, .own id gen off len, .int _ i => match dk h id with
   | .row g cf _ _ _ => g = gen ∧ eh (Nat.beq sz cf) ((0 ≤ i ∧ i < len) ∧ ∃ j, off + i.toNat = j ∧ K (.aG id gen j 0))
   | .dead => False
  | _, _, _ => False
 | .index t x i => match T.get t, ev env x, ev env i with
  | .str, .str s, .int _ i => (0 ≤ i ∧ i < s.length) ∧ ∃ c, s.getD i.toNat 0 = c ∧ K (.int .u8 (c : UInt8).toNat)
  | _, _, _ => False
 | .lookup t x i ok => match T.get t, ev env x with
  | .map kt _ zv, .lA id => match dk h id with
   | .row _ _ n _ f => force (ev env i) fun kv => eh (lf (T.get kt) kv kv).isSome (∃ r b, OW (T.get kt) f n kv zv r b ∧ match ok with
    | true => K (.fu [r, .bool b])
    | false => force r K)
   | .dead => False
  | _, _ => False
 | .makeFunc fn first captured => match fn with
  | .func f => eh first.isEmpty (ur env (fun bX => K (.oP f bX)) captured.toList [])
  | _ => False
 | .extract x i => match ev env x with
  | .fu vs => match vs[i]? with
   | some v => force v K
   | none => False
  | _ => False
 | .slice t x lo hi mx => match T.get t, ev env x with
  | .slice _ sz _ _, .gz cf n f => eh (Nat.beq sz cf) (Q4 n (hi.map (ev env)) (mx.map (ev env)) ∧ BT (.gz cf n f) (lo.map (ev env)) (hi.map (ev env)) (He K))
  | .slice _ sz _ _, .own id gen off len => match dk h id with
   | .row g cf _ _ _ => g = gen ∧ eh (Nat.beq sz cf) (Q4 len (hi.map (ev env)) (mx.map (ev env)) ∧ BT (.own id gen off len) (lo.map (ev env)) (hi.map (ev env)) (He K))
   | .dead => False
  | .str, .str s => eh mx.isNone (BT (.str s) (lo.map (ev env)) (hi.map (ev env)) (He K))
  | _, _ => False
 | .call ⟨.builtin .len, args, ts⟩ => match args.toList, ts.toList with
  | [x], [t] => match T.get t, ev env x with
   | .slice _ _ _ _, .gz _ n _ => K (.int .i64 n)
   | .slice _ _ _ _, .aq => K (.int .i64 0)
   | .slice _ _ _ _, .own id gen _ n => match dk h id with
    | .row g _ _ _ _ => g = gen ∧ K (.int .i64 n)
    | .dead => False
   | .str, .str s => K (.int .i64 s.length)
   | .map _ _ _, .lA id => match dk h id with
    | .row _ _ n _ _ => K (.int .i64 n)
    | .dead => False
   | _, _ => False
  | _, _ => False
 | _ => False
def lJ : TI → Nat
 | .struct sz _ _ => sz
 | .other => 0
 | _ => 1
def BL : TI → Option (List PV)
 | .int k => some [.int k 0]
 | .bool => some [.bool false]
 | .str => some [.str []]
 | .slice _ _ _ _ => some [.aq]
 | .struct _ _ z => some z
 | _ => none
def zV (len : Nat) : Nat → List (Nat × Operand) → Bool
 | k, [] => Nat.beq k len
 | k, (i, _) :: r => Nat.beq i k && zV len (k + 1) r
def rp (env : Env) (sz : Nat) (K : List (List PV) → Prop) : List (Nat × Operand) → List (List PV) → Prop
 | [], acc => K acc.reverse
 | (_, x) :: r, acc => force (ev env x) fun v => eh (storable v && Nat.beq (cellsOf v).length sz) (rp env sz K r (cellsOf v :: acc))
theorem zW {env : Env} {sz : Nat} {K : List (List PV) → Prop} : ∀ (l : List (Nat × Operand)) (acc : List (List PV)), rp env sz K l acc →
  (∀ p ∈ l, storable (ev env p.2) = true ∧ Nat.beq (cellsOf (ev env p.2)).length sz = true) ∧ K (acc.reverse ++ l.map fun p => cellsOf (ev env p.2))
 | [], acc, h => ⟨fun p hp => by simp at hp, by simp only [aep, aeI]; exact h⟩
 | (i, x) :: r, acc, h => by
  obtain ⟨h1, h2⟩ := bF (cp h)
  simp only [so] at h1
  obtain ⟨h3, h4⟩ := zW r _ h2
  refine ⟨fun p hp => ?_, by simpa using h4⟩
  simp only [aed] at hp
  rcases hp with rfl | hp
  ·exact h1
  ·exact h3 p hp
def noO : List PV → Bool
 | [] => true
 | .bf _ _ _ _ _ :: _ => false
 | _ :: r => noO r
def HA (x : PV) (h : List ak) (sz : Nat) (K : Nat → (Nat → List PV) → Prop) : Prop :=
 match x with
 | .aq => K 0 (fun _ => [])
 | .gz cf m g => eh (Nat.beq sz cf) (K m g)
 | .own id gen off m => match dk h id with
  | .row g cf _ _ f => g = gen ∧ (∀ i, i < m → noO (f (off + i)) = true) ∧ eh (Nat.beq sz cf) (K m (fun i => f (off + i)))
  | .dead => False
 | .str s => eh (Nat.beq sz 1) <| K s.length (fun i => [.int .u8 (s.getD i 0).toNat])
 | _ => False
def qN (e sz bytes : Nat) (s x : PV) (h : List ak) (K : PV → List ak → Prop) : Prop :=
 match s with
 | .aq => HA x h sz fun m g => m * bytes ≤ 140737488355328 ∧ ∃ n' f', n' = m ∧ (∀ i, i < n' → nJ (g i) (f' i)) ∧ K (.own h.length 0 0 n') (h ++ [.row 0 sz n' e f'])
 | .own id gen off len => match dk h id with
  | .row g cf _ e' f => g = gen ∧ eh (Nat.beq sz cf && Nat.beq e e') (HA x h sz fun m q => (len + m) * bytes ≤ 140737488355328 ∧ ∃ n' f', n' = len + m ∧
    (∀ i, i < n' → nJ (bif Nat.blt i len then f (off + i) else q (i - len)) (f' i)) ∧
    K (.own id (gen + 1) 0 n') (h.set id (.row (gen + 1) sz n' e f')))
  | .dead => False
 | _ => False
def Rz (f : Nat → List PV) (off m : Nat) (q : Nat → List PV) : Nat → List PV := fun i => bif Nat.blt i off then f i else bif Nat.blt i (off + m) then q (i - off) else f i
def Cg (e sz : Nat) (s x : PV) (h : List ak) (K : PV → List ak → Prop) : Prop :=
 match s with
 | .own id gen off len => match dk h id with
  | .row g cf n e' f => g = gen ∧ eh (Nat.beq sz cf && Nat.beq e e') (HA x h sz fun m q => m ≤ len ∧ ∃ f', (∀ i, i < n → nJ (Rz f off m q i) (f' i)) ∧ K (.int .i64 m) (h.set id (.row g sz n e f')))
  | .dead => False
 | _ => False
def lK : PV → Bool
 | .fu _ => false
 | _ => true
inductive vU (P : Program) (f : FuncId) (args : List PV) (h : List ak) (K : PV → List ak → Prop) : Prop
 | mk (R : PV → List ak → Prop) (hA : ACall P f args h R) (hk : ∀ res h', R res h' → K res h')
def pop (P : Program) (T : pr) (op : Op) (env : Env) (h : List ak) (K : PV → List ak → Prop) : Prop :=
 match op with
 | .store t a x => match ev env a with
  | .aG id gen i off => match dk h id with
   | .row g sz n e f => g = gen ∧ force (ev env x) fun v => eh (storable v && Nat.ble 1 (lJ (T.get t)) && Nat.beq (lJ (T.get t)) (cellsOf v).length && Nat.ble (off + (cellsOf v).length) sz)
     (∃ c f', f i = c ∧ (∀ j, j < n → nJ (bx f i (gA c off (cellsOf v)) j) (f' j)) ∧ K .iZ (h.set id (.row g sz n e f')))
   | .dead => False
  | _ => False
 | .box t x => force (ev env x) fun v => eh (storable v && Nat.beq (cellsOf v).length (lJ (T.get t))) (K (.aG h.length 0 0 0) (h ++ [.row 0 (lJ (T.get t)) 1 t (fun _ => cellsOf v)]))
 | .alloc t => match BL (T.get t) with
  | some z => K (.aG h.length 0 0 0) (h ++ [.row 0 (lJ (T.get t)) 1 t (fun _ => z)])
  | none => False
 | .makeSlice t l c => match T.get t, ev env l, ev env c with
  | .slice e sz bytes zero, .int _ n, .int _ m => (0 ≤ n ∧ n ≤ m ∧ m ≤ 4611686018427387904 ∧ m.toNat * bytes ≤ 140737488355328) ∧ ∃ n' f', n' = n.toNat ∧ (∀ i, i < n' → nJ zero (f' i)) ∧ K (.own h.length 0 0 n') (h ++ [.row 0 sz n' e f'])
  | _, _, _ => False
 | .buildSlice t len parts => match T.get t with
  | .slice e sz _ _ => eh (zV len 0 parts.toList && Nat.ble (len * sz) 65536) (rp env sz (fun cs => ∃ f', (∀ i, i < len → nJ (cs.getD i []) (f' i)) ∧ K (.own h.length 0 0 len) (h ++ [.row 0 sz len e f'])) parts.toList [])
  | _ => False
 | .convert s d x => match T.get s, T.get d, ev env x with
  | .str, .slice e _ _ _, .str b => match T.get e with
   | .int .u8 => ∃ f', (∀ i, i < b.length → f' i = [.int .u8 (b.getD i 0).toNat]) ∧ K (.gz 1 b.length f') h
   | _ => False
  | _, _, _ => cz T (.convert s d x) env h (fun v => K v h)
 | .binOp bo t x y ty => match bo, T.get t, ev env x, ev env y with
  | .eql, .slice _ _ _ _, .gz _ n _, .aq => (n = 0 → K (.bool true) h) ∧ K (.bool false) h
  | _, _, _, _ => cz T (.binOp bo t x y ty) env h (fun v => K v h)
 | .makeMap t none => match T.get t with
  | .map _ _ _ => ∃ f', K (.lA h.length) (h ++ [.row 0 2 0 t f'])
  | _ => False
 | .mapUpdate t m k x => match T.get t, ev env m with
  | .map kt _ _, .lA id => match dk h id with
   | .row g sz n e f => force (ev env k) fun kv => force (ev env x) fun vv => eh ((lf (T.get kt) kv kv).isSome && kE vv && storable vv && Nat.beq sz 2)
     (∃ n' f', aai (T.get kt) f n kv vv n' f' ∧ K .iZ (h.set id (.row (g + 1) 2 n' e f')))
   | .dead => False
  | _, _ => False
 | .call ⟨.builtin .append, args, ts⟩ => match args.toList, ts.toList with
  | [s, x], [t, tx] => match T.get t, T.get tx with
   | .slice e sz bytes _, .slice _ _ _ _ => qN e sz bytes (ev env s) (ev env x) h K
   | .slice e sz bytes _, .str => qN e sz bytes (ev env s) (ev env x) h K
   | _, _ => False
  | _, _ => False
 | .call ⟨.builtin .copy, args, ts⟩ => match args.toList, ts.toList with
  | [s, x], [t, tx] => match T.get t, T.get tx with
   | .slice e sz _ _, .slice _ _ _ _ => Cg e sz (ev env s) (ev env x) h K
   | .slice e sz _ _, .str => Cg e sz (ev env s) (ev env x) h K
   | _, _ => False
  | _, _ => False
 | .call ⟨.value fo, args, _⟩ => match ev env fo with
  | .fn f => eh (args.toList.all (fun x => lK (ev env x))) (vU P f (args.toList.map (ev env)) h K)
  | .oP f bX => eh (args.toList.all (fun x => lK (ev env x))) (vU P f (args.toList.map (ev env) ++ bX.map fun p => .aG p.1 p.2 0 0) h K)
  | _ => False
 | op => cz T op env h (fun v => K v h)
def rl (P : Program) (T : pr) (all : List Oper) (K : Env → List ak → Prop) (l : List Oper) : Env → List ak → Prop :=
 List.rec (motive := fun _ => Env → List ak → Prop) K (fun o _ ih env h => match o.guard with
  | none => pop P T o.op env h (fun v h' => ih (dQ env o.dst v) h')
  | some (j, want) => match (all[j]?).bind (·.dst) with
   | some t => match env t with
    | .bool b => fv b
      (match want with
       | true => pop P T o.op (qo env t (.bool true)) h (fun v h' => ih (dQ (qo env t (.bool true)) o.dst v) h')
       | false => ih (dQ (qo env t (.bool true)) o.dst (.fu [])) h)
      (match want with
       | true => ih (dQ (qo env t (.bool false)) o.dst (.fu [])) h
       | false => pop P T o.op (qo env t (.bool false)) h (fun v h' => ih (dQ (qo env t (.bool false)) o.dst v) h'))
    | .fu [] => ih (dQ env o.dst (.fu [])) h
    | _ => False
   | none => False) l
abbrev XQ := Exit → Env → List ak → Prop
def XQ.then (next : Env → List ak → Prop) (Q : XQ) : XQ
 | .normal, env, h => next env h
 | e, env, h => Q e env h
def XQ.inBlock (id : Nat) (Q : XQ) : XQ
 | .exit id', env, h => match Nat.beq id' id with
  | true => Q .normal env h
  | false => Q (.exit id') env h
 | e, env, h => Q e env h
def KG (h η : List ak) (k : List Nat) (env : Env) : List (Nat × PV) → Prop
 | [] => True
 | (t, v) :: r => Fz h η k (env t) v ∧ KG h η k env r
def p6 (h η : List ak) (k : List Nat) (m : Nat) : Nat → List ak → List Nat → Prop
 | _, [], [] => True
 | i, o :: r, id :: r' => vT h η k m o i id ∧ p6 h η k m (i + 1) r r'
 | _, _, _ => False
def uz (m : Nat) (env : Env) (h : List ak) (σ : List (Nat × PV)) (η : List ak) : Prop :=
 ∃ k : List Nat, oM (oq η k) = true ∧ m ≤ k.length ∧ KG h η k env σ ∧ p6 h η k m 0 η k
def nR : Env := fun _ => .iZ
def Ht (h h1 : List ak) : Prop := ∃ (id g sz n : Nat) (e : TypeId) (f : Nat → List PV) (i j cf n' : Nat) (e' : TypeId) (f' : Nat → List PV) (F : Nat → Prop) (f1 : Nat → List PV), h[id]? = some (ak.row g sz n e f) ∧ i < n ∧
 (f i)[j]? = some (.bf cf n' e' f' F) ∧ f1 i = (f i).set j (.own h.length 0 0 n') ∧ (∀ k, k < n → k ≠ i → f1 k = f k) ∧ h1 = h.set id (.row g sz n e f1) ++ [.row 0 cf n' e' f']
def Hu (h : List ak) (id i j sub : Nat) (F : Nat → Prop) (h1 : List ak) : Prop := ∃ (g sz n : Nat) (e : TypeId) (f : Nat → List PV) (g2 qI n2 : Nat) (e2 : TypeId) (f2 f1 : Nat → List PV), h[id]? = some (ak.row g sz n e f) ∧ h[sub]? = some (ak.row g2 qI n2 e2 f2) ∧
 id ≠ sub ∧ i < n ∧ (f i)[j]? = some (.own sub g2 0 n2) ∧ (∀ k, k < n2 → ∀ c, c ∈ f2 k → bG c = true ∨ ef c = true) ∧ f1 i = (f i).set j (.bf qI n2 e2 f2 F) ∧ (∀ k, k < n → k ≠ i → f1 k = f k) ∧
 h1 = (h.set id (.row g sz n e f1)).set sub .dead
inductive qH (m : Nat) (body : (Env → List ak → Prop) → Env → List ak → Prop) : Env → List ak → Prop
 | take {env : Env} {h : List ak} (σ : List (Nat × PV)) (η : List ak) (ht : uz m env h σ η) (hk : qH m body (zd nR σ) η) : qH m body env h
 | step {env : Env} {h : List ak} (N : Env → List ak → Prop) (hN : ∀ e h', N e h' → qH m body e h') (hb : body N env h) : qH m body env h
 | ex {env : Env} {h : List ak} (h1 : List ak) (hx : Ht h h1) (hk : qH m body env h1) : qH m body env h
 | ab {env : Env} {h : List ak} (id i j sub : Nat) (h1 : (Nat → Prop) → List ak) (ha : ∀ F, Hu h id i j sub F (h1 F)) (hk : ∀ F, qH m body env (h1 F)) : qH m body env h
def aB (m : Nat) (body : (Env → List ak → Prop) → Env → List ak → Prop) (σ : List (Nat × PV)) (η : List ak) : Prop := qH m body (zd nR σ) η
inductive loopGo (m : Nat) (body : (Env → List ak → Prop) → Env → List ak → Prop) (env : Env) : List ak → Prop
 | mk {h : List ak} (σ : List (Nat × PV)) (η : List ak) (ht : uz m env h σ η) (hk : aB m body σ η) : loopGo m body env h
 | ex {h : List ak} (h1 : List ak) (hx : Ht h h1) (hk : loopGo m body env h1) : loopGo m body env h
 | ab {h : List ak} (id i j sub : Nat) (h1 : (Nat → Prop) → List ak) (ha : ∀ F, Hu h id i j sub F (h1 F)) (hk : ∀ F, loopGo m body env (h1 F)) : loopGo m body env h
theorem loopGo.to {m : Nat} {body : (Env → List ak → Prop) → Env → List ak → Prop} {env : Env} {h : List ak} (hg : loopGo m body env h) : qH m body env h := by
 induction hg with
 | mk σ η ht hk => exact .take σ η ht hk
 | ex h1 hx hk ih => exact .ex h1 hx ih
 | ab id i j sub h1 ha hk ih => exact .ab id i j sub h1 ha ih
theorem aB.enter {m : Nat} {body : (Env → List ak → Prop) → Env → List ak → Prop} {env : Env} {h : List ak} (σ : List (Nat × PV)) (η : List ak) (ht : uz m env h σ η) (hk : aB m body σ η) : qH m body env h := .take σ η ht hk
theorem aB.round {m : Nat} {body : (Env → List ak → Prop) → Env → List ak → Prop} {σ : List (Nat × PV)} {η : List ak} (hb : body (loopGo m body) (zd nR σ) η) : aB m body σ η :=
 .step (loopGo m body) (fun _ _ hg => hg.to) hb
inductive xL (m : Nat) (J : List (Nat × PV) → List ak → Prop) (env : Env) : List ak → Prop
 | mk {h : List ak} (σ : List (Nat × PV)) (η : List ak) (ht : uz m env h σ η) (hj : J σ η) : xL m J env h
 | ex {h : List ak} (h1 : List ak) (hx : Ht h h1) (hk : xL m J env h1) : xL m J env h
 | ab {h : List ak} (id i j sub : Nat) (h1 : (Nat → Prop) → List ak) (ha : ∀ F, Hu h id i j sub F (h1 F)) (hk : ∀ F, xL m J env (h1 F)) : xL m J env h
inductive uA (m : Nat) (A B : XQ → Env → List ak → Prop) (Q : XQ) (env : Env) : List ak → Prop
 | direct {h : List ak} (hd : A (XQ.then (B Q) Q) env h) : uA m A B Q env h
 | cut {h : List ak} (J : List (Nat × PV) → List ak → Prop) (ha : A (XQ.then (xL m J) Q) env h) (hb : ∀ σ η, J σ η → B Q (zd nR σ) η) : uA m A B Q env h
 | ex {h : List ak} (h1 : List ak) (hx : Ht h h1) (hk : uA m A B Q env h1) : uA m A B Q env h
 | ab {h : List ak} (id i j sub : Nat) (h1 : (Nat → Prop) → List ak) (ha : ∀ F, Hu h id i j sub F (h1 F)) (hk : ∀ F, uA m A B Q env (h1 F)) : uA m A B Q env h
def Eb : Op → Bool
 | .call ⟨.value _, _, _⟩ => false
 | .call ⟨.builtin .append, _, _⟩ => false
 | .call ⟨.builtin .copy, _, _⟩ => false
 | .store _ _ _ => false
 | .box _ _ => false
 | .alloc _ => false
 | .makeSlice _ _ _ => false
 | .buildSlice _ _ _ => false
 | .makeMap _ _ => false
 | .mapUpdate _ _ _ _ => false
 | _ => true
def xP : PV → Bool
 | .int _ _ => true
 | .bool _ => true
 | .str _ => true
 | .aq => true
 | _ => false
def Pg (P : Program) (fo : PV) (args : List PV) (h : List ak) (K : PV → Prop) : Prop :=
 match fo with
 | .fn f => eh (args.all lK) (∃ (jn : List PV) (v : PV), wE h [] [] args jn ∧ jn.all lK = true ∧ ACall P f jn [] (fun res _ => res = v) ∧ eh (xP v) (K v))
 | _ => False
def Wy (P : Program) (T : pr) (op : Op) (env : Env) (h : List ak) (K : PV → Prop) : Prop :=
 match op with
 | .call ⟨.value fo, args, _⟩ => Pg P (ev env fo) (args.toList.map (ev env)) h K
 | op => cz T op env h K
def wL (P : Program) (T : pr) (all : List Oper) (h : List ak) (K : Env → Prop) (l : List Oper) : Env → Prop :=
 List.rec (motive := fun _ => Env → Prop) K (fun o _ ih env => match o.guard with
  | none => Wy P T o.op env h (fun v => ih (dQ env o.dst v))
  | some (j, want) => match (all[j]?).bind (·.dst) with
   | some t => match env t with
    | .bool b => fv b
      (match want with
       | true => Wy P T o.op (qo env t (.bool true)) h (fun v => ih (dQ (qo env t (.bool true)) o.dst v))
       | false => ih (dQ (qo env t (.bool true)) o.dst (.fu [])))
      (match want with
       | true => ih (dQ (qo env t (.bool false)) o.dst (.fu []))
       | false => Wy P T o.op (qo env t (.bool false)) h (fun v => ih (dQ (qo env t (.bool false)) o.dst v)))
    | .fu [] => ih (dQ env o.dst (.fu []))
    | _ => False
   | none => False) l
def kL : List Nat → Nat → Bool
 | [], _ => false
 | a :: r, x => match Nat.beq a x with
  | true => true
  | false => kL r x
def RQ (done : List Nat) : Nat → List Oper → List Nat
 | _, [] => []
 | j, o :: r => match kL done j || !(o.after.toList.all fun e => !(Region.binds .any e) || kL done e.on) with
  | true => RQ done (j + 1) r
  | false => j :: RQ done (j + 1) r
def WA : List Nat → (Nat → Prop) → Prop
 | [], _ => True
 | [i], F => F i
 | i :: r, F => F i ∧ WA r F
def WB (P : Program) (T : pr) (all : List Oper) (K : Env → List ak → Prop) : Nat → List Nat → Env → List ak → Prop
 | 0, _, env, h => K env h
 | f + 1, done, env, h => WA (RQ done 0 all) (fun i => match all[i]? with
  | some o => rl P T all (fun env' h' => WB P T all K f (i :: done) env' h') [o] env h
  | none => False)
def Ph (ops : Array Oper) : Nat → Array Bool → List Nat → Bool
 | 0, listed, _ => (Region.ready .any ops listed).isEmpty
 | f + 1, listed, done => !(Region.ready .any ops listed).isEmpty && (Region.ready .any ops listed).all (fun i => kL (RQ done 0 ops.toList) i && Ph ops f (listed.setIfInBounds i true) (i :: done))
def tw : PV → List Nat
 | .own id _ _ _ => [id]
 | .aG id _ _ _ => [id]
 | .lA id => [id]
 | .oP _ bX => bX.map (·.1)
 | _ => []
def kJ (env : Env) (op : Op) : List Nat := match op with | .move _ => [] | _ => op.operands.toList.flatMap fun x => tw (ev env x)
def Pl (o : Oper) : List Nat := o.after.toList.filterMap fun e => match Region.binds .any e with | true => some e.on | false => none
def bS (all : List Oper) (i : Nat) : List Nat := match all[i]? with | some o => Pl o | none => []
def dw : List (Nat × List Nat) → Nat → List Nat
 | [], _ => []
 | (j, A) :: r, i => match Nat.beq j i with | true => A | false => dw r i
def ddL : List Nat → List Nat → List Nat
 | [], acc => acc
 | a :: r, acc => match kL acc a with | true => ddL r acc | false => ddL r (a :: acc)
def vD (all : List Oper) : List (Nat × Bool) → List (Nat × List Nat) → List (Nat × List Nat)
 | [], t => t
 | (i, _) :: r, t => vD all r ((i, ddL (bS all i ++ (bS all i).flatMap (dw t)) []) :: t)
def qO (ops : Array Oper) (i j : Nat) : Bool := match ops[i]?, ops[j]? with | some x, some y => Oper.apart ops x y | _, _ => false
def eZ (ops : Array Oper) (t : List (Nat × List Nat)) (p i : Nat × Bool) : Bool :=
 !(Nat.beq p.1 i.1) && !(kL (bS ops.toList p.1) i.1) && (kL (bS ops.toList i.1) p.1 || (qO ops p.1 i.1 && (p.2 || kL (dw t i.1) p.1)))
def cj (ops : Array Oper) (t : List (Nat × List Nat)) : List (Nat × Bool) → Bool
 | [] => true
 | p :: r => r.all (eZ ops t p) && cj ops t r
def KR (ops : Array Oper) (ord : List (Nat × Bool)) : Bool :=
 Nat.beq ord.length ops.size && (List.range ops.size).all (fun j => kL (ord.map (·.1)) j) && ord.all (fun p => Nat.blt p.1 ops.size && (bS ops.toList p.1).all (fun d => Nat.blt d ops.size && !(Nat.beq d p.1))) && cj ops (vD ops.toList ord []) ord
def FV (h h' : List ak) (K : Prop) : List Nat → Prop
 | [] => K
 | id :: r => dk h id = dk h' id ∧ FV h h' K r
def nS (WJ : List Nat) (h h' : List ak) (K : Prop) : List (Nat × List Nat) → Prop
 | [] => K
 | (j, ids) :: r => match kL WJ j with
  | true => nS WJ h h' K r
  | false => FV h h' (nS WJ h h' K r) ids
def Dr (P : Program) (T : pr) (st : Bool) (op : Op) (env : Env) (h : List ak) (G : PV → List ak → Prop) : Prop :=
 match st with
 | true => cz T op env h (fun v => G v h)
 | false => pop P T op env h G
def qQ (P : Program) (T : pr) (all : List Oper) (st : Bool) (o : Oper) (F : Env → PV → List ak → Prop) (env : Env) (h : List ak) : Prop :=
 match o.guard with
 | none => Dr P T st o.op env h (F env)
 | some (j, want) => match (all[j]?).bind (·.dst) with
  | some t => match env t with
   | .bool b => fv b
     (match want with
      | true => Dr P T st o.op (qo env t (.bool true)) h (F (qo env t (.bool true)))
      | false => F (qo env t (.bool true)) (.fu []) h)
     (match want with
      | true => F (qo env t (.bool false)) (.fu []) h
      | false => Dr P T st o.op (qo env t (.bool false)) h (F (qo env t (.bool false))))
   | .fu [] => F env (.fu []) h
   | _ => False
  | none => False
def fw (P : Program) (T : pr) (all : List Oper) (t : List (Nat × List Nat)) (K : Env → List ak → Prop) (l : List (Nat × Bool)) : List (Nat × List Nat) → Env → List ak → Prop :=
 List.rec (motive := fun _ => List (Nat × List Nat) → Env → List ak → Prop) (fun _ env h => K env h) (fun p _ ih bP env h => match all[p.1]? with
  | some o => match p.2 with
   | true => qQ P T all true o (fun env' v h' => ih ((p.1, kJ env' o.op) :: bP) (dQ env' o.dst v) h') env h
   | false => qQ P T all false o (fun env' v h' => nS (dw t p.1) h h' (ih bP (dQ env' o.dst v) h') bP) env h
  | none => False) l
def HL (ops : Array Oper) (ord : List (Nat × Bool)) (x : Nat) (ra : List (Nat × Bool)) (y : Nat) (rb : List (Nat × Bool)) : Bool :=
 Nat.beq (ord.length + (ra.length + 1)) ops.size && Nat.beq rb.length ra.length && (List.range ops.size).all (fun j => kL ((ord ++ (x, false) :: ra).map (·.1)) j) && (ord ++ (x, false) :: ra).all (fun p => Nat.blt p.1 ops.size && (bS ops.toList p.1).all (fun d => Nat.blt d ops.size && !(Nat.beq d p.1))) &&
  cj ops (vD ops.toList (ord ++ (x, false) :: ra) []) (ord ++ ra) && cj ops (vD ops.toList (ord ++ (x, false) :: ra) []) (ord ++ rb) &&
  ord.all (fun p => eZ ops (vD ops.toList (ord ++ (x, false) :: ra) []) p (x, false) && eZ ops (vD ops.toList (ord ++ (x, false) :: ra) []) p (y, false) && (bS ops.toList p.1).all (fun d => !(kL (((x, false) :: ra).map (·.1)) d))) &&
  (((x, false) :: ra).map (·.1)).all (fun j => kL (((y, false) :: rb).map (·.1)) j) && (((y, false) :: rb).map (·.1)).all (fun j => kL (((x, false) :: ra).map (·.1)) j) &&
  (bS ops.toList x).all (fun d => !(kL (((x, false) :: ra).map (·.1)) d)) && !(kL (ra.map (·.1)) x) && !(kL (rb.map (·.1)) y) &&
  ra.all (fun p => Nat.beq p.1 y || kL (dw (vD ops.toList (ord ++ (x, false) :: ra) []) p.1) x || kL (dw (vD ops.toList (ord ++ (x, false) :: ra) []) p.1) y)
def fw2 (P : Program) (T : pr) (all : List Oper) (t : List (Nat × List Nat)) (A B : List (Nat × Bool)) (K : Env → List ak → Prop) (l : List (Nat × Bool)) : List (Nat × List Nat) → Env → List ak → Prop :=
 List.rec (motive := fun _ => List (Nat × List Nat) → Env → List ak → Prop) (fun bP env h => fw P T all t K A bP env h ∧ fw P T all t K B bP env h) (fun p _ ih bP env h => match all[p.1]? with
  | some o => match p.2 with
   | true => qQ P T all true o (fun env' v h' => ih ((p.1, kJ env' o.op) :: bP) (dQ env' o.dst v) h') env h
   | false => qQ P T all false o (fun env' v h' => nS (dw t p.1) h h' (ih bP (dQ env' o.dst v) h') bP) env h
  | none => False) l
def fwE (P : Program) (T : pr) (all : List Oper) (t : List (Nat × List Nat)) (E : List (Nat × List Nat) → Env → List ak → Prop) (l : List (Nat × Bool)) : List (Nat × List Nat) → Env → List ak → Prop :=
 List.rec (motive := fun _ => List (Nat × List Nat) → Env → List ak → Prop) (fun bP env h => E bP env h) (fun p _ ih bP env h => match all[p.1]? with
  | some o => match p.2 with
   | true => qQ P T all true o (fun env' v h' => ih ((p.1, kJ env' o.op) :: bP) (dQ env' o.dst v) h') env h
   | false => qQ P T all false o (fun env' v h' => nS (dw t p.1) h h' (ih bP (dQ env' o.dst v) h') bP) env h
  | none => False) l
def RI (ops : Array Oper) (t : List (Nat × List Nat)) (ord : List (Nat × Bool)) (x y : Nat) (RX RY : List Nat) : Bool :=
 Nat.beq RX.length RY.length && ord.all (fun p => eZ ops t p (x, false) && eZ ops t p (y, false) && (bS ops.toList p.1).all (fun d => !(kL (x :: RX) d)) && !(kL (x :: RX) p.1)) &&
  (x :: RX).all (fun j => kL (y :: RY) j) && (y :: RY).all (fun j => kL (x :: RX) j) && (bS ops.toList x).all (fun d => !(kL (x :: RX) d)) && !(kL RX x) && !(kL RY y) &&
  RX.all (fun j => Nat.beq j y || kL (dw t j) x || kL (dw t j) y)
def Cr (ops : Array Oper) (ord : List (Nat × Bool)) (x : Nat) (o1 : List (Nat × Bool)) (x1 : Nat) (yk : List (Nat × Bool)) (y1 : Nat) (HK : List (Nat × Bool)) (y : Nat) (rb : List (Nat × Bool)) : Bool :=
 (fun all => (fun t => Nat.beq all.length ops.size && (List.range ops.size).all (fun j => kL (all.map (·.1)) j) && all.all (fun p => Nat.blt p.1 ops.size && (bS ops.toList p.1).all (fun d => Nat.blt d ops.size && !(Nat.beq d p.1))) &&
  cj ops t ((ord ++ o1) ++ yk) && cj ops t ((ord ++ o1) ++ HK) && cj ops t (ord ++ rb) &&
  RI ops t ord x y (o1.map (·.1) ++ x1 :: yk.map (·.1)) (rb.map (·.1)) && RI ops t (ord ++ o1) x1 y1 (yk.map (·.1)) (HK.map (·.1))) (vD ops.toList all [])) (ord ++ (x, false) :: (o1 ++ (x1, false) :: yk))
def fw3 (P : Program) (T : pr) (all : List Oper) (t : List (Nat × List Nat)) (x : Nat) (o1 : List (Nat × Bool)) (x1 : Nat) (yk : List (Nat × Bool)) (y1 : Nat) (HK : List (Nat × Bool)) (y : Nat) (rb : List (Nat × Bool)) (K : Env → List ak → Prop) (l : List (Nat × Bool)) : List (Nat × List Nat) → Env → List ak → Prop :=
 fwE P T all t (fun bP env h => fwE P T all t (fun bP env h => fw P T all t K ((x1, false) :: yk) bP env h ∧ fw P T all t K ((y1, false) :: HK) bP env h) ((x, false) :: o1) bP env h ∧ fw P T all t K ((y, false) :: rb) bP env h) l
inductive wO (P : Program) (T : pr) (m : Nat) (ops : Array Oper) (K : Env → List ak → Prop) (env : Env) (h : List ak) : Prop
 | quiet (hq : wL P T ops.toList h (fun env' => K env' h) ops.toList env) : wO P T m ops K env h
 | orders (σ : List (Nat × PV)) (η : List ak) (hc : Ph ops ops.size (Array.replicate ops.size false) [] = true) (hd : WB P T ops.toList (fun env' h' => uz m env' h' σ η) ops.toList.length [] env h)
   (hk : K (zd nR σ) η) : wO P T m ops K env h
 | N1 (ord : List (Nat × Bool)) (x : Nat) (ra : List (Nat × Bool)) (y : Nat) (rb : List (Nat × Bool)) (hc : HL ops ord x ra y rb = true) (hf : fw2 P T ops.toList (vD ops.toList (ord ++ (x, false) :: ra) []) ((x, false) :: ra) ((y, false) :: rb) K ord [] env h) : wO P T m ops K env h
 | WG (ord : List (Nat × Bool)) (x : Nat) (o1 : List (Nat × Bool)) (x1 : Nat) (yk : List (Nat × Bool)) (y1 : Nat) (HK : List (Nat × Bool)) (y : Nat) (rb : List (Nat × Bool)) (hc : Cr ops ord x o1 x1 yk y1 HK y rb = true)
   (hf : fw3 P T ops.toList (vD ops.toList (ord ++ (x, false) :: (o1 ++ (x1, false) :: yk)) []) x o1 x1 yk y1 HK y rb K ord [] env h) : wO P T m ops K env h
 | float (ord : List (Nat × Bool)) (hc : KR ops ord = true) (hf : fw P T ops.toList (vD ops.toList ord []) K ord [] env h) : wO P T m ops K env h
def Pq (Q : XQ) (env : Env) (h : List ak) : Prop := Q .normal env h
def aaG (Q : XQ) (h : List ak) (env : Env) : Prop := Q .normal env h
def vc (P : Program) (T : pr) (m : Nat) (c : Code) : XQ → Env → List ak → Prop :=
 Code.rec (motive := fun _ => XQ → Env → List ak → Prop)
  (fun Q env h => Q .normal env h)
  (fun _ ops d Q env h => match d with
   | false => rl P T ops.toList (Q .normal) ops.toList env h
   | true => match ops.toList.all (fun o => Eb o.op) with
    | true => wL P T ops.toList h (aaG Q h) ops.toList env
    | false => wO P T m ops (Pq Q) env h)
  (fun _ _ iha ihb Q env h => uA m iha ihb Q env h)
  (fun c _ _ iha ihb Q env h => match ev env c with
   | .bool t => fv t (iha Q env h) (ihb Q env h)
   | _ => False)
  (fun id _ ih Q env h => ih (XQ.inBlock id Q) env h)
  (fun _ ih Q env h => qH m (fun next => ih (XQ.then next Q)) env h)
  (fun _ _ _ _ _ _ _ _ _ => False)
  (fun id Q env h => Q (.exit id) env h)
  (fun _ _ _ _ _ => False)
  (fun _ Q env h => Q .normal env h)
  (fun _ _ _ _ => False)
  (fun Q env h => Q .ret env h)
  (fun _ _ _ _ => False) c
def codeOk (nt : Nat) : Code → Bool
 | .region _ ops d => ops.toList.all (fun o => match o.dst with | some t => Nat.blt t nt | none => true) && (!d || Region.lexB .any ops)
 | .seq a b => codeOk nt a && codeOk nt b
 | .cond _ a b => codeOk nt a && codeOk nt b
 | .block _ c => codeOk nt c
 | .loop c => codeOk nt c
 | _ => true
def vm (T : pr) (env : Env) (h : List ak) : List ResultVar → (List PV → Prop) → Prop
 | [], K => K []
 | .tmp t :: r, K => vm T env h r (fun vs => K (env t :: vs))
 | .cell t ty :: r, K => xy T ty (env t) h (fun v => vm T env h r (fun vs => K (v :: vs)))
def oneOf : List PV → PV
 | [v] => v
 | vs => .fu vs
inductive Ends (m : Nat) (R : PV → List ak → Prop) : List ak → List PV → Prop
 | mk {h : List ak} {vs : List PV} (hn : vs.all lK = true) (k : List Nat) (res : PV) (η : List ak) (hk : oM (oq η k) = true) (hm : m ≤ k.length) (hz : Fz h η k (oneOf vs) res) (hh : p6 h η k m 0 η k) (hR : R res η) : Ends m R h vs
 | ex {h : List ak} {vs : List PV} (h1 : List ak) (hx : Ht h h1) (hk : Ends m R h1 vs) : Ends m R h vs
 | ab {h : List ak} {vs : List PV} (id i j sub : Nat) (h1 : (Nat → Prop) → List ak) (ha : ∀ F, Hu h id i j sub F (h1 F)) (hk : ∀ F, Ends m R (h1 F) vs) : Ends m R h vs
def aam (T : pr) (rs : List ResultVar) (m : Nat) (R : PV → List ak → Prop) : XQ
 | .ret, env, h => vm T env h rs (Ends m R h)
 | .normal, env, h => vm T env h rs (Ends m R h)
 | _, _, _ => False
def uB (args : List PV) : Env := fun t => args.getD t .iZ
def JM (env env' : Env) (op : Op) : Prop := ∀ x, x ∈ op.operands.toList → ev env x = ev env' x
def WK (h h' : List ak) (env : Env) (op : Op) : Prop := ∀ x, x ∈ op.operands.toList → ∀ id, id ∈ tw (ev env x) → dk h id = dk h' id
theorem jN {v : PV} {K : PV → Prop} (h : K v) : force v K := by cases v <;> exact h
theorem Cx {env env' : Env} {sz : Nat} {fl : List (Nat × Nat × Bool)} {K : List PV → Prop} : ∀ (l : List (Nat × Operand)) (acc : List PV), (∀ p, p ∈ l → ev env p.2 = ev env' p.2) → pT env sz fl K l acc = pT env' sz fl K l acc
 | [], acc, _ => rfl
 | (k, x) :: r, acc, hs => by
  have e := hs (k, x) ahy
  simp only at e
  unfold pT
  rw [e]
  split
  ·congr 1
   funext v
   rw [Cx r _ (fun p hp => hs p (aei _ hp))]
  ·rfl
theorem Cy {env env' : Env} {sz : Nat} {K : List (List PV) → Prop} : ∀ (l : List (Nat × Operand)) (acc : List (List PV)), (∀ p, p ∈ l → ev env p.2 = ev env' p.2) → rp env sz K l acc = rp env' sz K l acc
 | [], acc, _ => rfl
 | (k, x) :: r, acc, hs => by
  have e := hs (k, x) ahy
  simp only at e
  unfold rp
  rw [e]
  congr 1
  funext v
  rw [Cy r _ (fun p hp => hs p (aei _ hp))]
theorem JN {env env' : Env} {o : Option Operand} (hs : ∀ x, o = some x → ev env x = ev env' x) : o.map (ev env) = o.map (ev env') := by
 cases o with
 | none => rfl
 | some x => simp [hs x rfl]
theorem Ei {env env' : Env} {K : List (Nat × Nat) → Prop} : ∀ (l : List Operand) (acc : List (Nat × Nat)), (∀ x, x ∈ l → ev env x = ev env' x) → ur env K l acc = ur env' K l acc
 | [], _, _ => rfl
 | x :: r, acc, hs => by
  unfold ur
  rw [hs x ahy]
  split
  ·exact Ei r _ (fun y hy => hs y (aei _ hy))
  ·rfl
theorem x5 {T : pr} {env env' : Env} {h : List ak} {K : PV → Prop} (op : Op) (hs : JM env env' op) : cz T op env h K = cz T op env' h K := by
 cases op with
 | move x => simp only [cz, hs x ahz]
 | assign x => simp only [cz, hs x ahz]
 | pick c a b => simp only [cz, hs c ahz, hs a ahz, hs b ahz]
 | binOp bo t x y t' => simp only [cz, hs x ahz, hs y ahz]
 | unOp u t x => simp only [cz, hs x ahz]
 | load t a => simp only [cz, hs a ahz]
 | convert s d x => simp only [cz, hs x ahz]
 | nilCheck x => simp only [cz, hs x ahz]
 | fieldAddr s x k => simp only [cz, hs x ahz]
 | field s x k => simp only [cz, hs x ahz]
 | build t parts =>
  have e : ∀ sz fl (K : List PV → Prop) z, pT env sz fl K parts.toList z = pT env' sz fl K parts.toList z := fun sz fl K z => Cx _ _ (fun p hp => hs p.2 aip)
  simp only [cz, e]
 | indexAddr t x i => simp only [cz, hs x ahz, hs i ahz]
 | index t x i => simp only [cz, hs x ahz, hs i ahz]
 | extract x i => simp only [cz, hs x ahz]
 | lookup t x i ok => simp only [cz, hs x ahz, hs i ahz]
 | makeFunc fn first captured =>
  have e : ∀ (K : List (Nat × Nat) → Prop) acc, ur env K captured.toList acc = ur env' K captured.toList acc := fun K acc => Ei _ _ (fun x hx => hs x (by simp [Op.operands]; right; simpa using hx))
  simp only [cz, e]
 | slice t x lo hi mx =>
  have e1 : lo.map (ev env) = lo.map (ev env') := JN (fun y hy => hs y aim)
  have e2 : hi.map (ev env) = hi.map (ev env') := JN (fun y hy => hs y aim)
  have e3 : mx.map (ev env) = mx.map (ev env') := JN (fun y hy => hs y aim)
  simp only [cz, hs x ahz, e1, e2, e3]
 | call c =>
  obtain ⟨callee, args, ts⟩ := c
  cases callee with
  | builtin b =>
   cases b with
   | len =>
    simp only [cz]
    split
    ·rename_i x t hx ht
     have e := hs x ahX
     rw [e]
    ·rfl
   | _ => rfl
  | _ => rfl
 | _ => rfl
theorem LY {T : pr} {env : Env} {h h' : List ak} {K : PV → Prop} (op : Op) (hs : WK h h' env op) : cz T op env h K = cz T op env h' K := by
 cases op with
 | load t a =>
  have q := hs a ahz
  simp only [cz]
  revert q
  generalize ev env a = v
  intro q
  cases v with
  | aG id g i o => simp only [xy, q id aib]
  | _ => rfl
 | convert s d x =>
  have q := hs x ahz
  simp only [cz]
  revert q
  generalize ev env x = v
  intro q
  have e : ∀ K, wx v h K = wx v h' K := fun K => by
   cases v with
   | own id g i o => simp only [wx, q id aib]
   | _ => rfl
  generalize T.get s = ti
  generalize T.get d = td
  cases ti with
  | slice a b c z => cases td with
   | str => simp only [e]
   | _ => rfl
  | int k => cases td <;> cases v <;> rfl
  | _ => rfl
 | nilCheck x =>
  have q := hs x ahz
  simp only [cz]
  revert q
  generalize ev env x = v
  intro q
  cases v with
  | aG id g i o => simp only [q id aib]
  | _ => rfl
 | fieldAddr s x k =>
  have q := hs x ahz
  simp only [cz]
  revert q
  generalize ev env x = v
  intro q
  cases v with
  | aG id g i o => simp only [q id aib]
  | _ => rfl
 | indexAddr t x i =>
  have q := hs x ahz
  simp only [cz]
  revert q
  generalize ev env x = v
  generalize ev env i = u
  generalize T.get t = ti
  intro q
  cases ti with
  | slice e sz b z => cases v with
   | own id g o l => cases u with
    | int k n => simp only [q id aib]
    | _ => rfl
   | gz a b c => cases u <;> rfl
   | _ => rfl
  | _ => rfl
 | lookup t x i ok =>
  have q := hs x ahz
  simp only [cz]
  revert q
  generalize ev env x = v
  generalize T.get t = ti
  intro q
  cases ti with
  | map k e z => cases v with
   | lA id => simp only [q id aib]
   | _ => rfl
  | _ => cases v <;> rfl
 | slice t x lo hi mx =>
  have q := hs x ahz
  simp only [cz]
  revert q
  generalize ev env x = v
  generalize T.get t = ti
  intro q
  cases ti with
  | slice e sz b z => cases v with
   | own id g o l => simp only [q id aib]
   | _ => rfl
  | str => cases v <;> rfl
  | _ => rfl
 | call c =>
  obtain ⟨callee, args, ts⟩ := c
  cases callee with
  | builtin b =>
   cases b with
   | len =>
    simp only [cz]
    split
    ·rename_i x t hx ht
     have q := hs x ahX
     revert q
     generalize ev env x = v
     generalize T.get t = ti
     intro q
     cases ti with
     | slice e sz b z => cases v with
      | own id g o l => simp only [q id aib]
      | _ => rfl
     | map k e z => cases v with
      | lA id => simp only [q id aib]
      | _ => rfl
     | str => cases v <;> rfl
     | _ => rfl
    ·rfl
   | _ => rfl
  | _ => rfl
 | _ => rfl
def One (F : (PV → Prop) → Prop) : Prop := ∀ K, F K → ∃ v, K v ∧ ∀ K', K' v → F K'
theorem rU (v : PV) : One (force v) := fun K h => ⟨v, cp h, fun K' hk => jN hk⟩
theorem bz (v : PV) : One (fun K => K v) := fun K h => ⟨v, h, fun _ hk => hk⟩
theorem dA {A : Prop} {F : (PV → Prop) → Prop} (h : One F) : One (fun K => A ∧ F K) := fun K hk =>
 let ⟨v, h1, h2⟩ := h K hk.2
 ⟨v, h1, fun K' vB => ⟨hk.1, h2 K' vB⟩⟩
theorem ie {b : Bool} {F : (PV → Prop) → Prop} (h : One F) : One (fun K => eh b (F K)) := fun K hk => by
 cases b with
 | true => exact h K hk
 | false => exact hk.elim
theorem uK {α : Type} {A : α → Prop} {F : α → (PV → Prop) → Prop} (h : ∀ c, One (F c)) : One (fun K => ∃ c, A c ∧ F c K) := fun K ⟨c, ha, hk⟩ =>
 let ⟨v, h1, h2⟩ := h c K hk
 ⟨v, h1, fun K' vB => ⟨c, ha, h2 K' vB⟩⟩
theorem Cz {F : (PV → Prop) → Prop} (h : One F) : One (fun K => F (He K)) := fun K hk => by
 obtain ⟨v, h1, h2⟩ := h _ hk
 cases v with
 | gz sz n f =>
  obtain ⟨n', f', e1, e2, hK⟩ := h1
  exact ⟨.gz sz n' f', hK, fun K' vB => h2 _ ⟨n', f', e1, e2, vB⟩⟩
 | own id g off n =>
  obtain ⟨o', n', e1, e2, hK⟩ := h1
  exact ⟨.own id g o' n', hK, fun K' vB => h2 _ ⟨o', n', e1, e2, vB⟩⟩
 | str s =>
  obtain ⟨s', e1, hK⟩ := h1
  exact ⟨.str s', hK, fun K' vB => h2 _ ⟨s', e1, vB⟩⟩
 | _ => exact ⟨_, h1, fun K' vB => h2 _ vB⟩
theorem zg {K : List PV → Prop} : ∀ (n : Nat) (l acc : List PV), n ≤ l.length → K (acc.reverse ++ l.take n) → Eh K n l acc
 | 0, l, acc, _, h => by unfold Eh; simpa using h
 | n + 1, [], acc, hl, _ => by simp at hl
 | n + 1, c :: r, acc, hl, h => jN (zg n r (c :: acc) (by simp at hl; omega) ahT)
theorem CA (T : pr) (t : Nat) (cells : List PV) : One (yO T t cells) := fun K hk => by
 unfold yO at hk ⊢
 generalize T.get t = q1 at hk ⊢
 cases q1 with
 | struct sz fl z =>
  obtain ⟨h1, h2⟩ := pS _ _ _ hk
  exact ⟨_, h2, fun K' vB => zg _ _ _ h1 vB⟩
 | other => exact hk.elim
 | _ =>
  cases cells with
  | nil => exact hk.elim
  | cons c r => exact rU c K hk
theorem LZ (T : pr) (t : Nat) (a : PV) (h : List ak) : One (xy T t a h) := fun K hk => by
 cases a with
 | gf cells => exact CA T t cells K hk
 | aG id gen i off =>
  simp only [xy] at hk ⊢
  generalize dk h id = q2 at hk ⊢
  cases q2 with
  | row g sz n e f => exact dA (uK (fun c => CA T t _)) K hk
  | dead => exact hk.elim
 | _ => exact hk.elim
theorem PA (ti : TI) (bo : BinOp) (x y : PV) : One (Lt ti bo x y) := fun K hk => by
 cases x with
 | int k a => cases y with
  | int k' b =>
   cases bo with
   | shl => exact dA (bz _) K hk
   | shr => exact dA (bz _) K hk
   | quo => exact ie (dA (bz _)) K hk
   | rem => exact ie (dA (bz _)) K hk
   | _ => exact ie (bz _) K hk
  | _ => exact hk.elim
 | bool a => cases y with
  | bool b => cases ti with
   | bool => cases bo with
    | eql => exact bz _ K hk
    | neq => exact bz _ K hk
    | _ => exact hk.elim
   | _ => exact hk.elim
  | _ => exact hk.elim
 | str a => cases y with
  | str b => cases bo with
   | add => exact dA (uK fun c => bz _) K hk
   | eql => exact bz _ K hk
   | neq => exact bz _ K hk
   | lss => exact bz _ K hk
   | leq => exact bz _ K hk
   | gtr => exact bz _ K hk
   | geq => exact bz _ K hk
   | _ => exact hk.elim
  | _ => exact hk.elim
 | agg xs => cases y with
  | agg ys => cases ti with
   | struct sz fl z =>
    simp only [Lt] at hk ⊢
    generalize zN z = fz at hk ⊢
    cases fz with
    | false => exact hk.elim
    | true =>
     simp only [eh] at hk ⊢
     generalize DM z xs ys = q at hk ⊢
     cases q with
     | none => exact hk.elim
     | some b => cases bo <;> first | exact hk.elim | exact uK (fun c => bz _) K hk
   | _ => exact hk.elim
  | _ => exact hk.elim
 | _ => exact hk.elim
theorem wQ (x : PV) (lo hi : Option PV) : One (BT x lo hi) := fun K hk => by
 cases x with
 | gz sz n f =>
  cases lo with
  | none => cases hi with
   | none => exact bz _ K hk
   | some u => cases u <;> first | exact hk.elim | exact dA (bz _) K hk
  | some l => cases l with
   | int k l => cases hi with
    | none => exact dA (bz _) K hk
    | some u => cases u <;> first | exact hk.elim | exact dA (bz _) K hk
   | _ => cases hi <;> exact hk.elim
 | own id gen off len =>
  cases lo with
  | none => cases hi with
   | none => exact bz _ K hk
   | some u => cases u <;> first | exact hk.elim | exact dA (bz _) K hk
  | some l => cases l with
   | int k l => cases hi with
    | none => exact dA (bz _) K hk
    | some u => cases u <;> first | exact hk.elim | exact dA (bz _) K hk
   | _ => cases hi <;> exact hk.elim
 | str s =>
  cases lo with
  | none => cases hi with
   | none => exact bz _ K hk
   | some u => cases u <;> first | exact hk.elim | exact dA (bz _) K hk
  | some l => cases l with
   | int k l => cases hi with
    | none => exact dA (bz _) K hk
    | some u => cases u <;> first | exact hk.elim | exact dA (bz _) K hk
   | _ => cases hi <;> exact hk.elim
 | _ => exact hk.elim
theorem JO (v : PV) (h : List ak) : One (fun K => wx v h (fun s => K (.str s))) := fun K hk => by
 cases v with
 | aq => exact bz _ K hk
 | gz sz n f => exact ie (uK fun s => dA (bz _)) K hk
 | own id gen off n =>
  simp only [wx] at hk ⊢
  generalize dk h id = q3 at hk ⊢
  cases q3 with
  | row g sz n e f => exact dA (ie (uK fun s => dA (bz _))) K hk
  | dead => exact hk.elim
 | _ => exact hk.elim
theorem CC (env : Env) (sz : Nat) (fl : List (Nat × Nat × Bool)) : ∀ (l : List (Nat × Operand)) (acc : List PV), One (fun K => pT env sz fl (fun cs => K (.agg cs)) l acc)
 | [], acc => bz _
 | (k, x) :: r, acc => fun K hk => by
  unfold pT at hk ⊢
  generalize fl[k]? = q4 at hk ⊢
  cases q4 with
  | none => exact hk.elim
  | some p =>
   obtain ⟨o, size, b⟩ := p
   have h1 := cp hk
   obtain ⟨v, h2, h3⟩ := ie (CC env sz fl r _) K h1
   exact ⟨v, h2, fun K' vB => jN (h3 K' vB)⟩
theorem Ej {env : Env} (f : Nat) : ∀ (l : List Operand) (acc : List (Nat × Nat)), One (fun K => ur env (fun bX => K (.oP f bX)) l acc)
 | [], _ => bz _
 | x :: r, acc => fun K hk => by
  unfold ur at hk ⊢
  generalize ev env x = v at hk ⊢
  split at hk
  ·exact Ej f r _ K hk
  ·exact hk.elim
theorem PC (ti : TI) (n : Nat) (f : Nat → List PV) (kv zv : PV) (ok : Bool) : One (fun K => eh (lf ti kv kv).isSome (∃ r b, OW ti f n kv zv r b ∧ match ok with
  | true => K (.fu [r, .bool b])
  | false => force r K)) := ie (fun K hk => by
 obtain ⟨r, b, hm, hK⟩ := hk
 cases ok with
 | true => exact ⟨_, hK, fun K' vB => ⟨r, b, hm, vB⟩⟩
 | false => exact ⟨_, cp hK, fun K' vB => ⟨r, b, hm, jN vB⟩⟩)
theorem HP (T : pr) (op : Op) (env : Env) (h : List ak) : One (cz T op env h) := fun K hk => by
 cases op with
 | move x => exact rU _ K hk
 | assign x => exact rU _ K hk
 | pick c a b =>
  simp only [cz] at hk ⊢
  generalize ev env c = v at hk ⊢
  cases v with
  | bool t =>
   obtain ⟨h1, h2⟩ := lh hk
   cases t with
   | true => exact ⟨_, cp (h1 rfl), fun K' vB => .mk (fun _ => jN vB) (fun h => by cases h)⟩
   | false => exact ⟨_, cp (h2 rfl), fun K' vB => .mk (fun h => by cases h) (fun _ => jN vB)⟩
  | _ => exact hk.elim
 | binOp bo t x y t' => exact PA _ _ _ _ K hk
 | unOp u t x =>
  simp only [cz] at hk ⊢
  generalize ev env x = v at hk ⊢
  cases u <;> cases v <;> first | exact hk.elim | exact bz _ K hk
 | load t a => exact LZ _ _ _ _ K hk
 | convert s d x =>
  simp only [cz] at hk ⊢
  generalize ev env x = v at hk ⊢
  generalize T.get s = ti at hk ⊢
  generalize T.get d = td at hk ⊢
  cases ti with
  | int k => cases td with
   | int k' => cases v <;> first | exact hk.elim | exact bz _ K hk
   | _ => cases v <;> exact hk.elim
  | slice e sz b z => cases td with
   | str =>
    simp only at hk ⊢
    generalize T.get e = q5 at hk ⊢
    cases q5 with
    | int k => cases k <;> first | exact hk.elim | exact JO _ _ K hk
    | _ => exact hk.elim
   | _ => cases v <;> exact hk.elim
  | _ => cases td <;> cases v <;> exact hk.elim
 | nilCheck x =>
  simp only [cz] at hk ⊢
  generalize ev env x = v at hk ⊢
  cases v with
  | gf cs => exact bz _ K hk
  | aG id gen i off =>
   simp only at hk ⊢
   generalize dk h id = q6 at hk ⊢
   cases q6 with
   | row g sz n e f => exact dA (bz _) K hk
   | dead => exact hk.elim
  | _ => exact hk.elim
 | fieldAddr s x k =>
  simp only [cz] at hk ⊢
  generalize ev env x = v at hk ⊢
  generalize T.get s = q7 at hk ⊢
  cases q7 with
  | struct sz fl z =>
   simp only at hk ⊢
   generalize fl[k]? = q8 at hk ⊢
   cases q8 with
   | none => exact hk.elim
   | some p =>
    obtain ⟨o, a, b⟩ := p
    cases v with
    | gf cs => exact bz _ K hk
    | aG id gen i off =>
     simp only at hk ⊢
     generalize dk h id = q9 at hk ⊢
     cases q9 with
     | row g sz n e f => exact dA (bz _) K hk
     | dead => exact hk.elim
    | _ => exact hk.elim
  | _ => exact hk.elim
 | field s x k =>
  simp only [cz] at hk ⊢
  generalize ev env x = v at hk ⊢
  generalize T.get s = q7 at hk ⊢
  cases q7 with
  | struct sz fl z =>
   simp only at hk ⊢
   generalize fl[k]? = q8 at hk ⊢
   cases q8 with
   | none => exact hk.elim
   | some p =>
    obtain ⟨o, a, b⟩ := p
    cases v with
    | agg cs =>
     cases b with
     | true =>
      obtain ⟨h1, h2⟩ := pS _ _ _ hk
      exact ⟨_, h2, fun K' vB => zg _ _ _ h1 vB⟩
     | false =>
      simp only at hk ⊢
      generalize cs.drop o = q9 at hk ⊢
      cases q9 with
      | nil => exact hk.elim
      | cons c r => exact rU c K hk
    | _ => exact hk.elim
  | _ => exact hk.elim
 | build t parts =>
  simp only [cz] at hk ⊢
  generalize T.get t = q10 at hk ⊢
  cases q10 with
  | struct sz fl z => exact CC _ _ _ _ _ K hk
  | _ => exact hk.elim
 | indexAddr t x i =>
  simp only [cz] at hk ⊢
  generalize ev env x = v at hk ⊢
  generalize ev env i = u at hk ⊢
  generalize T.get t = q11 at hk ⊢
  cases q11 with
  | slice e sz b z => cases v with
   | gz cf n f => cases u <;> first | exact hk.elim | exact ie (dA (uK fun c => bz _)) K hk
   | own id gen off len => cases u with
    | int k n =>
     simp only at hk ⊢
     generalize dk h id = q12 at hk ⊢
     cases q12 with
     | row g sz n e f => exact dA (ie (dA (uK fun j => bz _))) K hk
     | dead => exact hk.elim
    | _ => exact hk.elim
   | _ => cases u <;> exact hk.elim
  | _ => cases v <;> cases u <;> exact hk.elim
 | index t x i =>
  simp only [cz] at hk ⊢
  generalize ev env x = v at hk ⊢
  generalize ev env i = u at hk ⊢
  generalize T.get t = q13 at hk ⊢
  cases q13 with
  | str => cases v with
   | str s => cases u <;> first | exact hk.elim | exact dA (uK fun c => bz _) K hk
   | _ => cases u <;> exact hk.elim
  | _ => cases v <;> cases u <;> exact hk.elim
 | extract x i =>
  simp only [cz] at hk ⊢
  generalize ev env x = v at hk ⊢
  cases v with
  | fu vs =>
   simp only at hk ⊢
   generalize vs[i]? = q14 at hk ⊢
   cases q14 with
   | none => exact hk.elim
   | some u => exact rU _ K hk
  | _ => exact hk.elim
 | makeFunc fn first captured =>
  cases fn with
  | func f => exact ie (Ej f _ _) K hk
  | _ => exact hk.elim
 | lookup t x i ok =>
  simp only [cz] at hk ⊢
  generalize ev env x = v at hk ⊢
  generalize T.get t = q19 at hk ⊢
  cases q19 with
  | map kt et zv => cases v with
   | lA id =>
    simp only at hk ⊢
    generalize dk h id = q20 at hk ⊢
    cases q20 with
    | row g sz n e f =>
     obtain ⟨u, h2, h3⟩ := PC (T.get kt) n f (ev env i) zv ok K (cp hk)
     exact ⟨u, h2, fun K' vB => jN (h3 K' vB)⟩
    | dead => exact hk.elim
   | _ => exact hk.elim
  | _ => cases v <;> exact hk.elim
 | slice t x lo hi mx =>
  simp only [cz] at hk ⊢
  generalize ev env x = v at hk ⊢
  generalize T.get t = q15 at hk ⊢
  cases q15 with
  | slice e sz b z => cases v with
   | gz cf n f => exact ie (dA (Cz (wQ _ _ _))) K hk
   | own id gen off len =>
    simp only at hk ⊢
    generalize dk h id = q16 at hk ⊢
    cases q16 with
    | row g sz n e f => exact dA (ie (dA (Cz (wQ _ _ _)))) K hk
    | dead => exact hk.elim
   | _ => exact hk.elim
  | str => cases v with
   | str s => exact ie (Cz (wQ _ _ _)) K hk
   | _ => exact hk.elim
  | _ => cases v <;> exact hk.elim
 | call c =>
  obtain ⟨callee, args, ts⟩ := c
  cases callee with
  | builtin b =>
   cases b with
   | len =>
    simp only [cz] at hk ⊢
    split at hk
    ·rename_i x t hx ht
     generalize ev env x = v at hk ⊢
     generalize T.get t = q17 at hk ⊢
     cases q17 with
     | slice e sz b z => cases v with
      | gz a n f => exact bz _ K hk
      | aq => exact bz _ K hk
      | own id gen off n =>
       simp only at hk ⊢
       generalize dk h id = q18 at hk ⊢
       cases q18 with
       | row g sz n e f => exact dA (bz _) K hk
       | dead => exact hk.elim
      | _ => exact hk.elim
     | str => cases v <;> first | exact hk.elim | exact bz _ K hk
     | map kt et zv => cases v with
      | lA id =>
       simp only at hk ⊢
       generalize dk h id = q18 at hk ⊢
       cases q18 with
       | row g sz n e f => exact bz _ K hk
       | dead => exact hk.elim
      | _ => exact hk.elim
     | _ => cases v <;> exact hk.elim
    ·exact hk.elim
   | _ => exact hk.elim
  | _ => exact hk.elim
 | _ => exact hk.elim
theorem qa {v : PV} {K K' : PV → Prop} (hk : ∀ v, K v → K' v) (h : force v K) : force v K' := jN (hk _ (cp h))
theorem fq {b : Bool} {K K' : Prop} (hk : K → K') (h : eh b K) : eh b K' := by cases b; exact h; exact hk h
theorem zZ {env : Env} {sz : Nat} {K K' : List (List PV) → Prop} (hk : ∀ l, K l → K' l) : ∀ (l : List (Nat × Operand)) (acc : List (List PV)), rp env sz K l acc → rp env sz K' l acc
 | [], acc, h => hk _ h
 | (k, x) :: r, acc, h => qa (fun v h => fq (zZ hk r _) h) h
theorem zh {x : PV} {h : List ak} {sz : Nat} {K K' : Nat → (Nat → List PV) → Prop} (hk : ∀ n g, K n g → K' n g) (hp : HA x h sz K) : HA x h sz K' := by
 cases x with
 | aq => exact hk _ _ hp
 | gz cf m g => exact fq (hk _ _) hp
 | own id gen off m =>
  simp only [HA] at hp ⊢
  generalize dk h id = q at hp ⊢
  cases q with
  | row g cf n e f => exact ⟨hp.1, hp.2.1, fq (hk _ _) hp.2.2⟩
  | dead => exact hp
 | str s => exact fq (hk _ _) hp
 | _ => exact hp
theorem FW {e sz bytes : Nat} {s x : PV} {h : List ak} {K K' : PV → List ak → Prop} (hk : ∀ v h', K v h' → K' v h') (hp : qN e sz bytes s x h K) : qN e sz bytes s x h K' := by
 cases s with
 | aq =>
  simp only [qN] at hp ⊢
  exact zh (fun m g ⟨h, n', f', e1, e2, h2⟩ => ⟨h, n', f', e1, e2, hk _ _ h2⟩) hp
 | own id gen off len =>
  simp only [qN] at hp ⊢
  generalize dk h id = q at hp ⊢
  cases q with
  | row g cf n e' f => exact ⟨hp.1, fq (zh (fun m g ⟨h, n', f', e1, e2, h2⟩ => ⟨h, n', f', e1, e2, hk _ _ h2⟩)) hp.2⟩
  | dead => exact hp
 | _ => exact hp
theorem JP {e sz : Nat} {s x : PV} {h : List ak} {K K' : PV → List ak → Prop} (hk : ∀ v h', K v h' → K' v h') (hp : Cg e sz s x h K) : Cg e sz s x h K' := by
 cases s with
 | own id gen off len =>
  simp only [Cg] at hp ⊢
  generalize dk h id = q at hp ⊢
  cases q with
  | row g cf n e' f => exact ⟨hp.1, fq (zh (fun m g ⟨h, f', e2, h2⟩ => ⟨h, f', e2, hk _ _ h2⟩)) hp.2⟩
  | dead => exact hp
 | _ => exact hp
theorem rV {T : pr} {op : Op} {env : Env} {h : List ak} {K K' : PV → Prop} (hk : ∀ v, K v → K' v) (hp : cz T op env h K) : cz T op env h K' :=
 let ⟨v, h1, h2⟩ := HP T op env h K hp
 h2 K' (hk v h1)
theorem PD {P : Program} {T : pr} {env : Env} {h : List ak} {K K' : PV → List ak → Prop} (hk : ∀ v h', K v h' → K' v h') (op : Op) (hp : pop P T op env h K) : pop P T op env h K' := by
 cases op with
 | store t a x =>
  simp only [pop] at hp ⊢
  generalize ev env a = v at hp ⊢
  cases v with
  | aG id gen i off =>
   simp only at hp ⊢
   generalize dk h id = q at hp ⊢
   cases q with
   | row g sz n e f => exact ⟨hp.1, qa (fun v h => fq (fun ⟨c, f', e1, e2, h2⟩ => ⟨c, f', e1, e2, hk _ _ h2⟩) h) hp.2⟩
   | dead => exact hp
  | _ => exact hp
 | box t x =>
  simp only [pop] at hp ⊢
  exact qa (fun v h => fq (hk _ _) h) hp
 | alloc t =>
  simp only [pop] at hp ⊢
  generalize BL (T.get t) = q at hp ⊢
  cases q <;> first | exact hp | exact hk _ _ hp
 | makeSlice t l c =>
  simp only [pop] at hp ⊢
  generalize T.get t = q at hp ⊢
  generalize ev env l = u at hp ⊢
  generalize ev env c = v at hp ⊢
  cases q with
  | slice e sz b z => cases u with
   | int k n => cases v with
    | int k' m => (obtain ⟨h, n', f', e1, e2, h2⟩ := hp; exact ⟨h, n', f', e1, e2, hk _ _ h2⟩)
    | _ => exact hp
   | _ => cases v <;> exact hp
  | _ => cases u <;> cases v <;> exact hp
 | buildSlice t len parts =>
  simp only [pop] at hp ⊢
  generalize T.get t = q at hp ⊢
  cases q with
  | slice e sz b z => exact fq (zZ (fun _ ⟨f', e1, h2⟩ => ⟨f', e1, hk _ _ h2⟩) _ _) hp
  | _ => exact hp
 | convert s d x =>
  simp only [pop] at hp ⊢
  split at hp
  ·split at hp
   ·exact let ⟨f', e1, h2⟩ := hp; ⟨f', e1, hk _ _ h2⟩
   ·exact hp
  ·exact rV (fun v => hk v h) hp
 | binOp bo t x y ty =>
  simp only [pop] at hp ⊢
  split at hp
  ·exact ⟨fun h0 => hk _ _ (hp.1 h0), hk _ _ hp.2⟩
  ·exact rV (fun v => hk v h) hp
 | makeMap t r =>
  cases r with
  | none =>
   simp only [pop] at hp ⊢
   generalize T.get t = q at hp ⊢
   cases q with
   | map k e z => exact let ⟨f', h2⟩ := hp; ⟨f', hk _ _ h2⟩
   | _ => exact hp
  | some r => exact hp
 | mapUpdate t m k x =>
  simp only [pop] at hp ⊢
  generalize T.get t = q at hp ⊢
  generalize ev env m = v at hp ⊢
  cases q with
  | map kt et z => cases v with
   | lA id =>
    simp only at hp ⊢
    generalize dk h id = q2 at hp ⊢
    cases q2 with
    | row g sz n e f => exact qa (fun kv h => qa (fun vv h => fq (fun ⟨n', f', e1, h2⟩ => ⟨n', f', e1, hk _ _ h2⟩) h) h) hp
    | dead => exact hp
   | _ => exact hp
  | _ => cases v <;> exact hp
 | call c =>
  obtain ⟨callee, args, ts⟩ := c
  cases callee with
  | value fo =>
   simp only [pop] at hp ⊢
   generalize ev env fo = v at hp ⊢
   cases v with
   | fn f => exact fq (fun ⟨R, h1, h2⟩ => ⟨R, h1, fun res h' hr => hk _ _ (h2 res h' hr)⟩) hp
   | oP f bX => exact fq (fun ⟨R, h1, h2⟩ => ⟨R, h1, fun res h' hr => hk _ _ (h2 res h' hr)⟩) hp
   | _ => exact hp
  | builtin b =>
   cases b with
   | append =>
    simp only [pop] at hp ⊢
    split at hp
    ·rename_i s x t tx ha ht
     generalize T.get t = q at hp ⊢
     generalize T.get tx = qx at hp ⊢
     cases q with
     | slice e sz b z => cases qx <;> first | exact hp | exact FW hk hp
     | _ => cases qx <;> exact hp
    ·exact hp
   | copy =>
    simp only [pop] at hp ⊢
    split at hp
    ·rename_i s x t tx ha ht
     generalize T.get t = q at hp ⊢
     generalize T.get tx = qx at hp ⊢
     cases q with
     | slice e sz b z => cases qx <;> first | exact hp | exact JP hk hp
     | _ => cases qx <;> exact hp
    ·exact hp
   | len => (simp only [pop] at hp ⊢; exact rV (fun v => hk v h) hp)
   | _ => exact hp
  | _ => exact hp
 | _ => (simp only [pop] at hp ⊢; exact rV (fun v => hk v h) hp)
theorem PE {env env' : Env} {args : Array Operand} (hs : ∀ x, x ∈ args.toList → ev env x = ev env' x) : args.toList.map (ev env) = args.toList.map (ev env') :=
 List.map_congr_left hs
theorem RR {env env' : Env} {l : List Operand} (hs : ∀ x, x ∈ l → ev env x = ev env' x) : l.all (fun x => lK (ev env x)) = l.all (fun x => lK (ev env' x)) := by
 induction l with
 | nil => rfl
 | cons a r ih => simp only [afb, hs a ahy, ih (fun x hx => hs x (aei _ hx))]
theorem RS {P : Program} {T : pr} {env env' : Env} {h : List ak} {K : PV → List ak → Prop} (op : Op) (hs : JM env env' op) : pop P T op env h K = pop P T op env' h K := by
 cases op with
 | store t a x => simp only [pop, hs a ahz, hs x ahz]
 | box t x => simp only [pop, hs x ahz]
 | alloc t => rfl
 | makeSlice t l c => simp only [pop, hs l ahz, hs c ahz]
 | buildSlice t len parts =>
  have e : ∀ sz (K : List (List PV) → Prop) z, rp env sz K parts.toList z = rp env' sz K parts.toList z := fun sz K z => Cy _ _ (fun p hp => hs p.2 aip)
  simp only [pop, e]
 | convert s d x => simp only [pop, cz, hs x ahz]
 | binOp bo t x y ty => simp only [pop, cz, hs x ahz, hs y ahz]
 | makeMap t r => cases r <;> rfl
 | mapUpdate t m k x => simp only [pop, hs m ahz, hs k ahz, hs x ahz]
 | call c =>
  obtain ⟨callee, args, ts⟩ := c
  cases callee with
  | value fo =>
   have e0 := hs fo (by simp [Op.operands, Call.operands])
   have e1 : ∀ x, x ∈ args.toList → ev env x = ev env' x := fun x hx => hs x (by simp [Op.operands, Call.operands]; right; simpa using hx)
   simp only [pop, e0, PE e1, RR e1]
  | builtin b =>
   have e1 : ∀ x, x ∈ args.toList → ev env x = ev env' x := fun x hx => hs x (by simp [Op.operands, Call.operands]; simpa using hx)
   cases b with
   | append =>
    simp only [pop]
    split
    ·rename_i s x t tx ha ht
     rw [e1 s (by rw [ha]; simp), e1 x (by rw [ha]; simp)]
    ·rfl
   | copy =>
    simp only [pop]
    split
    ·rename_i s x t tx ha ht
     rw [e1 s (by rw [ha]; simp), e1 x (by rw [ha]; simp)]
    ·rfl
   | len => (simp only [pop]; exact x5 _ hs)
   | _ => rfl
  | _ => rfl
 | _ => (simp only [pop]; exact x5 _ hs)
section
variable {P : Program} {T : pr}
def fs (P : Program) (T : pr) (all : List Oper) (st : Bool) (o : Oper) (G : PV → List ak → Prop) (env : Env) (h : List ak) : Prop :=
 match o.guard with
 | none => Dr P T st o.op env h G
 | some (j, want) => match (all[j]?).bind (·.dst) with
  | some t => match env t with
   | .bool b => match b == want with
    | true => Dr P T st o.op env h G
    | false => G (.fu []) h
   | .fu [] => G (.fu []) h
   | _ => False
  | none => False
theorem AZ {env : Env} {t : Nat} {v : PV} (h : env t = v) : qo env t v = env := by
 funext j
 unfold qo
 cases hb : Nat.beq j t with
 | true => rw [adW hb, ← h]; rfl
 | false => rfl
theorem Ek {st : Bool} {op : Op} {env : Env} {h : List ak} {G G' : PV → List ak → Prop} (hk : ∀ v h', G v h' → G' v h') (hp : Dr P T st op env h G) : Dr P T st op env h G' := by
 cases st with
 | true => exact rV (fun v => hk v h) hp
 | false => exact PD hk _ hp
theorem dP {all : List Oper} {st : Bool} {o : Oper} {env : Env} {h : List ak} {G G' : PV → List ak → Prop} (hk : ∀ v h', G v h' → G' v h') (hp : fs P T all st o G env h) : fs P T all st o G' env h := by
 unfold fs at hp ⊢
 generalize o.guard = g at hp ⊢
 cases g with
 | none => exact Ek hk hp
 | some q =>
  obtain ⟨j, want⟩ := q
  simp only at hp ⊢
  generalize (all[j]?).bind (·.dst) = d at hp ⊢
  cases d with
  | none => exact hp
  | some t =>
   simp only at hp ⊢
   generalize env t = v at hp ⊢
   cases v with
   | bool b =>
    simp only at hp ⊢
    generalize (b == want) = c at hp ⊢
    cases c with
    | true => exact Ek hk hp
    | false => exact hk _ _ hp
   | fu l => cases l with
    | nil => exact hk _ _ hp
    | cons a r => exact hp
   | _ => exact hp
theorem mB {all : List Oper} {st : Bool} {o : Oper} {F : Env → PV → List ak → Prop} {env : Env} {h : List ak} (hp : qQ P T all st o F env h) : fs P T all st o (F env) env h := by
 unfold qQ at hp
 unfold fs
 generalize o.guard = g at hp ⊢
 cases g with
 | none => exact hp
 | some q =>
  obtain ⟨j, want⟩ := q
  simp only at hp ⊢
  generalize (all[j]?).bind (·.dst) = d at hp ⊢
  cases d with
  | none => exact hp
  | some t =>
   simp only at hp ⊢
   generalize hv : env t = v at hp ⊢
   cases v with
   | bool b =>
    simp only at hp ⊢
    obtain ⟨h1, h2⟩ := lh hp
    cases b with
    | true =>
     have h1 := h1 rfl
     rw [AZ hv] at h1
     cases want <;> exact h1
    | false =>
     have h2 := h2 rfl
     rw [AZ hv] at h2
     cases want <;> exact h2
   | fu l => cases l with
    | nil => exact hp
    | cons a r => exact hp
   | _ => exact hp
theorem vn {env env' : Env} {o : Oper} {ops : Array Oper} (hl : ∀ t, t ∈ o.looksAt ops → env t = env' t) : JM env env' o.op := fun x hx => by
 cases x with
 | tmp t => exact hl t (by unfold Oper.looksAt; rw [aea]; left; rw [List.mem_filterMap]; exact ⟨_, hx, rfl⟩)
 | _ => rfl
theorem ta {env env' : Env} {o : Oper} {ops : Array Oper} (hl : ∀ t, t ∈ o.looksAt ops → env t = env' t) {j : Nat} {w : Bool} (hg : o.guard = some (j, w)) {t : Nat} (ht : (ops.toList[j]?).bind (·.dst) = some t) : env t = env' t :=
 hl t (by
  unfold Oper.looksAt
  rw [aea, hg]
  right
  have : ops.toList[j]? = ops[j]? := by simp
  rw [this] at ht
  show t ∈ ((ops[j]?).bind (·.dst)).toList
  rw [ht]
  simp)
theorem JQ {ops : Array Oper} {st : Bool} {o : Oper} {G : PV → List ak → Prop} {env env' : Env} {h : List ak} (hl : ∀ t, t ∈ o.looksAt ops → env t = env' t) (hp : fs P T ops.toList st o G env h) : fs P T ops.toList st o G env' h := by
 have hr : Dr P T st o.op env h G = Dr P T st o.op env' h G := by
  cases st with
  | true => exact x5 _ (vn hl)
  | false => exact RS _ (vn hl)
 unfold fs at hp ⊢
 cases hg : o.guard with
 | none => rw [hg] at hp; simp only at hp ⊢; rw [← hr]; exact hp
 | some q =>
  obtain ⟨j, want⟩ := q
  rw [hg] at hp
  simp only at hp ⊢
  cases hd : (ops.toList[j]?).bind (·.dst) with
  | none => rw [hd] at hp; exact hp
  | some t =>
   rw [hd] at hp
   simp only at hp ⊢
   rw [← ta hl hg hd, ← hr]
   exact hp
theorem x7 {α β : Type} {f g : α → List β} : ∀ (l : List α), (∀ x, x ∈ l → f x = g x) → l.flatMap f = l.flatMap g
 | [], _ => rfl
 | a :: r, h => by rw [List.flatMap_cons, List.flatMap_cons, h a ahy, x7 r (fun x hx => h x (aei _ hx))]
theorem CD (env : Env) (op : Op) : (∃ x, op = .move x) ∨ kJ env op = op.operands.toList.flatMap (fun x => tw (ev env x)) := by
 cases op <;> first | exact .inl ⟨_, rfl⟩ | exact .inr rfl
theorem JR {T : pr} {env : Env} {h h' : List ak} {K : PV → Prop} {op : Op} (hi : ∀ id, id ∈ kJ env op → dk h id = dk h' id) : cz T op env h K = cz T op env h' K := by
 rcases CD env op with ⟨x, rfl⟩ | e
 ·rfl
 ·exact LY op (fun x hx id hid => hi id (by rw [e, List.mem_flatMap]; exact ⟨x, hx, hid⟩))
theorem wR {env env' : Env} {op : Op} (hs : ∀ x, x ∈ op.operands.toList → ev env x = ev env' x) : kJ env' op = kJ env op := by
 rcases CD env op with ⟨x, rfl⟩ | e
 ·rfl
 ·rcases CD env' op with ⟨x, rfl⟩ | e'
  ·rfl
  ·rw [e, e']
   exact x7 _ (fun x hx => by rw [hs x hx])
theorem zi {ops : Array Oper} {o : Oper} {G : PV → List ak → Prop} {env : Env} {h : List ak} (hp : fs P T ops.toList true o G env h) :
  ∃ v, G v h ∧ ∀ (env' : Env) (h' : List ak) (G' : PV → List ak → Prop), (∀ t, t ∈ o.looksAt ops → env t = env' t) → (∀ id, id ∈ kJ env o.op → dk h id = dk h' id) → G' v h' → fs P T ops.toList true o G' env' h' := by
 have run : cz T o.op env h (fun v => G v h) → ∃ v, G v h ∧ ∀ (env' : Env) (h' : List ak) (G' : PV → List ak → Prop), (∀ t, t ∈ o.looksAt ops → env t = env' t) → (∀ id, id ∈ kJ env o.op → dk h id = dk h' id) → G' v h' → cz T o.op env' h' (fun v => G' v h') := fun hs => by
  obtain ⟨v, h1, h2⟩ := HP T o.op env h _ hs
  refine ⟨v, h1, fun env' h' G' hl hi hg => ?_⟩
  rw [← x5 o.op (vn hl), ← JR (op := o.op) hi]
  exact h2 _ hg
 unfold fs at hp
 cases hg : o.guard with
 | none =>
  rw [hg] at hp
  obtain ⟨v, h1, h2⟩ := run hp
  refine ⟨v, h1, fun env' h' G' hl hi hk => ?_⟩
  unfold fs
  rw [hg]
  exact h2 env' h' G' hl hi hk
 | some q =>
  obtain ⟨j, want⟩ := q
  rw [hg] at hp
  simp only at hp
  cases hd : (ops.toList[j]?).bind (·.dst) with
  | none => rw [hd] at hp; exact hp.elim
  | some t =>
   rw [hd] at hp
   simp only at hp
   cases hv : env t with
   | bool b =>
    rw [hv] at hp
    simp only at hp
    cases hc : (b == want) with
    | true =>
     rw [hc] at hp
     obtain ⟨v, h1, h2⟩ := run hp
     refine ⟨v, h1, fun env' h' G' hl hi hk => ?_⟩
     unfold fs
     rw [hg]; simp only; rw [hd]; simp only; rw [← ta hl hg hd, hv]; simp only; rw [hc]
     exact h2 env' h' G' hl hi hk
    | false =>
     rw [hc] at hp
     refine ⟨_, hp, fun env' h' G' hl hi hk => ?_⟩
     unfold fs
     rw [hg]; simp only; rw [hd]; simp only; rw [← ta hl hg hd, hv]; simp only; rw [hc]
     exact hk
   | fu l =>
    rw [hv] at hp
    cases l with
    | nil =>
     refine ⟨_, hp, fun env' h' G' hl hi hk => ?_⟩
     unfold fs
     rw [hg]; simp only; rw [hd]; simp only; rw [← ta hl hg hd, hv]
     exact hk
    | cons a r => exact hp.elim
   | _ => rw [hv] at hp; exact hp.elim
def Ds (P : Program) (T : pr) (all : List Oper) (t : List (Nat × List Nat)) (K : Env → List ak → Prop) : List (Nat × Bool) → List (Nat × List Nat) → Env → List ak → Prop
 | [], _, env, h => K env h
 | (i, st) :: r, bP, env, h => ∃ o, all[i]? = some o ∧ fs P T all st o (fun v h' => match st with
   | true => Ds P T all t K r ((i, kJ env o.op) :: bP) (dQ env o.dst v) h'
   | false => (∀ j ids, (j, ids) ∈ bP → kL (dw t i) j = false → ∀ id, id ∈ ids → dk h id = dk h' id) ∧ Ds P T all t K r bP (dQ env o.dst v) h') env h
theorem ya {h h' : List ak} {K : Prop} : ∀ (ids : List Nat), FV h h' K ids → (∀ id, id ∈ ids → dk h id = dk h' id) ∧ K
 | [], hk => ⟨fun id hid => by simp at hid, hk⟩
 | a :: r, hk => by
  obtain ⟨h1, h2⟩ := ya r hk.2
  refine ⟨fun id hid => ?_, h2⟩
  simp only [aed] at hid
  rcases hid with rfl | hid
  ·exact hk.1
  ·exact h1 id hid
theorem np {WJ : List Nat} {h h' : List ak} {K : Prop} : ∀ (bP : List (Nat × List Nat)), nS WJ h h' K bP → (∀ j ids, (j, ids) ∈ bP → kL WJ j = false → ∀ id, id ∈ ids → dk h id = dk h' id) ∧ K
 | [], hk => ⟨fun j ids hj => by simp at hj, hk⟩
 | (a, l) :: r, hk => by
  unfold nS at hk
  cases ha : kL WJ a with
  | true =>
   rw [ha] at hk
   obtain ⟨h1, h2⟩ := np r hk
   refine ⟨fun j ids hj hn => ?_, h2⟩
   simp only [aed] at hj
   rcases hj with hj | hj
   ·injection hj with e1 e2; subst e1; rw [ha] at hn; cases hn
   ·exact h1 j ids hj hn
  | false =>
   rw [ha] at hk
   obtain ⟨q1, q2⟩ := ya l hk
   obtain ⟨h1, h2⟩ := np r q2
   refine ⟨fun j ids hj hn => ?_, h2⟩
   simp only [aed] at hj
   rcases hj with hj | hj
   ·injection hj with e1 e2; subst e2; exact q1
   ·exact h1 j ids hj hn
theorem mA {all : List Oper} {t : List (Nat × List Nat)} {K : Env → List ak → Prop} : ∀ (l : List (Nat × Bool)) (bP : List (Nat × List Nat)) (env : Env) (h : List ak), fw P T all t K l bP env h → Ds P T all t K l bP env h
 | [], _, _, _, hp => hp
 | (i, true) :: r, bP, env, h, hp => by
  have hp : (match all[i]? with
   | some o => qQ P T all true o (fun env' v h' => fw P T all t K r ((i, kJ env' o.op) :: bP) (dQ env' o.dst v) h') env h
   | none => False) := hp
  cases ho : all[i]? with
  | none => rw [ho] at hp; exact hp.elim
  | some o =>
   rw [ho] at hp
   exact ⟨o, ho, dP (fun v h' hk => mA r _ _ _ hk) (mB hp)⟩
 | (i, false) :: r, bP, env, h, hp => by
  have hp : (match all[i]? with
   | some o => qQ P T all false o (fun env' v h' => nS (dw t i) h h' (fw P T all t K r bP (dQ env' o.dst v) h') bP) env h
   | none => False) := hp
  cases ho : all[i]? with
  | none => rw [ho] at hp; exact hp.elim
  | some o =>
   rw [ho] at hp
   refine ⟨o, ho, dP (fun v h' hk => ?_) (mB hp)⟩
   obtain ⟨h1, h2⟩ := np _ hk
   exact ⟨h1, mA r _ _ _ h2⟩
theorem rW {all : List Oper} {t : List (Nat × List Nat)} {K : Env → List ak → Prop} : ∀ (l : List (Nat × Bool)) (bP ow : List (Nat × List Nat)) (env : Env) (h : List ak), (∀ x, x ∈ ow → x ∈ bP) → Ds P T all t K l bP env h → Ds P T all t K l ow env h
 | [], _, _, _, _, _, hp => hp
 | (i, st) :: r, bP, ow, env, h, hs, hp => by
  obtain ⟨o, ho, hp⟩ := hp
  refine ⟨o, ho, dP (fun v h' hk => ?_) hp⟩
  cases st with
  | true => exact rW r _ _ _ _ (fun x hx => by simp only [aed] at hx ⊢; exact hx.imp id (hs x)) hk
  | false => exact ⟨fun j ids hj => hk.1 j ids (hs _ hj), rW r _ _ _ _ hs hk.2⟩
theorem zj {env : Env} {d e : Option Nat} {u v : PV} (rZ : ∀ x, d = some x → e ≠ some x) : dQ (dQ env d u) e v = dQ (dQ env e v) d u := by
 cases d with
 | none => rfl
 | some x =>
  cases e with
  | none => rfl
  | some y =>
   have hxy : x ≠ y := fun he => rZ x rfl (by rw [he])
   funext j
   simp only [dQ, qo]
   cases h1 : Nat.beq j y with
   | true =>
    have := adW h1
    subst this
    cases h2 : Nat.beq j x with
    | true => exact absurd (adW h2).symm hxy
    | false => rfl
   | false => cases h2 : Nat.beq j x <;> rfl
theorem pz {env : Env} {d : Option Nat} {v : PV} {l : List Nat} (hn : ∀ x, d = some x → x ∉ l) : ∀ t, t ∈ l → env t = dQ env d v t := fun t ht => by
 cases d with
 | none => rfl
 | some x =>
  have : t ≠ x := fun he => hn x rfl (he ▸ ht)
  simp only [dQ, qo]
  cases h2 : Nat.beq t x with
  | true => exact absurd (adW h2) this
  | false => rfl
theorem xY {ops : Array Oper} {t : List (Nat × List Nat)} {K : Env → List ak → Prop} {i : Nat} {st : Bool} {oi : Oper} (wX : ops.toList[i]? = some oi) :
  ∀ (l1 l2 : List (Nat × Bool)) (bP : List (Nat × List Nat)) (env : Env) (h : List ak), (∀ p, p ∈ l1 → p.2 = true ∧ kL (dw t i) p.1 = false ∧ qO ops p.1 i = true) → Ds P T ops.toList t K (l1 ++ (i, st) :: l2) bP env h →
   fs P T ops.toList st oi (fun v h' => (st = true → h' = h) ∧ (st = false → ∀ j ids, (j, ids) ∈ bP → kL (dw t i) j = false → ∀ id, id ∈ ids → dk h id = dk h' id) ∧ Ds P T ops.toList t K (l1 ++ l2) bP (dQ env oi.dst v) h') env h
 | [], l2, bP, env, h, _, hp => by
  obtain ⟨o, ho, hp⟩ := hp
  rw [wX] at ho
  injection ho with ho
  subst ho
  cases st with
  | true =>
   obtain ⟨v, h1, h2⟩ := zi hp
   exact h2 env h _ (fun _ _ => rfl) (fun _ _ => rfl) ⟨fun _ => rfl, fun hc => Bool.noConfusion hc, rW _ _ _ _ _ (fun x hx => aei _ hx) h1⟩
  | false => exact dP (fun v h' hk => ⟨fun hc => Bool.noConfusion hc, fun _ => hk.1, hk.2⟩) hp
 | (a, sa) :: l1, l2, bP, env, h, mh, hp => by
  obtain ⟨h1, h2, h3⟩ := mh (a, sa) ahy
  simp only at h1 h2 h3
  subst h1
  obtain ⟨o, ho, hp⟩ := hp
  have hap : Oper.apart ops o oi = true := by
   unfold qO at h3
   have e1 : ops[a]? = some o := by simpa using ho
   have e2 : ops[i]? = some oi := by simpa using wX
   rw [e1, e2] at h3
   exact h3
  obtain ⟨a1, a2, a3⟩ := Oper.apart_spec hap
  obtain ⟨u, k1, k2⟩ := zi hp
  have ih := xY wX l1 l2 _ _ h (fun p hp => mh p (aei _ hp)) k1
  have ih' := JQ (env' := env) (fun x hx => (pz (fun d hd => a1 d hd) x hx).symm) ih
  refine dP (fun v h' hk => ⟨hk.1, fun hc j ids hj => hk.2.1 hc j ids (aei _ hj), ?_⟩) ih'
  have PF : ∀ id, id ∈ kJ env o.op → dk h id = dk h' id := fun id hid => by
   cases st with
   | true => rw [hk.1 rfl]
   | false => exact hk.2.1 rfl a _ ahy h2 id hid
  have z7 : ∀ x, x ∈ o.looksAt ops → env x = dQ env oi.dst v x := pz (fun d hd => a3 d hd)
  refine ⟨o, ho, k2 _ h' _ z7 PF ?_⟩
  have PG : kJ (dQ env oi.dst v) o.op = kJ env o.op := by
   exact wR (vn z7)
  simp only
  rw [PG, zj (fun x hx => (fun he => a2 x he hx) : ∀ x, oi.dst = some x → o.dst ≠ some x)]
  exact hk.2.2
def zf (P : Program) (T : pr) (all : List Oper) (t : List (Nat × List Nat)) (A0 B0 : List (Nat × Bool)) (K : Env → List ak → Prop) : List (Nat × Bool) → List (Nat × List Nat) → Env → List ak → Prop
 | [], bP, env, h => Ds P T all t K A0 bP env h ∧ Ds P T all t K B0 bP env h
 | (i, st) :: r, bP, env, h => ∃ o, all[i]? = some o ∧ fs P T all st o (fun v h' => match st with
   | true => zf P T all t A0 B0 K r ((i, kJ env o.op) :: bP) (dQ env o.dst v) h'
   | false => (∀ j ids, (j, ids) ∈ bP → kL (dw t i) j = false → ∀ id, id ∈ ids → dk h id = dk h' id) ∧ zf P T all t A0 B0 K r bP (dQ env o.dst v) h') env h
theorem uI {all : List Oper} {t : List (Nat × List Nat)} {A0 B0 : List (Nat × Bool)} {K : Env → List ak → Prop} : ∀ (l : List (Nat × Bool)) (bP : List (Nat × List Nat)) (env : Env) (h : List ak), fw2 P T all t A0 B0 K l bP env h → zf P T all t A0 B0 K l bP env h
 | [], _, _, _, hp => ⟨mA _ _ _ _ hp.1, mA _ _ _ _ hp.2⟩
 | (i, true) :: r, bP, env, h, hp => by
  have hp : (match all[i]? with
   | some o => qQ P T all true o (fun env' v h' => fw2 P T all t A0 B0 K r ((i, kJ env' o.op) :: bP) (dQ env' o.dst v) h') env h
   | none => False) := hp
  cases ho : all[i]? with
  | none => rw [ho] at hp; exact hp.elim
  | some o =>
   rw [ho] at hp
   exact ⟨o, ho, dP (fun v h' hk => uI r _ _ _ hk) (mB hp)⟩
 | (i, false) :: r, bP, env, h, hp => by
  have hp : (match all[i]? with
   | some o => qQ P T all false o (fun env' v h' => nS (dw t i) h h' (fw2 P T all t A0 B0 K r bP (dQ env' o.dst v) h') bP) env h
   | none => False) := hp
  cases ho : all[i]? with
  | none => rw [ho] at hp; exact hp.elim
  | some o =>
   rw [ho] at hp
   refine ⟨o, ho, dP (fun v h' hk => ?_) (mB hp)⟩
   obtain ⟨h1, h2⟩ := np _ hk
   exact ⟨h1, uI r _ _ _ h2⟩
theorem zk {all : List Oper} {t : List (Nat × List Nat)} {A0 B0 : List (Nat × Bool)} {K : Env → List ak → Prop} : ∀ (l : List (Nat × Bool)) (bP ow : List (Nat × List Nat)) (env : Env) (h : List ak), (∀ x, x ∈ ow → x ∈ bP) → zf P T all t A0 B0 K l bP env h → zf P T all t A0 B0 K l ow env h
 | [], bP, ow, _, _, hs, hp => ⟨rW _ bP ow _ _ hs hp.1, rW _ bP ow _ _ hs hp.2⟩
 | (i, st) :: r, bP, ow, env, h, hs, hp => by
  obtain ⟨o, ho, hp⟩ := hp
  refine ⟨o, ho, dP (fun v h' hk => ?_) hp⟩
  cases st with
  | true => exact zk r _ _ _ _ (fun x hx => by simp only [aed] at hx ⊢; exact hx.imp id (hs x)) hk
  | false => exact ⟨fun j ids hj => hk.1 j ids (hs _ hj), zk r _ _ _ _ hs hk.2⟩
theorem D8 {ops : Array Oper} {t : List (Nat × List Nat)} {A0 B0 : List (Nat × Bool)} {K : Env → List ak → Prop} {i : Nat} {st : Bool} {oi : Oper} (wX : ops.toList[i]? = some oi) :
  ∀ (l1 l2 : List (Nat × Bool)) (bP : List (Nat × List Nat)) (env : Env) (h : List ak), (∀ p, p ∈ l1 → p.2 = true ∧ kL (dw t i) p.1 = false ∧ qO ops p.1 i = true) → zf P T ops.toList t A0 B0 K (l1 ++ (i, st) :: l2) bP env h →
   fs P T ops.toList st oi (fun v h' => (st = true → h' = h) ∧ (st = false → ∀ j ids, (j, ids) ∈ bP → kL (dw t i) j = false → ∀ id, id ∈ ids → dk h id = dk h' id) ∧ zf P T ops.toList t A0 B0 K (l1 ++ l2) bP (dQ env oi.dst v) h') env h
 | [], l2, bP, env, h, _, hp => by
  obtain ⟨o, ho, hp⟩ := hp
  rw [wX] at ho
  injection ho with ho
  subst ho
  cases st with
  | true =>
   obtain ⟨v, h1, h2⟩ := zi hp
   exact h2 env h _ (fun _ _ => rfl) (fun _ _ => rfl) ⟨fun _ => rfl, fun hc => Bool.noConfusion hc, zk _ _ _ _ _ (fun x hx => aei _ hx) h1⟩
  | false => exact dP (fun v h' hk => ⟨fun hc => Bool.noConfusion hc, fun _ => hk.1, hk.2⟩) hp
 | (a, sa) :: l1, l2, bP, env, h, mh, hp => by
  obtain ⟨h1, h2, h3⟩ := mh (a, sa) ahy
  simp only at h1 h2 h3
  subst h1
  obtain ⟨o, ho, hp⟩ := hp
  have hap : Oper.apart ops o oi = true := by
   unfold qO at h3
   have e1 : ops[a]? = some o := by simpa using ho
   have e2 : ops[i]? = some oi := by simpa using wX
   rw [e1, e2] at h3
   exact h3
  obtain ⟨a1, a2, a3⟩ := Oper.apart_spec hap
  obtain ⟨u, k1, k2⟩ := zi hp
  have ih := D8 wX l1 l2 _ _ h (fun p hp => mh p (aei _ hp)) k1
  have ih' := JQ (env' := env) (fun x hx => (pz (fun d hd => a1 d hd) x hx).symm) ih
  refine dP (fun v h' hk => ⟨hk.1, fun hc j ids hj => hk.2.1 hc j ids (aei _ hj), ?_⟩) ih'
  have PF : ∀ id, id ∈ kJ env o.op → dk h id = dk h' id := fun id hid => by
   cases st with
   | true => rw [hk.1 rfl]
   | false => exact hk.2.1 rfl a _ ahy h2 id hid
  have z7 : ∀ x, x ∈ o.looksAt ops → env x = dQ env oi.dst v x := pz (fun d hd => a3 d hd)
  refine ⟨o, ho, k2 _ h' _ z7 PF ?_⟩
  have PG : kJ (dQ env oi.dst v) o.op = kJ env o.op := by
   exact wR (vn z7)
  simp only
  rw [PG, zj (fun x hx => (fun he => a2 x he hx) : ∀ x, oi.dst = some x → o.dst ≠ some x)]
  exact hk.2.2
theorem JI {all : List Oper} {t : List (Nat × List Nat)} {A0 B0 : List (Nat × Bool)} {K : Env → List ak → Prop} : ∀ (l : List (Nat × Bool)) (bP : List (Nat × List Nat)) (env : Env) (h : List ak), zf P T all t A0 B0 K l bP env h → Ds P T all t K (l ++ A0) bP env h
 | [], _, _, _, hp => hp.1
 | (i, st) :: r, bP, env, h, hp => by
  obtain ⟨o, ho, hp⟩ := hp
  refine ⟨o, ho, dP (fun v h' hk => ?_) hp⟩
  cases st with
  | true => exact JI r _ _ _ hk
  | false => exact ⟨hk.1, JI r _ _ _ hk.2⟩
theorem JJ {all : List Oper} {t : List (Nat × List Nat)} {A0 B0 : List (Nat × Bool)} {K : Env → List ak → Prop} : ∀ (l : List (Nat × Bool)) (bP : List (Nat × List Nat)) (env : Env) (h : List ak), zf P T all t A0 B0 K l bP env h → Ds P T all t K (l ++ B0) bP env h
 | [], _, _, _, hp => hp.2
 | (i, st) :: r, bP, env, h, hp => by
  obtain ⟨o, ho, hp⟩ := hp
  refine ⟨o, ho, dP (fun v h' hk => ?_) hp⟩
  cases st with
  | true => exact JJ r _ _ _ hk
  | false => exact ⟨hk.1, JJ r _ _ _ hk.2⟩
def nN (P : Program) (T : pr) (all : List Oper) (t : List (Nat × List Nat)) (E : List (Nat × List Nat) → Env → List ak → Prop) : List (Nat × Bool) → List (Nat × List Nat) → Env → List ak → Prop
 | [], bP, env, h => E bP env h
 | (i, st) :: r, bP, env, h => ∃ o, all[i]? = some o ∧ fs P T all st o (fun v h' => match st with
   | true => nN P T all t E r ((i, kJ env o.op) :: bP) (dQ env o.dst v) h'
   | false => (∀ j ids, (j, ids) ∈ bP → kL (dw t i) j = false → ∀ id, id ∈ ids → dk h id = dk h' id) ∧ nN P T all t E r bP (dQ env o.dst v) h') env h
def uG (E : List (Nat × List Nat) → Env → List ak → Prop) : Prop := ∀ (bP ow : List (Nat × List Nat)) (env : Env) (h : List ak), (∀ x, x ∈ ow → x ∈ bP) → E bP env h → E ow env h
theorem vo {all : List Oper} {t : List (Nat × List Nat)} {E : List (Nat × List Nat) → Env → List ak → Prop} (hE : uG E) : ∀ (l : List (Nat × Bool)) (bP ow : List (Nat × List Nat)) (env : Env) (h : List ak), (∀ x, x ∈ ow → x ∈ bP) → nN P T all t E l bP env h → nN P T all t E l ow env h
 | [], bP, ow, _, _, hs, hp => hE bP ow _ _ hs hp
 | (i, st) :: r, bP, ow, env, h, hs, hp => by
  obtain ⟨o, ho, hp⟩ := hp
  refine ⟨o, ho, dP (fun v h' hk => ?_) hp⟩
  cases st with
  | true => exact vo hE r _ _ _ _ (fun x hx => by simp only [aed] at hx ⊢; exact hx.imp id (hs x)) hk
  | false => exact ⟨fun j ids hj => hk.1 j ids (hs _ hj), vo hE r _ _ _ _ hs hk.2⟩
theorem vl {ops : Array Oper} {t : List (Nat × List Nat)} {E : List (Nat × List Nat) → Env → List ak → Prop} (hE : uG E) {i : Nat} {st : Bool} {oi : Oper} (wX : ops.toList[i]? = some oi) :
  ∀ (l1 l2 : List (Nat × Bool)) (bP : List (Nat × List Nat)) (env : Env) (h : List ak), (∀ p, p ∈ l1 → p.2 = true ∧ kL (dw t i) p.1 = false ∧ qO ops p.1 i = true) → nN P T ops.toList t E (l1 ++ (i, st) :: l2) bP env h →
   fs P T ops.toList st oi (fun v h' => (st = true → h' = h) ∧ (st = false → ∀ j ids, (j, ids) ∈ bP → kL (dw t i) j = false → ∀ id, id ∈ ids → dk h id = dk h' id) ∧ nN P T ops.toList t E (l1 ++ l2) bP (dQ env oi.dst v) h') env h
 | [], l2, bP, env, h, _, hp => by
  obtain ⟨o, ho, hp⟩ := hp
  rw [wX] at ho
  injection ho with ho
  subst ho
  cases st with
  | true =>
   obtain ⟨v, h1, h2⟩ := zi hp
   exact h2 env h _ (fun _ _ => rfl) (fun _ _ => rfl) ⟨fun _ => rfl, fun hc => Bool.noConfusion hc, vo hE _ _ _ _ _ (fun x hx => aei _ hx) h1⟩
  | false => exact dP (fun v h' hk => ⟨fun hc => Bool.noConfusion hc, fun _ => hk.1, hk.2⟩) hp
 | (a, sa) :: l1, l2, bP, env, h, mh, hp => by
  obtain ⟨h1, h2, h3⟩ := mh (a, sa) ahy
  simp only at h1 h2 h3
  subst h1
  obtain ⟨o, ho, hp⟩ := hp
  have hap : Oper.apart ops o oi = true := by
   unfold qO at h3
   have e1 : ops[a]? = some o := by simpa using ho
   have e2 : ops[i]? = some oi := by simpa using wX
   rw [e1, e2] at h3
   exact h3
  obtain ⟨a1, a2, a3⟩ := Oper.apart_spec hap
  obtain ⟨u, k1, k2⟩ := zi hp
  have ih := vl hE wX l1 l2 _ _ h (fun p hp => mh p (aei _ hp)) k1
  have ih' := JQ (env' := env) (fun x hx => (pz (fun d hd => a1 d hd) x hx).symm) ih
  refine dP (fun v h' hk => ⟨hk.1, fun hc j ids hj => hk.2.1 hc j ids (aei _ hj), ?_⟩) ih'
  have PF : ∀ id, id ∈ kJ env o.op → dk h id = dk h' id := fun id hid => by
   cases st with
   | true => rw [hk.1 rfl]
   | false => exact hk.2.1 rfl a _ ahy h2 id hid
  have z7 : ∀ x, x ∈ o.looksAt ops → env x = dQ env oi.dst v x := pz (fun d hd => a3 d hd)
  refine ⟨o, ho, k2 _ h' _ z7 PF ?_⟩
  have PG : kJ (dQ env oi.dst v) o.op = kJ env o.op := by
   exact wR (vn z7)
  simp only
  rw [PG, zj (fun x hx => (fun he => a2 x he hx) : ∀ x, oi.dst = some x → o.dst ≠ some x)]
  exact hk.2.2
theorem uF {all : List Oper} {t : List (Nat × List Nat)} {E : List (Nat × List Nat) → Env → List ak → Prop} {l' : List (Nat × Bool)} : ∀ (l : List (Nat × Bool)) (bP : List (Nat × List Nat)) (env : Env) (h : List ak), nN P T all t (fun bP env h => nN P T all t E l' bP env h) l bP env h → nN P T all t E (l ++ l') bP env h
 | [], _, _, _, hp => hp
 | (i, st) :: r, bP, env, h, hp => by
  obtain ⟨o, ho, hp⟩ := hp
  refine ⟨o, ho, dP (fun v h' hk => ?_) hp⟩
  cases st with
  | true => exact uF r _ _ _ hk
  | false => exact ⟨hk.1, uF r _ _ _ hk.2⟩
theorem xZ {all : List Oper} {t : List (Nat × List Nat)} {E E' : List (Nat × List Nat) → Env → List ak → Prop} (hi : ∀ bP env h, E bP env h → E' bP env h) : ∀ (l : List (Nat × Bool)) (bP : List (Nat × List Nat)) (env : Env) (h : List ak), nN P T all t E l bP env h → nN P T all t E' l bP env h
 | [], _, _, _, hp => hi _ _ _ hp
 | (i, st) :: r, bP, env, h, hp => by
  obtain ⟨o, ho, hp⟩ := hp
  refine ⟨o, ho, dP (fun v h' hk => ?_) hp⟩
  cases st with
  | true => exact xZ hi r _ _ _ hk
  | false => exact ⟨hk.1, xZ hi r _ _ _ hk.2⟩
theorem uE {all : List Oper} {t : List (Nat × List Nat)} {K : Env → List ak → Prop} {l' : List (Nat × Bool)} : ∀ (l : List (Nat × Bool)) (bP : List (Nat × List Nat)) (env : Env) (h : List ak), nN P T all t (fun bP env h => Ds P T all t K l' bP env h) l bP env h → Ds P T all t K (l ++ l') bP env h
 | [], _, _, _, hp => hp
 | (i, st) :: r, bP, env, h, hp => by
  obtain ⟨o, ho, hp⟩ := hp
  refine ⟨o, ho, dP (fun v h' hk => ?_) hp⟩
  cases st with
  | true => exact uE r _ _ _ hk
  | false => exact ⟨hk.1, uE r _ _ _ hk.2⟩
theorem qP {all : List Oper} {t : List (Nat × List Nat)} {E E' : List (Nat × List Nat) → Env → List ak → Prop} (hi : ∀ bP env h, E bP env h → E' bP env h) : ∀ (l : List (Nat × Bool)) (bP : List (Nat × List Nat)) (env : Env) (h : List ak), fwE P T all t E l bP env h → nN P T all t E' l bP env h
 | [], _, _, _, hp => hi _ _ _ hp
 | (i, true) :: r, bP, env, h, hp => by
  have hp : (match all[i]? with
   | some o => qQ P T all true o (fun env' v h' => fwE P T all t E r ((i, kJ env' o.op) :: bP) (dQ env' o.dst v) h') env h
   | none => False) := hp
  cases ho : all[i]? with
  | none => rw [ho] at hp; exact hp.elim
  | some o =>
   rw [ho] at hp
   exact ⟨o, ho, dP (fun v h' hk => qP hi r _ _ _ hk) (mB hp)⟩
 | (i, false) :: r, bP, env, h, hp => by
  have hp : (match all[i]? with
   | some o => qQ P T all false o (fun env' v h' => nS (dw t i) h h' (fwE P T all t E r bP (dQ env' o.dst v) h') bP) env h
   | none => False) := hp
  cases ho : all[i]? with
  | none => rw [ho] at hp; exact hp.elim
  | some o =>
   rw [ho] at hp
   refine ⟨o, ho, dP (fun v h' hk => ?_) (mB hp)⟩
   obtain ⟨h1, h2⟩ := np _ hk
   exact ⟨h1, qP hi r _ _ _ h2⟩
theorem rT {all : List Oper} {t : List (Nat × List Nat)} {K : Env → List ak → Prop} (l : List (Nat × Bool)) : uG (fun bP env h => Ds P T all t K l bP env h) := fun bP ow env h hs hp => rW l bP ow env h hs hp
theorem p9 {all : List Oper} {t : List (Nat × List Nat)} {E : List (Nat × List Nat) → Env → List ak → Prop} (hE : uG E) (l : List (Nat × Bool)) : uG (fun bP env h => nN P T all t E l bP env h) := fun bP ow env h hs hp => vo hE l bP ow env h hs hp
theorem D9 {E E' : List (Nat × List Nat) → Env → List ak → Prop} (h1 : uG E) (h2 : uG E') : uG (fun bP env h => E bP env h ∧ E' bP env h) := fun bP ow env h hs hp => ⟨h1 bP ow env h hs hp.1, h2 bP ow env h hs hp.2⟩
end
theorem aV.mono {S S' : Nat → Prop} {w w' : World} (hw : ∀ b, S b → w'.heap[b]? = w.heap[b]?) (hS : ∀ b, S b → S' b) {pv : PV} {v : Value} (h : aV S w pv v) : aV S' w' pv v := by
 induction h with
 | int k n => exact .int k n
 | bool b => exact .bool b
 | str s => exact .str s
 | aq => exact .aq
 | fn f => exact .fn f
 | qj sz f a c => exact .qj sz f a c
 | gz sz n f b off c vf h1 h2 h3 h4 _ ih =>
  exact .gz sz n f b off c vf (hS b h1) h2 h3 (fun i j pv hi hj => (World.cell?_of_block (w := w) (hw b h1)).trans (h4 i j pv hi hj)) ih
 | gf cs b off vf h1 h4 _ ih =>
  exact .gf cs b off vf (hS b h1) (fun j pv hj => (World.cell?_of_block (w := w) (hw b h1)).trans (h4 j pv hj)) ih
theorem lj.of_same {w w' : World} {b k : Nat} (h : w'.heap[b]? = w.heap[b]?) (hc : lj w b k) : lj w' b k := by
 obtain ⟨cur, e, h1, h2⟩ := hc
 exact ⟨cur, e, h.trans h1, h2⟩
theorem lj.least {w : World} {b k : Nat} (h : lj w b k) : lj w b 0 := by
 obtain ⟨cur, e, h1, h2⟩ := h
 exact ⟨cur, e, h1, aeo _⟩
theorem ml.mono {S S' : Nat → Prop} {w w' : World} (hw : ∀ b, S b → w'.heap[b]? = w.heap[b]?) (hS : ∀ b, S b → S' b) {pv : PV} {v : Value} (h : ml S w pv v) :
  (∀ sz n e f F, pv = .bf sz n e f F → ∀ b, F b → w'.heap[b]? = w.heap[b]?) → ml S' w' pv v := by
 induction h with
 | nil sz e f F hF => exact fun _ => .nil sz e f F hF
 | HF sz n e f F b off c a cur vf hF hb hlen hc ha iY bw nH xD Dq HG ih =>
  intro hk
  have hk := hk _ _ _ _ _ rfl
  exact .HF sz n e f F b off c a cur vf hF ((hk b hF).trans hb) hlen hc ha iY bw (fun i j pv hi hj => (nH i j pv hi hj).imp_left (fun q => q.mono hw hS))
   (fun i j cf n' e' f' F' hi hj => ih i j cf n' e' f' F' hi hj (fun _ _ _ _ _ he b' oI => by
    injection he with _ _ _ _ he
    subst he
    exact hk b' (Dq i j cf n' e' f' _ hi hj b' oI).1)) Dq HG
inductive OG (G : PV → Prop) : PV → Prop
 | mk (sz n : Nat) (e : TypeId) (f : Nat → List PV) (F : Nat → Prop) (h1 : ∀ (i j : Nat) (pv : PV), i < n → (f i)[j]? = some pv → ef pv = false → G pv)
   (h2 : ∀ (i j cf n' : Nat) (e' : TypeId) (f' : Nat → List PV) (F' : Nat → Prop), i < n → (f i)[j]? = some (.bf cf n' e' f' F') → OG G (.bf cf n' e' f' F')) : OG G (.bf sz n e f F)
theorem ml.og {S S' : Nat → Prop} {w : World} {G : PV → Prop} (hG : ∀ pv v, G pv → aV S w pv v → aV S' w pv v) {pv : PV} {v : Value} (h : ml S w pv v) : OG G pv → ml S' w pv v := by
 induction h with
 | nil sz e f F hF => exact fun _ => .nil sz e f F hF
 | HF sz n e f F b off c a cur vf hF hb hlen hc ha iY bw nH xD Dq HG ih =>
  intro hg
  cases hg with
  | mk _ _ _ _ _ h1 h2 =>
   exact .HF sz n e f F b off c a cur vf hF hb hlen hc ha iY bw (fun i j pv hi hj => by
    cases hx : ef pv with
    | false => exact (nH i j pv hi hj).imp_left (fun q => hG pv _ (h1 i j pv hi hj hx) q)
    | true => exact .inr (by cases pv <;> first | exact ⟨_, _, _, _, _, rfl⟩ | cases hx)) (fun i j cf n' e' f' F' hi hj => ih i j cf n' e' f' F' hi hj (h2 i j cf n' e' f' F' hi hj)) Dq HG
theorem ml.all {S : Nat → Prop} {w : World} {pv : PV} {v : Value} (h : ml S w pv v) : OG (fun _ => True) pv := by
 induction h with
 | nil sz e f F hF => exact .mk sz 0 e f F (fun _ _ _ _ _ _ => trivial) (fun i j _ _ _ _ _ hi => absurd hi (aey _))
 | HF sz n e f F b off c a cur vf hF hb hlen hc ha iY bw nH xD Dq HG ih => exact .mk sz n e f F (fun _ _ _ _ _ _ => trivial) ih
theorem ml.one {S : Nat → Prop} {w : World} {pv : PV} {v : Value} (h : ml S w pv v) : v.oneCell' = true := by cases h <;> rfl
section
variable {μ μ' : Mu} {h h' : List ak} {S S' : Nat → Prop} {w w' : World}
theorem bZ.kG {pv : PV} {v : Value} (hp : aV S w pv v) : bZ μ h S w pv v := by
 cases hp <;> first | exact .int _ _ | exact .bool _ | exact .str _ | exact .aq | exact .fn _ | exact .qj _ _ _ _ | (rename_i h1 h2 h3 h4 h5 _; first | exact .gz _ _ _ _ _ _ _ ‹_› ‹_› ‹_› ‹_› ‹_›) | exact .gf _ _ _ _ ‹_› ‹_› ‹_›
theorem bZ.fr (hf : Fr μ h S w μ' h' S' w') (hm : tG μ h S w) {pv : PV} {v : Value} (hc : bZ μ h S w pv v) : bZ μ' h' S' w' pv v := by
 have hS : ∀ b, S b → w'.heap[b]? = w.heap[b]? := fun b hb => hf.blocks b (hm.slt b hb) (fun ho => hm.apart b ho hb)
 have uJ : ∀ (id gen i off : Nat) (v : Value), cc μ h w id gen i off v → cc μ' h' w' id gen i off v := fun id gen i off v hc => by
  unfold cc at hc ⊢
  obtain ⟨Dk, hc⟩ := hc
  refine ⟨Dk, ?_⟩
  cases ho : h[id]? with
  | none => rw [ho] at hc; exact hc.elim
  | some o =>
   cases o with
   | dead => rw [hf.dead id ho]; trivial
   | row g sz n e f =>
    rw [ho] at hc
    have hg := hf.B4 id g sz n e f ho
    cases Mx : h'[id]? with
    | none => rw [Mx] at hg; exact hg
    | some o' =>
     cases o' with
     | dead => trivial
     | row g' cf n' e' f' =>
      rw [Mx] at hg
      obtain ⟨hle, kH⟩ := hg
      obtain ⟨WL, hc⟩ := hc
      refine ⟨aer WL hle, fun he => ?_⟩
      have heq : g' = g := by omega
      obtain ⟨hμ, rfl, rfl, rfl⟩ := kH heq
      obtain ⟨h1, h2⟩ := hc ahw
      refine ⟨h1, ?_⟩
      rw [hμ]
      obtain ⟨b, base, q1, q2, q3⟩ := h2
      exact ⟨b, base, q1, hf.bX b _ (.inl ⟨id, g, _, _, _, _, base, ho, q1⟩) q2, q3⟩
 cases pv with
 | own id gen off len =>
  have hc : bL μ h w id gen off len v := hc
  show bL μ' h' w' id gen off len v
  unfold bL at hc ⊢
  obtain ⟨Dk, hc⟩ := hc
  refine ⟨Dk, ?_⟩
  cases ho : h[id]? with
  | none => rw [ho] at hc; exact hc.elim
  | some o =>
   cases o with
   | dead => rw [hf.dead id ho]; trivial
   | row g sz n e f =>
    rw [ho] at hc
    have hg := hf.B4 id g sz n e f ho
    cases Mx : h'[id]? with
    | none => rw [Mx] at hg; exact hg
    | some o' =>
     cases o' with
     | dead => trivial
     | row g' cf n' e' f' =>
      rw [Mx] at hg
      obtain ⟨hle, kH⟩ := hg
      obtain ⟨WL, hc⟩ := hc
      refine ⟨aer WL hle, fun he => ?_⟩
      have heq : g' = g := by omega
      obtain ⟨hμ, rfl, rfl, rfl⟩ := kH heq
      obtain ⟨h1, h2⟩ := hc ahw
      refine ⟨h1, ?_⟩
      rw [hμ]
      cases iL : μ id with
      | none => rw [iL] at h2; exact h2
      | some p =>
       obtain ⟨b, base⟩ := p
       rw [iL] at h2
       obtain ⟨a, cap, h3, h4, h5, h6⟩ := h2
       exact ⟨a, cap, h3, h4, h5, hf.bX b _ (.inl ⟨id, g, _, _, _, _, base, ho, iL⟩) h6⟩
 | aG id gen i off => exact uJ _ _ _ _ _ hc
 | oP f bX => exact tH.mono (show oJ μ h w f bX v from hc) (fun id g u hu => uJ _ _ _ _ _ hu)
 | lA id =>
  have hc : gJ μ h w id v := hc
  show gJ μ' h' w' id v
  unfold gJ at hc ⊢
  obtain ⟨Dk, hc⟩ := hc
  refine ⟨Dk, ?_⟩
  cases ho : h[id]? with
  | none => rw [ho] at hc; exact hc.elim
  | some o =>
   cases o with
   | dead => rw [hf.dead id ho]; trivial
   | row g sz n e f =>
    rw [ho] at hc
    obtain ⟨b, base, q1, q2, q3⟩ := hc
    obtain ⟨r1, r2⟩ := hf.maps id g sz n e f b base ho q1 q2
    rcases r2 with r2 | ⟨⟨g', cf, n', e', f', r2⟩, r3⟩
    ·rw [r2]; trivial
    ·rw [r2]; exact ⟨b, base, r3, r1, q3⟩
 | iZ => exact hc
 | bf sz n e f F => exact hc
 | agg cs => exact hc.elim
 | fu cs => exact hc.elim
 | int k n => exact aV.mono hS hf.sub hc
 | bool b => exact aV.mono hS hf.sub hc
 | str s => exact aV.mono hS hf.sub hc
 | aq => exact aV.mono hS hf.sub hc
 | gz sz n f => exact aV.mono hS hf.sub hc
 | gf cs => exact aV.mono hS hf.sub hc
 | fn f => exact aV.mono hS hf.sub hc
theorem jX.fr (hf : Fr μ h S w μ' h' S' w') (hm : tG μ h S w) {pv : PV} {v : Value} (hc : jX μ h S w pv v) : jX μ' h' S' w' pv v := by
 cases pv with
 | agg cs =>
  obtain ⟨vs, h1, h2, h3⟩ := hc
  exact ⟨vs, h1, h2, fun j pv hj => let ⟨u, hu, hr⟩ := h3 j pv hj; ⟨u, hu, hr.fr hf hm⟩⟩
 | int k n => exact bZ.fr (pv := .int k n) hf hm hc
 | bool b => exact bZ.fr (pv := .bool b) hf hm hc
 | str s => exact bZ.fr (pv := .str s) hf hm hc
 | aq  => exact bZ.fr (pv := .aq ) hf hm hc
 | gz sz n f => exact bZ.fr (pv := .gz sz n f) hf hm hc
 | gf cs => exact bZ.fr (pv := .gf cs) hf hm hc
 | own id gen off len => exact bZ.fr (pv := .own id gen off len) hf hm hc
 | aG id gen i off => exact bZ.fr (pv := .aG id gen i off) hf hm hc
 | lA id => exact bZ.fr (pv := .lA id) hf hm hc
 | oP f bX => exact bZ.fr (pv := .oP f bX) hf hm hc
 | fn f => exact bZ.fr (pv := .fn f) hf hm hc
 | iZ => trivial
 | bf sz n e f F => exact bZ.fr (pv := .bf sz n e f F) hf hm hc
 | fu cs => exact (show False from hc).elim
theorem bN.fr (hf : Fr μ h S w μ' h' S' w') (hm : tG μ h S w) {pv : PV} {v : Value} (hc : bN μ h S w pv v) : bN μ' h' S' w' pv v := by
 cases pv with
 | fu cs =>
  obtain ⟨vs, h1, h2, h3⟩ := hc
  exact ⟨vs, h1, h2, fun j pv hj => let ⟨u, hu, hr⟩ := h3 j pv hj; ⟨u, hu, hr.fr hf hm⟩⟩
 | int k n => exact jX.fr (pv := .int k n) hf hm hc
 | bool b => exact jX.fr (pv := .bool b) hf hm hc
 | str s => exact jX.fr (pv := .str s) hf hm hc
 | aq  => exact jX.fr (pv := .aq ) hf hm hc
 | gz sz n f => exact jX.fr (pv := .gz sz n f) hf hm hc
 | gf cs => exact jX.fr (pv := .gf cs) hf hm hc
 | own id gen off len => exact jX.fr (pv := .own id gen off len) hf hm hc
 | aG id gen i off => exact jX.fr (pv := .aG id gen i off) hf hm hc
 | lA id => exact jX.fr (pv := .lA id) hf hm hc
 | oP f bX => exact jX.fr (pv := .oP f bX) hf hm hc
 | fn f => exact jX.fr (pv := .fn f) hf hm hc
 | iZ => trivial
 | bf sz n e f F => exact jX.fr (pv := .bf sz n e f F) hf hm hc
 | agg cs => exact jX.fr (pv := .agg cs) hf hm hc
theorem aV.one {pv : PV} {v : Value} (hp : aV S w pv v) : v.oneCell' = true := by cases hp <;> rfl
theorem bZ.one {pv : PV} {v : Value} (hc : bZ μ h S w pv v) : v.oneCell' = true := by
 cases pv with
 | own id gen off len =>
  obtain ⟨⟨a, l, c, rfl⟩, _⟩ := (show bL μ h w id gen off len v from hc)
  rfl
 | aG id gen i off =>
  obtain ⟨⟨a, rfl⟩, _⟩ := (show cc μ h w id gen i off v from hc)
  rfl
 | lA id =>
  obtain ⟨⟨a, rfl⟩, _⟩ := (show gJ μ h w id v from hc)
  rfl
 | oP f bX =>
  obtain ⟨vs, rfl, _⟩ := (show oJ μ h w f bX v from hc)
  rfl
 | iZ => exact hc
 | bf sz n e f F => exact hc
 | agg cs => exact (show False from hc).elim
 | fu cs => exact (show False from hc).elim
 | int k n => exact aV.one (show aV S w _ v from hc)
 | bool b => exact aV.one (show aV S w _ v from hc)
 | str s => exact aV.one (show aV S w _ v from hc)
 | aq => exact aV.one (show aV S w _ v from hc)
 | gz sz n f => exact aV.one (show aV S w _ v from hc)
 | gf cs => exact aV.one (show aV S w _ v from hc)
 | fn f => exact aV.one (show aV S w _ v from hc)
theorem pf.c {pv : PV} {v : Value} (hc : pf μ h S w pv v) : bZ μ h S w pv v := by
 cases pv with
 | bf sz n e f F => exact ml.one (show ml S w (.bf sz n e f F) v from hc)
 | _ => exact hc
theorem bZ.k {pv : PV} {v : Value} (hc : bZ μ h S w pv v) (ho : ef pv = false) : pf μ h S w pv v := by
 cases pv with
 | bf sz n e f F => cases ho
 | _ => exact hc
theorem pf.fr (hf : Fr μ h S w μ' h' S' w') (hm : tG μ h S w) {pv : PV} {v : Value} (hF : ∀ sz n e f F, pv = .bf sz n e f F → ∀ b, F b → w'.heap[b]? = w.heap[b]?) (hc : pf μ h S w pv v) : pf μ' h' S' w' pv v := by
 cases pv with
 | bf sz n e f F => exact ml.mono (fun b hb => hf.blocks b (hm.slt b hb) (fun ho => hm.apart b ho hb)) hf.sub (show ml S w (.bf sz n e f F) v from hc) hF
 | _ => exact (bZ.fr hf hm (pf.c hc)).k rfl
theorem va {id i j b : Nat} : ¬ eg [] id i j b := fun ⟨_, _, _, _, _, _, _, _, _, _, h1, _⟩ => by simp at h1
theorem kx {μ : Mu} {b : Nat} : ¬ cQ μ [] b := fun h => by
 rcases h with ⟨id, g, sz, n, e, f, base, h1, _⟩ | ⟨_, _, _, h1⟩
 ·simp at h1
 ·exact va h1
theorem Fr.refl : Fr μ h S w μ h S w where
 len := adV _
 blocks _ _ _ := rfl
 sub _ hb := hb
 new _ hb := .inl hb
 own _ hb := .inl hb
 size := adV _
 os := rfl
 tape := rfl
 output := rfl
 B4 id g sz n e f hh := by rw [hh]; exact ⟨adV _, fun _ => ⟨rfl, rfl, rfl, rfl⟩⟩
 dead _ hh := hh
 bX _ _ _ hc := hc
 maps id g sz n e f b base ho hm hb := ⟨hb, .inr ⟨⟨g, sz, n, e, f, ho⟩, hm⟩⟩
 vO b id i j hh hb := hb
theorem Fr.trans {μ'' : Mu} {RL : List ak} {WH : Nat → Prop} {On : World} (a : Fr μ h S w μ' h' S' w') (b : Fr μ' h' S' w' μ'' RL WH On) : Fr μ h S w μ'' RL WH On where
 len := aer a.len b.len
 blocks k hk hn := (b.blocks k (aet hk a.size) (fun ho => by
  rcases a.own k ho with h1 | h1
  ·exact hn h1
  ·omega)).trans (a.blocks k hk hn)
 sub k hk := b.sub k (a.sub k hk)
 new k hk := by
  rcases b.new k hk with h1 | h1 | h1
  ·exact a.new k h1
  ·rcases a.own k h1 with h2 | h2
   ·exact .inr (.inl h2)
   ·exact .inr (.inr h2)
  ·exact .inr (.inr (aer a.size h1))
 own k hk := by
  rcases b.own k hk with h1 | h1
  ·exact a.own k h1
  ·exact .inr (aer a.size h1)
 size := aer a.size b.size
 os := b.os.trans a.os
 tape := b.tape.trans a.tape
 output := b.output.trans a.output
 B4 id g sz n e f hh := by
  have h1 := a.B4 id g sz n e f hh
  cases Mx : h'[id]? with
  | none => rw [Mx] at h1; exact h1.elim
  | some o' =>
   cases o' with
   | dead => rw [b.dead id Mx]; trivial
   | row g' cf n' e' f' =>
    rw [Mx] at h1
    have h2 := b.B4 id g' cf n' e' f' Mx
    cases ho'' : RL[id]? with
    | none => rw [ho''] at h2; exact h2
    | some o'' =>
     cases o'' with
     | dead => trivial
     | row g'' sz'' n'' e'' f'' =>
      rw [ho''] at h2
      refine ⟨aer h1.1 h2.1, fun he => ?_⟩
      have e1 : g' = g := by have := h1.1; have := h2.1; omega
      have e2 : g'' = g' := by omega
      obtain ⟨x1, x2, x3, x4⟩ := h1.2 e1
      obtain ⟨y1, y2, y3, y4⟩ := h2.2 e2
      exact ⟨y1.trans x1, y2.trans x2, y3.trans x3, y4.trans x4⟩
 dead id hh := b.dead id (a.dead id hh)
 bX k c ho hc := by
  have h1 := a.bX k c ho hc
  by_cases h2 : cQ μ' h' k
  ·exact b.bX k c h2 h1
  ·refine lj.of_same (b.blocks k ?_ h2) h1
   obtain ⟨cur, e, h3, _⟩ := h1
   exact (adZ.1 h3).1
 maps id g sz n e f k base ho hm hb := by
  obtain ⟨h1, h2⟩ := a.maps id g sz n e f k base ho hm hb
  rcases h2 with h2 | ⟨⟨g', cf, n', e', f', h2⟩, h3⟩
  ·refine ⟨?_, .inl (b.dead id h2)⟩
   by_cases h4 : cQ μ' h' k
   ·rcases h4 with ⟨j, g', cf, n', e', f', rK, j1, j2⟩ | ⟨j, x, y, h4⟩
    ·exact (b.maps j g' cf n' e' f' k rK j1 j2 h1).1
    ·exact b.vO k j x y h4 h1
   ·obtain ⟨es, c, h5⟩ := h1
    exact ⟨es, c, (b.blocks k (adZ.1 h5).1 h4).trans h5⟩
  ·exact b.maps id g' cf n' e' f' k base h2 h3 h1
 vO k id i j hh hb := by
  have h1 := a.vO k id i j hh hb
  by_cases h4 : cQ μ' h' k
  ·rcases h4 with ⟨j, g', cf, n', e', f', rK, j1, j2⟩ | ⟨j, x, y, h4⟩
   ·exact (b.maps j g' cf n' e' f' k rK j1 j2 h1).1
   ·exact b.vO k j x y h4 h1
  ·obtain ⟨es, c, h5⟩ := h1
   exact ⟨es, c, (b.blocks k (adZ.1 h5).1 h4).trans h5⟩
structure cP (w w' : World) : Prop where
 blocks : ∀ b, b < w.heap.size → w'.heap[b]? = w.heap[b]?
 size : w.heap.size ≤ w'.heap.size
 os : w'.os = w.os
 tape : w'.tape = w.tape
 output : w'.output = w.output
theorem cP.refl (w : World) : cP w w := ⟨fun _ _ => rfl, adV _, rfl, rfl, rfl⟩
theorem cP.trans {a b c : World} (x : cP a b) (y : cP b c) : cP a c :=
 ⟨fun k hk => (y.blocks k (aet hk x.size)).trans (x.blocks k hk), aer x.size y.size, y.os.trans x.os, y.tape.trans x.tape, y.output.trans x.output⟩
theorem cP.cell {w w' : World} (h : cP w w') {a : Addr} {u : Value} (hc : w.cell? a = some u) : w'.cell? a = some u :=
 (World.cell?_of_block (w := w) (h.blocks a.block (World.block_lt_of_cell? _ _ hc))).trans hc
theorem cP.drew (w : World) : cP w w.drew := ⟨fun _ _ => rfl, adV _, rfl, rfl, rfl⟩
theorem cP.drewN (w : World) (n : Nat) : cP w (w.drewN n) := ⟨fun _ _ => rfl, adV _, rfl, rfl, rfl⟩
theorem lj.lt {b k : Nat} (h : lj w b k) : b < w.heap.size := by
 obtain ⟨cur, e, h1, _⟩ := h
 exact (adZ.1 h1).1
theorem Fr.xQ (ha : cP w w') : Fr μ h S w μ h S w' where
 len := adV _
 blocks b hb _ := ha.blocks b hb
 sub _ hb := hb
 new _ hb := .inl hb
 own _ hb := .inl hb
 size := ha.size
 os := ha.os
 tape := ha.tape
 output := ha.output
 B4 id g sz n e f hh := by rw [hh]; exact ⟨adV _, fun _ => ⟨rfl, rfl, rfl, rfl⟩⟩
 dead _ hh := hh
 bX b k _ hc := lj.of_same (ha.blocks b hc.lt) hc
 maps id g sz n e f b base ho hm hb := ⟨let ⟨es, c, h5⟩ := hb; ⟨es, c, (ha.blocks b (adZ.1 h5).1).trans h5⟩, .inr ⟨⟨g, sz, n, e, f, ho⟩, hm⟩⟩
 vO b id i j _ hb := let ⟨es, c, h5⟩ := hb; ⟨es, c, (ha.blocks b (adZ.1 h5).1).trans h5⟩
theorem tG.B3 (hm : tG μ h S w) (hF : Fr μ h S w μ' h' S' w') : LI S' w' :=
 hm.known.BI (fun b hb => hF.blocks b (hm.slt b hb) (fun ho => hm.apart b ho hb)) hF.sub
theorem tG.agree (ha : cP w w') (hm : tG μ h S w) : tG μ h S w' :=
 ⟨hm.apart, fun b hb => aet (hm.lt b hb) ha.size, fun b hb => aet (hm.slt b hb) ha.size, hm.inj, hm.known.BI (fun b hb => ha.blocks b (hm.slt b hb)) (fun _ hb => hb), hm.hv, hm.hh⟩
theorem cH.agree (ha : cP w w') (hm : tG μ h S w) (hh : cH μ h S w) : cH μ h S w' := by
 intro id g sz n e f ho
 obtain ⟨h1, h2⟩ := hh id g sz n e f ho
 refine ⟨h1, ?_⟩
 cases iL : μ id with
 | none => rw [iL] at h2; exact h2
 | some p =>
  obtain ⟨b, base⟩ := p
  rw [iL] at h2
  obtain ⟨o, h3, h4⟩ := h2
  have bO : b < w.heap.size := (adZ.1 h3).1
  exact ⟨o, (ha.blocks b bO).trans h3, h4.mono (fun i j pv v hi hj hr => hr.fr (Fr.xQ ha) hm (fun cf n' e' f' F' he b' oI => ha.blocks b' (hm.lt b' (.inr ⟨id, i, j, g, sz, n, e, f, cf, n', e', f', F', ho, hi, by rw [hj, he], oI⟩))))⟩
end
end Go.Am
