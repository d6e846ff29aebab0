/- Texts of the proof, joined. -/
import Derived.Test.YtdjleldpjijnpaaGreatDoorRows
import Derived.Test.YtdjleldpjijnpaaGreatDoorCards
import Derived.Test.YtdjleldpjijnpaaGreatDoorTie
import Derived.WalkKit
import Derived.ProofKit
import Derived.OpenShut
import Derived.ShutString
import Derived.ChangeOld
import Derived.Below
import Derived.HandedShaped
import Derived.ChangeSame
import Derived.ChangeVars
import Derived.ChangeMaps5
import Derived.JoinedOf
import Derived.JoinedAt
import Derived.LaidLaws
import Derived.Stop.LaidErr
import Derived.Lib.LaidTab
import Derived.SevenTiedAt
import Derived.Test.YtdjleldpjijnpaaGreatDoorPk12
namespace Go.Proofs.YtdjleldpjijnpaaGreatDoor.fnExactOptimize
open Go.ChangeShapes Go.WideShapes Go.ChangeAt Go.RowKit
open Go.ChangeMaps (open_string shut_string)
set_option linter.unusedVariables false
theorem own:ownKnob Tryz.prog.godebug=none:=by kernel_rfl
theorem laidOut:laidOutB Tryz.prog=true:=by kernel_rfl
abbrev agQ:ByteArray:={data:=#[105,110,118,97,108,105,100,32,115,121,110,116,97,120]}
abbrev agR:ByteArray:={data:=#[118,97,108,117,101,32,111,117,116,32,111,102,32,114,97,110,103,101]}
def adI:List Int:=[0,1,28,2,29,14,24,3,30,22,20,15,25,17,4,8,31,27,13,23,21,19,16,7,26,12,18,6,11,5,10,9]
def adJ:List Int:=[0,1,56,2,57,49,28,3,61,58,42,50,38,29,17,4,62,47,59,36,45,43,51,22,53,39,33,30,24,18,12,5,63,55,48,27,60,41,37,16,46,35,44,21,52,32,23,11,54,26,40,15,34,20,31,10,25,14,19,9,13,8,7,6]
noncomputable def low:Nat:=(World.holding Tryz.prog default ⟨#[],#[],[]⟩).heap.size
noncomputable def G6 (os:Os):World:=
 let w0:=World.holding Tryz.prog os ⟨#[.cells #[.string agQ] 271,.cells #[.string agR] 271],#[],[]⟩
 let put (g:Nat) (cs:Array Value) (h:Array Obj):Array Obj:=h.modify g fun
  | .cells _ t frozen=>.cells cs t frozen
  | o=>o
 {w0 with heap:=put 3 (Am.La.map λz=>Value.int .u64 z).toArray (put 1 #[.iface 269 (.pointer (some ⟨low,0,none⟩))] (put 2 #[.iface 269 (.pointer (some ⟨low+1,0,none⟩))]
   (put 4 (adI.map λz=>Value.int .u8 z).toArray (put 5 (adJ.map λz=>Value.int .u8 z).toArray w0.heap))))}
noncomputable def places:List MemPlace:=(List.range 32).map (λi=>MemPlace.cell 4 i)++((List.range 64).map (λi=>MemPlace.cell 5 i)++((List.range 20).map (λi=>MemPlace.cell 3 i)++[.cell 2 0,.cell (low+1) 0,.cell 1 0,.cell low 0]))
abbrev xh:List (String×DataW Unit):=[("math/bits.deBruijn32tab",Rows.laid_math_bits_deBruijn32tab),("math/bits.deBruijn64tab",Rows.laid_math_bits_deBruijn64tab),("internal/strconv.uint64pow10",Rows.laid_internal_strconv_uint64pow10),("strconv.ErrRange",Rows.laid_strconv_ErrRange),("strconv.ErrSyntax",Rows.laid_strconv_ErrSyntax)]
set_option maxRecDepth 100000 in
theorem Gd (os:Os) (args:Array Value):laidMet Tryz.prog xh ((G6 os).forCall (λ_ _=>0) ⟨#[],args,[]⟩).memory:=
 laidMet_of_run (ps:=places) 8 (by kernel_rfl) (by kernel_rfl) (by kernel_rfl)
theorem xi {w:World} {n:String} {g:Nat} {cs:Array Value} (hg:Tryz.prog.globalNamed n=some g) (h:w.var? Tryz.prog n=some cs):∃t z,w.heap[g]? =some (.cells cs t z):=by
 unfold World.var? at h;rw[hg]at h;simp only[Option.bind_some]at h;split at h
 ·rename_i c t z hh;cases h;exact⟨_,_,hh⟩
 ·cases h
theorem lt_of_heap {w:World} {g:Nat} {o:Obj} (h:w.heap[g]? =some o):g<w.heap.size:=(Array.getElem?_eq_some_iff.1 h).1
theorem star: "*" ++ "errors.errorString" = "*errors.errorString" :=by decide
theorem TU (u:TypeId) (h:Tryz.prog.typeName? 3 u=some "*errors.errorString"):u=269:=
 typeName_ptr_named (nm:= "errors.errorString") (by rw[star];kernel_rfl) (by kernel_rfl) (by decide) u (by rw[star];exact h)
theorem gR:Tryz.prog.globalNamed "strconv.ErrRange" =some 2:=by kernel_rfl
theorem gRT:(Tryz.prog.globals[2]?).map (·.type)=some 223:=by kernel_rfl
theorem gST:(Tryz.prog.globals[1]?).map (·.type)=some 223:=by kernel_rfl
theorem gTT:(Tryz.prog.globals[3]?).map (·.type)=some 272:=by kernel_rfl
theorem adK:Tryz.prog.cellsOf 271=1:=by kernel_rfl
theorem c9:Tryz.prog.cellsOf 9=1:=by kernel_rfl
theorem WD {w:World} (hL:laidMet Tryz.prog xh w) (hsh:w.ShapedOpen Tryz.prog):Am.QG (λb=>b<w.heap.size) w:=by
 have h1:=hL.tail.tail;have h2:=h1.tail;have h3:=h2.tail;refine⟨λp hp=>?_,λg hg=>?_,λg hg=>?_⟩
 ·have e:p=(3,(Am.La.map λz=>Value.int .u64 z).toArray):=by simpa[Am.IM]using hp
  subst e;have ht:Lib.TabIs Tryz.prog w "internal/strconv.uint64pow10" .u64 Am.La:=Lib.tabIs_of_head Am.aaY gTT Tryz.underlying272 Tryz.underlying236 (by kernel_rfl) (by kernel_rfl) h1;obtain⟨t,z,hh⟩:=xi Am.aaY ht;exact⟨lt_of_heap hh,t,z,hh⟩
 ·have hg:g=1\/g=2:=by simpa[Am.Aq]using hg
  rcases hg with rfl | rfl
  ·obtain⟨a0,s0,Qg,-,-,-⟩:=laid_sentinel h3 Am.aaZ gST Tryz.underlying223 TU Tryz.underlying269 Tryz.underlying271 rfl rfl Tryz.underlying9 adK c9;obtain⟨t,z,hh⟩:=xi Am.aaZ Qg;exact⟨lt_of_heap hh,_,_,t,z,hh⟩
  ·obtain⟨a0,s0,Qg,-,-,-⟩:=laid_sentinel h2 Am.aa0 gRT Tryz.underlying223 TU Tryz.underlying269 Tryz.underlying271 rfl rfl Tryz.underlying9 adK c9;obtain⟨t,z,hh⟩:=xi Am.aa0 Qg;exact⟨lt_of_heap hh,_,_,t,z,hh⟩
 ·have hg:g=0:=by simpa[Am.OY]using hg
  subst hg;obtain⟨cs,hh,hs,_⟩:=hsh.1 0 #[.int .i64 0] (3,(0,0)).1 (of_decide_eq_true (by kernel_rfl)) (by kernel_rfl);obtain⟨m,hm⟩:=cell_of_shapedOpen_int (P:=Tryz.prog) (g:=0) (t:=3) (zero:=#[.int .i64 0]) hsh (of_decide_eq_true (by kernel_rfl)) (by kernel_rfl) rfl (by kernel_rfl) (by kernel_rfl) Tryz.underlying3
  have e:cs=#[.int .i64 m]:=by
   obtain⟨l⟩:=cs;rcases l with _ | ⟨x,_ | ⟨y,l⟩⟩
   ·simp at hs
   ·simp [World.cell?,hh]at hm;rw[hm]
   ·simp at hs
  subst e;exact⟨lt_of_heap hh,m,_,_,hh⟩
theorem wrap {H:Type} {enc:TypeId×Value->H} {a:Assume} {C:Checked} {os:Os} {f:FuncId} {fn:Func} {s:ChangeSpec} {conds:List PathCond} {apart fresh handsOn again:Bool} {X:World->Array Value->Prop}
  (hX:∀(w w':World) (args:Array Value),w.heap=w'.heap->X w args->X w' args)
  (own:ownKnob C.prog.godebug=none) (started:os.Started) (aa3:C.prog.inits.idxOf? f=none) (WE:C.prog.funcs[f]? =some fn)
  (witness:∃(w:World) (tape:Tape) (i:Input),w.os=os/\(w.forCall tape i).Shaped C.prog/\i.vars=[]/\Input.okWide C.prog (w.forCall tape i) .any w.heap.size f i/\
   ((s.pre enc C.prog fn conds apart (w.forCall tape i).memory i.args/\X (w.forCall tape i).memory i.args)/\sizedMet enc C.prog fn (OpenSpec.ofChange s) apart (w.forCall tape i).memory i.args)/\a.holds C.prog (lone (Frame.enter C.prog f i.args .normal) [] (w.forCall tape i)))
  (contract:∀(W:World) (base:Nat) (args:Array Value) (ds gs:List (DataW H)) (before:List MemPlace),
   (∀(j:Nat) t v,fn.params[j]? =some t->args[j]? =some v->Value.okWide C.prog W .any base t v)->
   DataW.Whole enc C.prog fn.params.toList s.vars apart W args.toList ds gs before->X W args->W.ShapedOpen C.prog->
   Calls C.prog f args W λe W'=>∃v,e=.returned v/\s.post enc C.prog fn apart fresh handsOn again W args v W'):
  ReturnsInHanded a C os f .any (λw args=>(s.pre enc C.prog fn conds apart w args/\X w args)/\sizedMet enc C.prog fn (OpenSpec.ofChange s) apart w args) (s.post enc C.prog fn apart fresh handsOn again):=by
 refine returnsInHanded_of_calls own started aa3 witness ?_;intro w tape i _ hsh _ Bo agS _;obtain⟨_,_,_,fn',agT,_,_,_,_,Bh⟩:=Bo;obtain rfl:fn'=fn:=Option.some.inj (agT.symm.trans WE);obtain⟨⟨⟨ds,gs,before,hw,_⟩,hx⟩,_⟩:=agS;refine(contract (w.forCall tape i) w.heap.size i.args ds gs before Bh (DataW.Whole.of_heap (w':=w.forCall tape i) (by rfl) hw) (hX _ _ _ (by rfl) hx) hsh).mono λe W' ⟨v,he,hp⟩=>?_;subst he;exact ChangeSpec.post_blind hp
set_option maxRecDepth 100000 in
theorem lifted (os:Os) (started:os.Started) (H:Type) (enc:TypeId×Value->H):
  ReturnsInHanded {} Tryz.checked os 3 .any (λw args=>(Rows.fnExactOptimizeSpec.pre enc Tryz.prog Tryz.f3 Rows.fnExactOptimizeRow.domain false w args/\laidMet Tryz.prog xh w)/\sizedMet enc Tryz.prog Tryz.f3 (OpenSpec.ofChange Rows.fnExactOptimizeSpec) false w args)
   (Rows.fnExactOptimizeSpec.post enc Tryz.prog Tryz.f3 false true false false):=by
 refine wrap (C:=Tryz.checked) (X:=λw _=>laidMet Tryz.prog xh w) (λ_ _ _ hh h=>h.of_heap hh) own started (by kernel_rfl) Tryz.func3
  (ChangeSpec.witness_at (enc:=enc) (C:=Tryz.checked) (os:=os) (X:=λw _=>laidMet Tryz.prog xh w) false (G6 os) #[.agg #[.slice none 0 0,.slice none 0 0]] 8 rfl (by kernel_rfl) (by kernel_rfl) (by kernel_rfl) (by kernel_rfl) (by kernel_rfl) (Gd os _)) ?_
 intro W base args ds gs before X9 hW hL hsh;have Bh:∀(j:Nat) t v,Tryz.f3.params[j]? =some t->args[j]? =some v->Value.okWide Tryz.prog W .any base t v:=X9;have hW':=hW;obtain⟨p,q,hA0,hV,rfl,hfz,hnd⟩:=hW;have hA:DataW.TrodAll enc Tryz.prog W 0 (λ_=>true) true Tryz.f3.params.toList args.toList ds p:=hA0;rw[Tryz.params3]at hA Bh;obtain⟨v0,vs0,d0,ds0,p0,q0,agU,rfl,rfl,h0,r0⟩:=trodAll_cons hA;obtain⟨rfl,rfl,rfl⟩:=trodAll_nil r0;obtain rfl:args=#[v0]:=by cases args;simp_all
 obtain⟨rfl,rfl⟩:=trodVars_none hV;obtain⟨cs0,rfl,ahv⟩:=okWide_struct Tryz.underlying25 (Bh 0 25 v0 rfl rfl);have k0:=h0;have lt0:∀x∈p0,x.block<W.heap.size:=by obtain⟨m,hm⟩:=k0;exact DataW.trod_lt m _ _ _ hm
 obtain⟨t0,ht0,uu⟩:=Am.aeg _ _ (Am.Hr (λb hb=>hb)) h0;clear hA0 X9
 have hw:Calls Tryz.prog 3 #[.agg cs0] W λe w'=>e=.returned (.bool true)/\Below W.heap.size W w':=by
  refine Am.Q2 (vs:=#[.agg cs0]) (WD hL hsh) (Am.CF t0 ht0) rfl (λj pv hj=>?_);rcases j with _ | j
  ·cases hj;exact⟨_,rfl,uu⟩
  cases hj
 refine hw.mono λe W' ⟨he,bel⟩=>?_;subst he;exact⟨_,rfl,_,_,_,[],_,[],hW',trodAll_mk1 (shut_bool Tryz.underlying4 _),(trodAll_cons_mk (Below.trod laidOut (by kernel_rfl) (of_decide_eq_true (by kernel_rfl)) k0 bel lt0) trodAll_mk0),rfl,bel.frame _,λh=>by cases h⟩
theorem adL:Tryz.pinned.checked.prog.funcNamed Rows.fnExactOptimizeRow.func=some 3:=by kernel_rfl
theorem adM:joinedFacts Tryz.pinned.checked.prog 3 Tryz.f3 Rows.fnExactOptimizeSpec Rows.fnExactOptimizeRow=true:=by kernel_rfl
theorem adN:Tryz.f3.isInstance Tryz.pinned.checked.prog Rows.fnExactOptimizeRow.origin Rows.fnExactOptimizeRow.targs:=of_decide_eq_true (by kernel_rfl)
theorem adO:Tryz.f3.isWrapper Tryz.pinned.checked.prog Rows.fnExactOptimizeRow.wrapper Rows.fnExactOptimizeRow.mainSum:=by unfold Func.isWrapper;first | (rw[if_pos (by decide +kernel)];kernel_rfl) | (rw[if_neg (by decide +kernel)];exact⟨rfl,rfl⟩)
theorem over:Rows.FnExactOptimizeSaid:=
 OpenClaim.holds_of_wide 3 Tryz.f3 rfl rfl rfl rfl rfl rfl rfl ⟨rfl,rfl,rfl,rfl,rfl⟩ rfl rfl rfl rfl rfl adL Tryz.func3 adM
  adN adO
  (λos started H enc _=>lifted os started H enc)
theorem proved:Rows.FnExactOptimizeCardSaid:=
 Claim7.holds_tied_plain_at .later [] [.data,.data,.data,.sentinel,.sentinel] true (true, "c65f88278cd7c1cbda861bbc3dcea1e72682f76cd4f594f2820a889d19e9a2a9") true
  over (λ_ h=>by cases h) (by kernel_rfl) (λ_ h=>by cases h) fnExactOptimize_row_tie rfl ⟨rfl,rfl⟩ (by kernel_rfl) rfl
  (λf fn hf WE=>by
   obtain rfl:f=3:=Option.some.inj ((show Tryz.prog.funcNamed "loop.example/g03011/laws.FnExactOptimize" =some 3 by kernel_rfl).symm.trans hf) |>.symm;obtain rfl:fn=Tryz.f3:=(Option.some.inj (Tryz.func3.symm.trans WE)).symm
   exact⟨by kernel_rfl,λj t ht=>by
    rw[Tryz.params3]at ht
    have h9:t=25:=by
     rcases j with _ | j
     ·simpa using ht.symm
     ·simp at ht
    subst h9;exact(show Tryz.prog.wantsStandIn 25=false by kernel_rfl)⟩)
  (by kernel_rfl)
end Go.Proofs.YtdjleldpjijnpaaGreatDoor.fnExactOptimize
