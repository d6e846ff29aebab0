/- Texts of the proof, joined. -/
import Derived.Test.YtgakkhamfiegbaaGreatDoorRows
import Derived.Test.YtgakkhamfiegbaaGreatDoorCards
import Derived.Test.YtgakkhamfiegbaaGreatDoorTie
import Derived.WalkKit
import Derived.ProofKit
import Derived.OpenShut
import Derived.ShutString
import Derived.ChangeOld
import Derived.Below
import Derived.HandedShaped
import Derived.ChangeSame
import Derived.ChangeVars
import Derived.ChangeMaps5
import Derived.JoinedOf
import Derived.JoinedAt
import Derived.LaidLaws
import Derived.Stop.LaidErr
import Derived.Lib.LaidTab
import Derived.SevenTiedAt
import Derived.Test.YtgakkhamfiegbaaGreatDoorPk13
namespace Go.Proofs.YtgakkhamfiegbaaGreatDoor.fnExactResultOf
open Go.ChangeShapes Go.WideShapes Go.ChangeAt Go.RowKit
open Go.ChangeMaps (open_string shut_string)
set_option linter.unusedVariables false
theorem own:ownKnob Tryz.prog.godebug=none:=by kernel_rfl
theorem laidOut:laidOutB Tryz.prog=true:=by kernel_rfl
abbrev aeu:ByteArray:={data:=#[105,110,118,97,108,105,100,32,115,121,110,116,97,120]}
abbrev aev:ByteArray:={data:=#[118,97,108,117,101,32,111,117,116,32,111,102,32,114,97,110,103,101]}
def ab3:List Int:=[0,1,28,2,29,14,24,3,30,22,20,15,25,17,4,8,31,27,13,23,21,19,16,7,26,12,18,6,11,5,10,9]
def ab4:List Int:=[0,1,56,2,57,49,28,3,61,58,42,50,38,29,17,4,62,47,59,36,45,43,51,22,53,39,33,30,24,18,12,5,63,55,48,27,60,41,37,16,46,35,44,21,52,32,23,11,54,26,40,15,34,20,31,10,25,14,19,9,13,8,7,6]
noncomputable def low:Nat:=(World.holding Tryz.prog default ⟨#[],#[],[]⟩).heap.size
noncomputable def Gl (os:Os):World:=
 let w0:=World.holding Tryz.prog os ⟨#[.cells #[.string aeu] 344,.cells #[.string aev] 344],#[],[]⟩
 let put (g:Nat) (cs:Array Value) (h:Array Obj):Array Obj:=h.modify g fun
  | .cells _ t frozen=>.cells cs t frozen
  | o=>o
 {w0 with heap:=put 3 (Am.I0.map λz=>Value.int .u64 z).toArray (put 1 #[.iface 342 (.pointer (some ⟨low,0,none⟩))] (put 2 #[.iface 342 (.pointer (some ⟨low+1,0,none⟩))]
   (put 4 (ab3.map λz=>Value.int .u8 z).toArray (put 5 (ab4.map λz=>Value.int .u8 z).toArray w0.heap))))}
noncomputable def places:List MemPlace:=(List.range 32).map (λi=>MemPlace.cell 4 i)++((List.range 64).map (λi=>MemPlace.cell 5 i)++((List.range 20).map (λi=>MemPlace.cell 3 i)++[.cell 2 0,.cell (low+1) 0,.cell 1 0,.cell low 0]))
abbrev xa:List (String×DataW Unit):=[("math/bits.deBruijn32tab",Rows.laid_math_bits_deBruijn32tab),("math/bits.deBruijn64tab",Rows.laid_math_bits_deBruijn64tab),("internal/strconv.uint64pow10",Rows.laid_internal_strconv_uint64pow10),("strconv.ErrRange",Rows.laid_strconv_ErrRange),("strconv.ErrSyntax",Rows.laid_strconv_ErrSyntax)]
set_option maxRecDepth 100000 in
theorem Fl (os:Os) (args:Array Value):laidMet Tryz.prog xa ((Gl os).forCall (λ_ _=>0) ⟨#[],args,[]⟩).memory:=
 laidMet_of_run (ps:=places) 8 (by kernel_rfl) (by kernel_rfl) (by kernel_rfl)
theorem xb {w:World} {n:String} {g:Nat} {cs:Array Value} (hg:Tryz.prog.globalNamed n=some g) (h:w.var? Tryz.prog n=some cs):∃t z,w.heap[g]? =some (.cells cs t z):=by
 unfold World.var? at h;rw[hg]at h;simp only[Option.bind_some]at h;split at h
 ·rename_i c t z hh;cases h;exact⟨_,_,hh⟩
 ·cases h
theorem lt_of_heap {w:World} {g:Nat} {o:Obj} (h:w.heap[g]? =some o):g<w.heap.size:=(Array.getElem?_eq_some_iff.1 h).1
theorem star: "*" ++ "errors.errorString" = "*errors.errorString" :=by decide
theorem Si (u:TypeId) (h:Tryz.prog.typeName? 3 u=some "*errors.errorString"):u=342:=
 typeName_ptr_named (nm:= "errors.errorString") (by rw[star];kernel_rfl) (by kernel_rfl) (by decide) u (by rw[star];exact h)
theorem gR:Tryz.prog.globalNamed "strconv.ErrRange" =some 2:=by kernel_rfl
theorem gRT:(Tryz.prog.globals[2]?).map (·.type)=some 318:=by kernel_rfl
theorem gST:(Tryz.prog.globals[1]?).map (·.type)=some 318:=by kernel_rfl
theorem gTT:(Tryz.prog.globals[3]?).map (·.type)=some 347:=by kernel_rfl
theorem ab5:Tryz.prog.cellsOf 344=1:=by kernel_rfl
theorem c9:Tryz.prog.cellsOf 9=1:=by kernel_rfl
theorem UZ {w:World} (hL:laidMet Tryz.prog xa w) (hsh:w.ShapedOpen Tryz.prog):Am.Qf (λb=>b<w.heap.size) w:=by
 have h1:=hL.tail.tail;have h2:=h1.tail;have h3:=h2.tail;refine⟨λp hp=>?_,λg hg=>?_,λg hg=>?_⟩
 ·have e:p=(3,(Am.I0.map λz=>Value.int .u64 z).toArray):=by simpa[Am.GV]using hp
  subst e;have ht:Lib.TabIs Tryz.prog w "internal/strconv.uint64pow10" .u64 Am.I0:=Lib.tabIs_of_head Am.Xg gTT Tryz.underlying347 Tryz.underlying329 (by kernel_rfl) (by kernel_rfl) h1;obtain⟨t,z,hh⟩:=xb Am.Xg ht;exact⟨lt_of_heap hh,t,z,hh⟩
 ·have hg:g=1\/g=2:=by simpa[Am.ze]using hg
  rcases hg with rfl | rfl
  ·obtain⟨a0,s0,ON,-,-,-⟩:=laid_sentinel h3 Am.Xh gST Tryz.underlying318 Si Tryz.underlying342 Tryz.underlying344 rfl rfl Tryz.underlying9 ab5 c9;obtain⟨t,z,hh⟩:=xb Am.Xh ON;exact⟨lt_of_heap hh,_,_,t,z,hh⟩
  ·obtain⟨a0,s0,ON,-,-,-⟩:=laid_sentinel h2 Am.Xi gRT Tryz.underlying318 Si Tryz.underlying342 Tryz.underlying344 rfl rfl Tryz.underlying9 ab5 c9;obtain⟨t,z,hh⟩:=xb Am.Xi ON;exact⟨lt_of_heap hh,_,_,t,z,hh⟩
 ·have hg:g=0:=by simpa[Am.Oi]using hg
  subst hg;obtain⟨cs,hh,hs,_⟩:=hsh.1 0 #[.int .i64 0] (3,(0,0)).1 (of_decide_eq_true (by kernel_rfl)) (by kernel_rfl);obtain⟨m,hm⟩:=cell_of_shapedOpen_int (P:=Tryz.prog) (g:=0) (t:=3) (zero:=#[.int .i64 0]) hsh (of_decide_eq_true (by kernel_rfl)) (by kernel_rfl) rfl (by kernel_rfl) (by kernel_rfl) Tryz.underlying3
  have e:cs=#[.int .i64 m]:=by
   obtain⟨l⟩:=cs;rcases l with _ | ⟨x,_ | ⟨y,l⟩⟩
   ·simp at hs
   ·simp [World.cell?,hh]at hm;rw[hm]
   ·simp at hs
  subst e;exact⟨lt_of_heap hh,m,_,_,hh⟩
theorem wrap {H:Type} {enc:TypeId×Value->H} {a:Assume} {C:Checked} {os:Os} {f:FuncId} {fn:Func} {s:ChangeSpec} {conds:List PathCond} {apart fresh handsOn again:Bool} {X:World->Array Value->Prop}
  (hX:∀(w w':World) (args:Array Value),w.heap=w'.heap->X w args->X w' args)
  (own:ownKnob C.prog.godebug=none) (started:os.Started) (YU:C.prog.inits.idxOf? f=none) (U0:C.prog.funcs[f]? =some fn)
  (witness:∃(w:World) (tape:Tape) (i:Input),w.os=os/\(w.forCall tape i).Shaped C.prog/\i.vars=[]/\Input.okWide C.prog (w.forCall tape i) .any w.heap.size f i/\
   ((s.pre enc C.prog fn conds apart (w.forCall tape i).memory i.args/\X (w.forCall tape i).memory i.args)/\sizedMet enc C.prog fn (OpenSpec.ofChange s) apart (w.forCall tape i).memory i.args)/\a.holds C.prog (lone (Frame.enter C.prog f i.args .normal) [] (w.forCall tape i)))
  (contract:∀(W:World) (base:Nat) (args:Array Value) (ds gs:List (DataW H)) (before:List MemPlace),
   (∀(j:Nat) t v,fn.params[j]? =some t->args[j]? =some v->Value.okWide C.prog W .any base t v)->
   DataW.Whole enc C.prog fn.params.toList s.vars apart W args.toList ds gs before->X W args->W.ShapedOpen C.prog->
   Calls C.prog f args W λe W'=>∃v,e=.returned v/\s.post enc C.prog fn apart fresh handsOn again W args v W'):
  ReturnsInHanded a C os f .any (λw args=>(s.pre enc C.prog fn conds apart w args/\X w args)/\sizedMet enc C.prog fn (OpenSpec.ofChange s) apart w args) (s.post enc C.prog fn apart fresh handsOn again):=by
 refine returnsInHanded_of_calls own started YU witness ?_;intro w tape i _ hsh _ Ay aew _;obtain⟨_,_,_,fn',aex,_,_,_,_,AR⟩:=Ay;obtain rfl:fn'=fn:=Option.some.inj (aex.symm.trans U0);obtain⟨⟨⟨ds,gs,before,hw,_⟩,hx⟩,_⟩:=aew;refine(contract (w.forCall tape i) w.heap.size i.args ds gs before AR (DataW.Whole.of_heap (w':=w.forCall tape i) (by rfl) hw) (hX _ _ _ (by rfl) hx) hsh).mono λe W' ⟨v,he,hp⟩=>?_;subst he;exact ChangeSpec.post_blind hp
set_option maxRecDepth 100000 in
theorem lifted (os:Os) (started:os.Started) (H:Type) (enc:TypeId×Value->H):
  ReturnsInHanded {} Tryz.checked os 3 .any (λw args=>(Rows.fnExactResultOfSpec.pre enc Tryz.prog Tryz.f3 Rows.fnExactResultOfRow.domain false w args/\laidMet Tryz.prog xa w)/\sizedMet enc Tryz.prog Tryz.f3 (OpenSpec.ofChange Rows.fnExactResultOfSpec) false w args)
   (Rows.fnExactResultOfSpec.post enc Tryz.prog Tryz.f3 false true false false):=by
 refine wrap (C:=Tryz.checked) (X:=λw _=>laidMet Tryz.prog xa w) (λ_ _ _ hh h=>h.of_heap hh) own started (by kernel_rfl) Tryz.func3
  (ChangeSpec.witness_at (enc:=enc) (C:=Tryz.checked) (os:=os) (X:=λw _=>laidMet Tryz.prog xa w) false (Gl os) #[.agg #[.int .i64 0,.string "".toUTF8,.int .i64 0,.int .i64 0,.slice none 0 0,.slice none 0 0,.slice none 0 0,.slice none 0 0,.slice none 0 0,.slice none 0 0,.slice none 0 0,.string "".toUTF8,.slice none 0 0,.slice none 0 0]] 8 rfl (by kernel_rfl) (by kernel_rfl) (by kernel_rfl) (by kernel_rfl) (by kernel_rfl) (Fl os _)) ?_
 intro W base args ds gs before WU hW hL hsh;have AR:∀(j:Nat) t v,Tryz.f3.params[j]? =some t->args[j]? =some v->Value.okWide Tryz.prog W .any base t v:=WU;have hW':=hW;obtain⟨p,q,hA0,hV,rfl,hfz,hnd⟩:=hW;have hA:DataW.TrodAll enc Tryz.prog W 0 (λ_=>true) true Tryz.f3.params.toList args.toList ds p:=hA0;rw[Tryz.params3]at hA AR;obtain⟨v0,vs0,d0,ds0,p0,q0,aey,rfl,rfl,h0,r0⟩:=trodAll_cons hA;obtain⟨rfl,rfl,rfl⟩:=trodAll_nil r0;obtain rfl:args=#[v0]:=by cases args;simp_all
 obtain⟨rfl,rfl⟩:=trodVars_none hV;obtain⟨cs0,rfl,afH⟩:=okWide_struct Tryz.underlying36 (AR 0 36 v0 rfl rfl);have k0:=h0;have lt0:∀x∈p0,x.block<W.heap.size:=by obtain⟨m,hm⟩:=k0;exact DataW.trod_lt m _ _ _ hm
 obtain⟨t0,ht0,zT⟩:=Am.acI _ _ (Am.GZ (λb hb=>hb)) h0;clear hA0 WU
 have hw:Calls Tryz.prog 3 #[.agg cs0] W λe w'=>e=.returned (.bool true)/\Below W.heap.size W w':=by
  refine Am.Qx (vs:=#[.agg cs0]) (UZ hL hsh) (Am.Fm t0 ht0) rfl (λj pv hj=>?_);rcases j with _ | j
  ·cases hj;exact⟨_,rfl,zT⟩
  cases hj
 refine hw.mono λe W' ⟨he,bel⟩=>?_;subst he;exact⟨_,rfl,_,_,_,[],_,[],hW',trodAll_mk1 (shut_bool Tryz.underlying4 _),(trodAll_cons_mk (Below.trod laidOut (by kernel_rfl) (of_decide_eq_true (by kernel_rfl)) k0 bel lt0) trodAll_mk0),rfl,bel.frame _,λh=>by cases h⟩
theorem ab6:Tryz.pinned.checked.prog.funcNamed Rows.fnExactResultOfRow.func=some 3:=by kernel_rfl
theorem ij {a b:Bool} (h:a=true) (k:b=true):(a&&b)=true:=by subst h;exact k
theorem j0:(Rows.fnExactResultOfRow.wf (OpenSpec.ofChange Rows.fnExactResultOfSpec))=true:=by kernel_rfl
theorem j1:(laidOutB Tryz.pinned.checked.prog)=true:=by kernel_rfl
theorem j2:(mapsRowed Tryz.pinned.checked.prog)=true:=by kernel_rfl
theorem j3:(Tryz.f3.params.all (Tryz.pinned.checked.prog.readableRec ·))=true:=by kernel_rfl
theorem j4:(namedTie Tryz.pinned.checked.prog Rows.fnExactResultOfRow.named Rows.fnExactResultOfSpec.vars)=true:=by kernel_rfl
theorem j5:((Rows.fnExactResultOfRow.stops==[]))=true:=by kernel_rfl
theorem j6:((Tryz.pinned.checked.prog.stops==[]))=true:=by kernel_rfl
theorem j7:((Rows.fnExactResultOfRow.knobs==[]))=true:=by kernel_rfl
theorem j8:((Tryz.pinned.checked.prog.stopKnobs==[]))=true:=by kernel_rfl
theorem j9:((Rows.fnExactResultOfRow.inPlace==Tryz.pinned.checked.prog.inPlace 3))=true:=by kernel_rfl
theorem j10:((Rows.fnExactResultOfRow.unfollowed==Tryz.pinned.checked.prog.unfollowed 3))=true:=by kernel_rfl
theorem j11:((Rows.fnExactResultOfRow.recurses==Tryz.pinned.checked.prog.recurses 3))=true:=by kernel_rfl
theorem j12:((Rows.fnExactResultOfRow.named==Tryz.pinned.checked.prog.varsNamed 3))=true:=by kernel_rfl
theorem j13:((Rows.fnExactResultOfRow.maps==(Tryz.f3.params.toList++Rows.fnExactResultOfSpec.plain.varTypes Tryz.pinned.checked.prog).any (Tryz.pinned.checked.prog.mapsRec ·)))=true:=by kernel_rfl
theorem j14:((Rows.fnExactResultOfRow.ifaces==(Tryz.f3.params.toList++Rows.fnExactResultOfSpec.plain.varTypes Tryz.pinned.checked.prog).any (Tryz.pinned.checked.prog.ifacesRec ·)))=true:=by kernel_rfl
theorem j15:((Rows.fnExactResultOfRow.mapsOut==Tryz.pinned.checked.prog.mapsAmong Tryz.f3.resultTypes.toList))=true:=by kernel_rfl
theorem j16:((Rows.fnExactResultOfRow.loops==(Tryz.f3.params.toList++Rows.fnExactResultOfSpec.plain.varTypes Tryz.pinned.checked.prog).any (Tryz.pinned.checked.prog.loopsFrom ·)))=true:=by kernel_rfl
theorem j17:((Rows.fnExactResultOfRow.wideKeys==(Tryz.f3.params.toList++Rows.fnExactResultOfSpec.plain.varTypes Tryz.pinned.checked.prog++Tryz.f3.resultTypes.toList).any (Tryz.pinned.checked.prog.wideKeysFrom ·)))=true:=by kernel_rfl
theorem j18:(Rows.fnExactResultOfSpec.vars.all (Tryz.pinned.checked.prog.varReadable ·))=true:=by kernel_rfl
theorem j19:(Tryz.f3.resultTypes.all (λt=>Tryz.pinned.checked.prog.readableRec t&&decide (t<Tryz.pinned.checked.prog.types.size)))=true:=by kernel_rfl
theorem j20:((Rows.fnExactResultOfRow.ifacesOut==Tryz.f3.resultTypes.toList.any (Tryz.pinned.checked.prog.ifacesRec ·)))=true:=by kernel_rfl
theorem j21:((Rows.fnExactResultOfRow.loopsOut==Tryz.f3.resultTypes.toList.any (Tryz.pinned.checked.prog.loopsFrom ·)))=true:=by kernel_rfl
theorem j22:((Rows.fnExactResultOfRow.plainKeys==Tryz.pinned.checked.prog.plainKeys))=true:=by kernel_rfl
theorem j23:(Rows.fnExactResultOfRow.shortTexts.isNone)=true:=by kernel_rfl
theorem j24:(Tryz.pinned.checked.prog.stopsHeard)=true:=by kernel_rfl
theorem j25:(Tryz.pinned.checked.prog.mayEnter)=true:=by kernel_rfl
theorem j26:((Rows.fnExactResultOfRow.lifted==Tryz.pinned.checked.prog.liftsFinal))=true:=by kernel_rfl
theorem j27:((Tryz.pinned.checked.prog.make==some Rows.fnExactResultOfRow.make))=true:=by kernel_rfl
theorem j28:((Rows.fnExactResultOfRow.kinds==(if Rows.fnExactResultOfRow.domain.isEmpty then[]else Tryz.f3.params.toList.map λt=>match Tryz.pinned.checked.prog.underlying t with | some (.int k)=>some k | _=>none)))=true:=by kernel_rfl
theorem j29:((Rows.fnExactResultOfRow.pinned==Rows.fnExactResultOfRow.pinnedBy))=true:=by kernel_rfl
theorem j30:((Rows.fnExactResultOfRow.veiled==(Tryz.f3.params.toList++Rows.fnExactResultOfSpec.plain.varTypes Tryz.pinned.checked.prog++Tryz.f3.resultTypes.toList).any (Tryz.pinned.checked.prog.veiledRec ·)))=true:=by kernel_rfl
theorem j31:(Rows.fnExactResultOfRow.veiledFits Tryz.pinned.checked.prog Tryz.f3.params.toList (Tryz.f3.params.toList++Rows.fnExactResultOfSpec.plain.varTypes Tryz.pinned.checked.prog++Tryz.f3.resultTypes.toList))=true:=by kernel_rfl
set_option maxRecDepth 100000 in
theorem ab7:joinedFacts Tryz.pinned.checked.prog 3 Tryz.f3 Rows.fnExactResultOfSpec Rows.fnExactResultOfRow=true:=ij (ij (ij (ij (ij (ij (ij (ij (ij (ij (ij (ij (ij (ij (ij (ij (ij (ij (ij (ij (ij (ij (ij (ij (ij (ij (ij (ij (ij (ij (ij j0 j1) j2) j3) j4) j5) j6) j7) j8) j9) j10) j11) j12) j13) j14) j15) j16) j17) j18) j19) j20) j21) j22) j23) j24) j25) j26) j27) j28) j29) j30) j31
theorem ab8:Tryz.f3.isInstance Tryz.pinned.checked.prog Rows.fnExactResultOfRow.origin Rows.fnExactResultOfRow.targs:=of_decide_eq_true (by kernel_rfl)
theorem ab9:Tryz.f3.isWrapper Tryz.pinned.checked.prog Rows.fnExactResultOfRow.wrapper Rows.fnExactResultOfRow.mainSum:=by unfold Func.isWrapper;first | (rw[if_pos (by decide +kernel)];kernel_rfl) | (rw[if_neg (by decide +kernel)];exact⟨rfl,rfl⟩)
theorem over:Rows.FnExactResultOfSaid:=
 OpenClaim.holds_of_wide 3 Tryz.f3 rfl rfl rfl rfl rfl rfl rfl ⟨rfl,rfl,rfl,rfl,rfl⟩ rfl rfl rfl rfl rfl ab6 Tryz.func3 ab7
  ab8 ab9
  (λos started H enc _=>lifted os started H enc)
theorem proved:Rows.FnExactResultOfCardSaid:=
 Claim7.holds_tied_plain_at .later [] [.data,.data,.data,.sentinel,.sentinel] true (true, "fb4b4c9fa3a47f52ed7264020719a19a8579b30a59c90a3829f0595f78c15790") true
  over (λ_ h=>by cases h) (by kernel_rfl) (λ_ h=>by cases h) fnExactResultOf_row_tie rfl ⟨rfl,rfl⟩ (by kernel_rfl) rfl
  (λf fn hf U0=>by
   obtain rfl:f=3:=Option.some.inj ((show Tryz.prog.funcNamed "loop.example/g03011/laws.FnExactResultOf" =some 3 by kernel_rfl).symm.trans hf) |>.symm;obtain rfl:fn=Tryz.f3:=(Option.some.inj (Tryz.func3.symm.trans U0)).symm
   exact⟨by kernel_rfl,λj t ht=>by
    rw[Tryz.params3]at ht
    have h9:t=36:=by
     rcases j with _ | j
     ·simpa using ht.symm
     ·simp at ht
    subst h9;exact(show Tryz.prog.wantsStandIn 36=false by kernel_rfl)⟩)
  (by kernel_rfl)
end Go.Proofs.YtgakkhamfiegbaaGreatDoor.fnExactResultOf
