/- Texts of the proof, joined. -/
import Derived.Test.YtgciegobebabfaaGreatDoorRows
import Derived.Test.YtgciegobebabfaaGreatDoorCards
import Derived.Test.YtgciegobebabfaaGreatDoorTie
import Derived.WalkKit
import Derived.ProofKit
import Derived.OpenShut
import Derived.ShutString
import Derived.ChangeOld
import Derived.Below
import Derived.HandedShaped
import Derived.ChangeSame
import Derived.ChangeVars
import Derived.ChangeMaps5
import Derived.JoinedOf
import Derived.JoinedAt
import Derived.LaidLaws
import Derived.Stop.LaidErr
import Derived.Lib.LaidTab
import Derived.SevenTiedAt
import Derived.Test.YtgciegobebabfaaGreatDoorPk13
namespace Go.Proofs.YtgciegobebabfaaGreatDoor.fnExactNewMachine
open Go.ChangeShapes Go.WideShapes Go.ChangeAt Go.RowKit
open Go.ChangeMaps (open_string shut_string)
set_option linter.unusedVariables false
theorem own:ownKnob Tryz.prog.godebug=none:=by kernel_rfl
theorem laidOut:laidOutB Tryz.prog=true:=by kernel_rfl
abbrev ah7:ByteArray:={data:=#[105,110,118,97,108,105,100,32,115,121,110,116,97,120]}
abbrev ah8:ByteArray:={data:=#[118,97,108,117,101,32,111,117,116,32,111,102,32,114,97,110,103,101]}
def afn:List Int:=[0,1,28,2,29,14,24,3,30,22,20,15,25,17,4,8,31,27,13,23,21,19,16,7,26,12,18,6,11,5,10,9]
def afo:List Int:=[0,1,56,2,57,49,28,3,61,58,42,50,38,29,17,4,62,47,59,36,45,43,51,22,53,39,33,30,24,18,12,5,63,55,48,27,60,41,37,16,46,35,44,21,52,32,23,11,54,26,40,15,34,20,31,10,25,14,19,9,13,8,7,6]
noncomputable def low:Nat:=(World.holding Tryz.prog default ⟨#[],#[],[]⟩).heap.size
noncomputable def Ky (os:Os):World:=
 let w0:=World.holding Tryz.prog os ⟨#[.cells #[.string ah7] 334,.cells #[.string ah8] 334],#[],[]⟩
 let put (g:Nat) (cs:Array Value) (h:Array Obj):Array Obj:=h.modify g fun
  | .cells _ t frozen=>.cells cs t frozen
  | o=>o
 {w0 with heap:=put 2 (Am.NN.map λz=>Value.int .u64 z).toArray (put 0 #[.iface 332 (.pointer (some ⟨low,0,none⟩))] (put 1 #[.iface 332 (.pointer (some ⟨low+1,0,none⟩))]
   (put 3 (afn.map λz=>Value.int .u8 z).toArray (put 4 (afo.map λz=>Value.int .u8 z).toArray w0.heap))))}
noncomputable def places:List MemPlace:=(List.range 32).map (λi=>MemPlace.cell 3 i)++((List.range 64).map (λi=>MemPlace.cell 4 i)++((List.range 20).map (λi=>MemPlace.cell 2 i)++[.cell 1 0,.cell (low+1) 0,.cell 0 0,.cell low 0]))
abbrev zT:List (String×DataW Unit):=[("math/bits.deBruijn32tab",Rows.laid_math_bits_deBruijn32tab),("math/bits.deBruijn64tab",Rows.laid_math_bits_deBruijn64tab),("internal/strconv.uint64pow10",Rows.laid_internal_strconv_uint64pow10),("strconv.ErrRange",Rows.laid_strconv_ErrRange),("strconv.ErrSyntax",Rows.laid_strconv_ErrSyntax)]
set_option maxRecDepth 100000 in
theorem JX (os:Os) (args:Array Value):laidMet Tryz.prog zT ((Ky os).forCall (λ_ _=>0) ⟨#[],args,[]⟩).memory:=
 laidMet_of_run (ps:=places) 8 (by kernel_rfl) (by kernel_rfl) (by kernel_rfl)
theorem zU {w:World} {n:String} {g:Nat} {cs:Array Value} (hg:Tryz.prog.globalNamed n=some g) (h:w.var? Tryz.prog n=some cs):∃t z,w.heap[g]? =some (.cells cs t z):=by
 unfold World.var? at h;rw[hg]at h;simp only[Option.bind_some]at h;split at h
 ·rename_i c t z hh;cases h;exact⟨_,_,hh⟩
 ·cases h
theorem lt_of_heap {w:World} {g:Nat} {o:Obj} (h:w.heap[g]? =some o):g<w.heap.size:=(Array.getElem?_eq_some_iff.1 h).1
theorem star: "*" ++ "errors.errorString" = "*errors.errorString" :=by decide
theorem Wg (u:TypeId) (h:Tryz.prog.typeName? 3 u=some "*errors.errorString"):u=332:=
 typeName_ptr_named (nm:= "errors.errorString") (by rw[star];kernel_rfl) (by kernel_rfl) (by decide) u (by rw[star];exact h)
theorem gR:Tryz.prog.globalNamed "strconv.ErrRange" =some 1:=by kernel_rfl
theorem gRT:(Tryz.prog.globals[1]?).map (·.type)=some 306:=by kernel_rfl
theorem gST:(Tryz.prog.globals[0]?).map (·.type)=some 306:=by kernel_rfl
theorem gTT:(Tryz.prog.globals[2]?).map (·.type)=some 336:=by kernel_rfl
theorem afp:Tryz.prog.cellsOf 334=1:=by kernel_rfl
theorem c9:Tryz.prog.cellsOf 9=1:=by kernel_rfl
theorem Zy {w:World} (hL:laidMet Tryz.prog zT w) (hsh:w.ShapedOpen Tryz.prog):Am.Va (λb=>b<w.heap.size) w:=by
 have h1:=hL.tail.tail;have h2:=h1.tail;have h3:=h2.tail;refine⟨λp hp=>?_,λg hg=>?_,λg hg=>?_⟩
 ·have e:p=(2,(Am.NN.map λz=>Value.int .u64 z).toArray):=by simpa[Am.Ls]using hp
  subst e;have ht:Lib.TabIs Tryz.prog w "internal/strconv.uint64pow10" .u64 Am.NN:=Lib.tabIs_of_head Am.abK gTT Tryz.underlying336 Tryz.underlying317 (by kernel_rfl) (by kernel_rfl) h1;obtain⟨t,z,hh⟩:=zU Am.abK ht;exact⟨lt_of_heap hh,t,z,hh⟩
 ·have hg:g=0\/g=1:=by simpa[Am.Cz]using hg
  rcases hg with rfl | rfl
  ·obtain⟨a0,s0,TM,-,-,-⟩:=laid_sentinel h3 Am.abL gST Tryz.underlying306 Wg Tryz.underlying332 Tryz.underlying334 rfl rfl Tryz.underlying9 afp c9;obtain⟨t,z,hh⟩:=zU Am.abL TM;exact⟨lt_of_heap hh,_,_,t,z,hh⟩
  ·obtain⟨a0,s0,TM,-,-,-⟩:=laid_sentinel h2 Am.abM gRT Tryz.underlying306 Wg Tryz.underlying332 Tryz.underlying334 rfl rfl Tryz.underlying9 afp c9;obtain⟨t,z,hh⟩:=zU Am.abM TM;exact⟨lt_of_heap hh,_,_,t,z,hh⟩
 ·simp [Am.SX]at hg
theorem wrap {H:Type} {enc:TypeId×Value->H} {a:Assume} {C:Checked} {os:Os} {f:FuncId} {fn:Func} {s:ChangeSpec} {conds:List PathCond} {apart fresh handsOn again:Bool} {X:World->Array Value->Prop}
  (hX:∀(w w':World) (args:Array Value),w.heap=w'.heap->X w args->X w' args)
  (own:ownKnob C.prog.godebug=none) (started:os.Started) (acB:C.prog.inits.idxOf? f=none) (Zz:C.prog.funcs[f]? =some fn)
  (witness:∃(w:World) (tape:Tape) (i:Input),w.os=os/\(w.forCall tape i).Shaped C.prog/\i.vars=[]/\Input.okWide C.prog (w.forCall tape i) .any w.heap.size f i/\
   ((s.pre enc C.prog fn conds apart (w.forCall tape i).memory i.args/\X (w.forCall tape i).memory i.args)/\sizedMet enc C.prog fn (OpenSpec.ofChange s) apart (w.forCall tape i).memory i.args)/\a.holds C.prog (lone (Frame.enter C.prog f i.args .normal) [] (w.forCall tape i)))
  (contract:∀(W:World) (base:Nat) (args:Array Value) (ds gs:List (DataW H)) (before:List MemPlace),
   (∀(j:Nat) t v,fn.params[j]? =some t->args[j]? =some v->Value.okWide C.prog W .any base t v)->
   DataW.Whole enc C.prog fn.params.toList s.vars apart W args.toList ds gs before->X W args->W.ShapedOpen C.prog->
   Calls C.prog f args W λe W'=>∃v,e=.returned v/\s.post enc C.prog fn apart fresh handsOn again W args v W'):
  ReturnsInHanded a C os f .any (λw args=>(s.pre enc C.prog fn conds apart w args/\X w args)/\sizedMet enc C.prog fn (OpenSpec.ofChange s) apart w args) (s.post enc C.prog fn apart fresh handsOn again):=by
 refine returnsInHanded_of_calls own started acB witness ?_;intro w tape i _ hsh _ zF ah9 _;obtain⟨_,_,_,fn',aia,_,_,_,_,Bb⟩:=zF;obtain rfl:fn'=fn:=Option.some.inj (aia.symm.trans Zz);obtain⟨⟨⟨ds,gs,before,hw,_⟩,hx⟩,_⟩:=ah9;refine(contract (w.forCall tape i) w.heap.size i.args ds gs before Bb (DataW.Whole.of_heap (w':=w.forCall tape i) (by rfl) hw) (hX _ _ _ (by rfl) hx) hsh).mono λe W' ⟨v,he,hp⟩=>?_;subst he;exact ChangeSpec.post_blind hp
set_option maxRecDepth 100000 in
theorem lifted (os:Os) (started:os.Started) (H:Type) (enc:TypeId×Value->H):
  ReturnsInHanded {} Tryz.checked os 3 .any (λw args=>(Rows.fnExactNewMachineSpec.pre enc Tryz.prog Tryz.f3 Rows.fnExactNewMachineRow.domain false w args/\laidMet Tryz.prog zT w)/\sizedMet enc Tryz.prog Tryz.f3 (OpenSpec.ofChange Rows.fnExactNewMachineSpec) false w args)
   (Rows.fnExactNewMachineSpec.post enc Tryz.prog Tryz.f3 false true false false):=by
 refine wrap (C:=Tryz.checked) (X:=λw _=>laidMet Tryz.prog zT w) (λ_ _ _ hh h=>h.of_heap hh) own started (by kernel_rfl) Tryz.func3
  (ChangeSpec.witness_at (enc:=enc) (C:=Tryz.checked) (os:=os) (X:=λw _=>laidMet Tryz.prog zT w) false (Ky os) #[.agg #[.slice none 0 0,.slice none 0 0],.string ⟨#[]⟩,.slice none 0 0,.int .i64 0] 8 rfl (by kernel_rfl) (by kernel_rfl) (by kernel_rfl) (by kernel_rfl) (by kernel_rfl) (JX os _)) ?_
 intro W base args ds gs before aa5 hW hL hsh;have Bb:∀(j:Nat) t v,Tryz.f3.params[j]? =some t->args[j]? =some v->Value.okWide Tryz.prog W .any base t v:=aa5;have hW':=hW;obtain⟨p,q,hA0,hV,rfl,hfz,hnd⟩:=hW;have hA:DataW.TrodAll enc Tryz.prog W 0 (λ_=>true) true Tryz.f3.params.toList args.toList ds p:=hA0;rw[Tryz.params3]at hA Bb;obtain⟨v0,vs0,d0,ds0,p0,q0,aib,rfl,rfl,h0,r0⟩:=trodAll_cons hA;obtain⟨v1,vs1,d1,ds1,p1,q1,acC,rfl,rfl,h1,r1⟩:=trodAll_cons r0;obtain⟨v2,vs2,d2,ds2,p2,q2,acD,rfl,rfl,h2,r2⟩:=trodAll_cons r1;obtain⟨v3,vs3,d3,ds3,p3,q3,acE,rfl,rfl,h3,r3⟩:=trodAll_cons r2;obtain⟨rfl,rfl,rfl⟩:=trodAll_nil r3;subst acE;subst acD;subst acC;obtain rfl:args=#[v0,v1,v2,v3]:=by cases args;simp_all
 obtain⟨rfl,rfl⟩:=trodVars_none hV;have k0:=h0;have lt0:∀x∈p0,x.block<W.heap.size:=by obtain⟨m,hm⟩:=k0;exact DataW.trod_lt m _ _ _ hm
 have k1:=h1;have lt1:∀x∈p1,x.block<W.heap.size:=by obtain⟨m,hm⟩:=k1;exact DataW.trod_lt m _ _ _ hm
 have k2:=h2;have lt2:∀x∈p2,x.block<W.heap.size:=by obtain⟨m,hm⟩:=k2;exact DataW.trod_lt m _ _ _ hm
 have k3:=h3;have lt3:∀x∈p3,x.block<W.heap.size:=by obtain⟨m,hm⟩:=k3;exact DataW.trod_lt m _ _ _ hm
 obtain⟨cs0,rfl,akr⟩:=okWide_struct Tryz.underlying25 (Bb 0 25 v0 rfl rfl);obtain⟨t0,ht0,C8⟩:=Am.ahu _ _ (Am.Lw (λb hb=>hb)) h0;obtain⟨u1,rfl⟩:=okWide_string Tryz.underlying9 (Bb 1 9 v1 rfl rfl);obtain⟨a2,Lu,afq,rfl⟩:=okWide_slice Tryz.underlying26 (Bb 2 26 v2 rfl rfl);obtain⟨f2,Qm⟩:=h2;obtain⟨l2,EU,hg2,hr2⟩:=Am.Bg (S:=λb=>b<W.heap.size) Am.aq.cells Am.aq.Ok default Tryz.underlying26 Am.aeJ (by decide) (λa=>by rw[Am.aq.ak];rfl) (λb hb=>hb) (λm hm cs x h=>Am.aq.rY (Am.Lx (λb hb=>hb) m cs x h)) Qm;obtain⟨n3,rfl⟩:=okWide_int Tryz.underlying3 (Bb 3 3 v3 rfl rfl);clear hA0 aa5
 have hw:Calls Tryz.prog 3 #[.agg cs0,.string u1,.slice a2 Lu afq,.int .i64 n3] W λe w'=>e=.returned (.bool true)/\Below W.heap.size W w':=by
  refine Am.Vn (vs:=#[.agg cs0,.string u1,.slice a2 Lu afq,.int .i64 n3]) (Zy hL hsh) (Am.Rf t0 u1.data.toList l2 n3 ht0 EU hg2) rfl (λj pv hj=>?_);rcases j with _ | j
  ·cases hj;exact⟨_,rfl,C8⟩
  rcases j with _ | j
  ·cases hj;exact⟨_,rfl,Am.bN.str u1.data.toList⟩
  rcases j with _ | j
  ·cases hj;exact⟨_,rfl,hr2⟩
  rcases j with _ | j
  ·cases hj;exact⟨_,rfl,Am.bN.int _ n3⟩
  cases hj
 refine hw.mono λe W' ⟨he,bel⟩=>?_;subst he;exact⟨_,rfl,_,_,_,[],_,[],hW',trodAll_mk1 (shut_bool Tryz.underlying4 _),(trodAll_cons_mk (Below.trod laidOut (by kernel_rfl) (of_decide_eq_true (by kernel_rfl)) k0 bel lt0) (trodAll_cons_mk (Below.trod laidOut (by kernel_rfl) (of_decide_eq_true (by kernel_rfl)) k1 bel lt1) (trodAll_cons_mk (Below.trod laidOut (by kernel_rfl) (of_decide_eq_true (by kernel_rfl)) k2 bel lt2) (trodAll_cons_mk (Below.trod laidOut (by kernel_rfl) (of_decide_eq_true (by kernel_rfl)) k3 bel lt3) trodAll_mk0)))),rfl,bel.frame _,λh=>by cases h⟩
theorem afr:Tryz.pinned.checked.prog.funcNamed Rows.fnExactNewMachineRow.func=some 3:=by kernel_rfl
theorem kk {a b:Bool} (h:a=true) (k:b=true):(a&&b)=true:=by subst h;exact k
theorem j0:(Rows.fnExactNewMachineRow.wf (OpenSpec.ofChange Rows.fnExactNewMachineSpec))=true:=by kernel_rfl
theorem j1:(laidOutB Tryz.pinned.checked.prog)=true:=by kernel_rfl
theorem j2:(mapsRowed Tryz.pinned.checked.prog)=true:=by kernel_rfl
theorem j3:(Tryz.f3.params.all (Tryz.pinned.checked.prog.readableRec ·))=true:=by kernel_rfl
theorem j4:(namedTie Tryz.pinned.checked.prog Rows.fnExactNewMachineRow.named Rows.fnExactNewMachineSpec.vars)=true:=by kernel_rfl
theorem j5:((Rows.fnExactNewMachineRow.stops==[]))=true:=by kernel_rfl
theorem j6:((Tryz.pinned.checked.prog.stops==[]))=true:=by kernel_rfl
theorem j7:((Rows.fnExactNewMachineRow.knobs==[]))=true:=by kernel_rfl
theorem j8:((Tryz.pinned.checked.prog.stopKnobs==[]))=true:=by kernel_rfl
theorem j9:((Rows.fnExactNewMachineRow.inPlace==Tryz.pinned.checked.prog.inPlace 3))=true:=by kernel_rfl
theorem j10:((Rows.fnExactNewMachineRow.unfollowed==Tryz.pinned.checked.prog.unfollowed 3))=true:=by kernel_rfl
theorem j11:((Rows.fnExactNewMachineRow.recurses==Tryz.pinned.checked.prog.recurses 3))=true:=by kernel_rfl
theorem j12:((Rows.fnExactNewMachineRow.named==Tryz.pinned.checked.prog.varsNamed 3))=true:=by kernel_rfl
theorem j13:((Rows.fnExactNewMachineRow.maps==(Tryz.f3.params.toList++Rows.fnExactNewMachineSpec.plain.varTypes Tryz.pinned.checked.prog).any (Tryz.pinned.checked.prog.mapsRec ·)))=true:=by kernel_rfl
theorem j14:((Rows.fnExactNewMachineRow.ifaces==(Tryz.f3.params.toList++Rows.fnExactNewMachineSpec.plain.varTypes Tryz.pinned.checked.prog).any (Tryz.pinned.checked.prog.ifacesRec ·)))=true:=by kernel_rfl
theorem j15:((Rows.fnExactNewMachineRow.mapsOut==Tryz.pinned.checked.prog.mapsAmong Tryz.f3.resultTypes.toList))=true:=by kernel_rfl
theorem j16:((Rows.fnExactNewMachineRow.loops==(Tryz.f3.params.toList++Rows.fnExactNewMachineSpec.plain.varTypes Tryz.pinned.checked.prog).any (Tryz.pinned.checked.prog.loopsFrom ·)))=true:=by kernel_rfl
theorem j17:((Rows.fnExactNewMachineRow.wideKeys==(Tryz.f3.params.toList++Rows.fnExactNewMachineSpec.plain.varTypes Tryz.pinned.checked.prog++Tryz.f3.resultTypes.toList).any (Tryz.pinned.checked.prog.wideKeysFrom ·)))=true:=by kernel_rfl
theorem j18:(Rows.fnExactNewMachineSpec.vars.all (Tryz.pinned.checked.prog.varReadable ·))=true:=by kernel_rfl
theorem j19:(Tryz.f3.resultTypes.all (λt=>Tryz.pinned.checked.prog.readableRec t&&decide (t<Tryz.pinned.checked.prog.types.size)))=true:=by kernel_rfl
theorem j20:((Rows.fnExactNewMachineRow.ifacesOut==Tryz.f3.resultTypes.toList.any (Tryz.pinned.checked.prog.ifacesRec ·)))=true:=by kernel_rfl
theorem j21:((Rows.fnExactNewMachineRow.loopsOut==Tryz.f3.resultTypes.toList.any (Tryz.pinned.checked.prog.loopsFrom ·)))=true:=by kernel_rfl
theorem j22:((Rows.fnExactNewMachineRow.plainKeys==Tryz.pinned.checked.prog.plainKeys))=true:=by kernel_rfl
theorem j23:(Rows.fnExactNewMachineRow.shortTexts.isNone)=true:=by kernel_rfl
theorem j24:(Tryz.pinned.checked.prog.stopsHeard)=true:=by kernel_rfl
theorem j25:(Tryz.pinned.checked.prog.mayEnter)=true:=by kernel_rfl
theorem j26:((Rows.fnExactNewMachineRow.lifted==Tryz.pinned.checked.prog.liftsFinal))=true:=by kernel_rfl
theorem j27:((Tryz.pinned.checked.prog.make==some Rows.fnExactNewMachineRow.make))=true:=by kernel_rfl
theorem j28:((Rows.fnExactNewMachineRow.kinds==(if Rows.fnExactNewMachineRow.domain.isEmpty then[]else Tryz.f3.params.toList.map λt=>match Tryz.pinned.checked.prog.underlying t with | some (.int k)=>some k | _=>none)))=true:=by kernel_rfl
theorem j29:((Rows.fnExactNewMachineRow.pinned==Rows.fnExactNewMachineRow.pinnedBy))=true:=by kernel_rfl
theorem j30:((Rows.fnExactNewMachineRow.veiled==(Tryz.f3.params.toList++Rows.fnExactNewMachineSpec.plain.varTypes Tryz.pinned.checked.prog++Tryz.f3.resultTypes.toList).any (Tryz.pinned.checked.prog.veiledRec ·)))=true:=by kernel_rfl
theorem j31:(Rows.fnExactNewMachineRow.veiledFits Tryz.pinned.checked.prog Tryz.f3.params.toList (Tryz.f3.params.toList++Rows.fnExactNewMachineSpec.plain.varTypes Tryz.pinned.checked.prog++Tryz.f3.resultTypes.toList))=true:=by kernel_rfl
set_option maxRecDepth 100000 in
theorem afs:joinedFacts Tryz.pinned.checked.prog 3 Tryz.f3 Rows.fnExactNewMachineSpec Rows.fnExactNewMachineRow=true:=kk (kk (kk (kk (kk (kk (kk (kk (kk (kk (kk (kk (kk (kk (kk (kk (kk (kk (kk (kk (kk (kk (kk (kk (kk (kk (kk (kk (kk (kk (kk j0 j1) j2) j3) j4) j5) j6) j7) j8) j9) j10) j11) j12) j13) j14) j15) j16) j17) j18) j19) j20) j21) j22) j23) j24) j25) j26) j27) j28) j29) j30) j31
theorem aft:Tryz.f3.isInstance Tryz.pinned.checked.prog Rows.fnExactNewMachineRow.origin Rows.fnExactNewMachineRow.targs:=of_decide_eq_true (by kernel_rfl)
theorem afu:Tryz.f3.isWrapper Tryz.pinned.checked.prog Rows.fnExactNewMachineRow.wrapper Rows.fnExactNewMachineRow.mainSum:=by unfold Func.isWrapper;first | (rw[if_pos (by decide +kernel)];kernel_rfl) | (rw[if_neg (by decide +kernel)];exact⟨rfl,rfl⟩)
theorem over:Rows.FnExactNewMachineSaid:=
 OpenClaim.holds_of_wide 3 Tryz.f3 rfl rfl rfl rfl rfl rfl rfl ⟨rfl,rfl,rfl,rfl,rfl⟩ rfl rfl rfl rfl rfl afr Tryz.func3 afs
  aft afu
  (λos started H enc _=>lifted os started H enc)
theorem proved:Rows.FnExactNewMachineCardSaid:=
 Claim7.holds_tied_plain_at .later [] [.data,.data,.data,.sentinel,.sentinel] true (true, "a97f5db36c2c7ca05f92cb8a33cf8a834e0bed5cfeab3a3f9b6102dbb89fe145") true
  over (λ_ h=>by cases h) (by kernel_rfl) (λ_ h=>by cases h) fnExactNewMachine_row_tie rfl ⟨rfl,rfl⟩ (by kernel_rfl) rfl
  (λf fn hf Zz=>by
   obtain rfl:f=3:=Option.some.inj ((show Tryz.prog.funcNamed "loop.example/g03011/laws.FnExactNewMachine" =some 3 by kernel_rfl).symm.trans hf) |>.symm;obtain rfl:fn=Tryz.f3:=(Option.some.inj (Tryz.func3.symm.trans Zz)).symm
   exact⟨by kernel_rfl,λj t ht=>by
    rw[Tryz.params3]at ht
    have h9:t=25\/t=9\/t=26\/t=3:=by
     rcases j with _ | _ | _ | _ | j
     ·simp at ht;simp [<-ht]
     ·simp at ht;simp [<-ht]
     ·simp at ht;simp [<-ht]
     ·simp at ht;simp [<-ht]
     ·simp at ht
    rcases h9 with rfl | rfl | rfl | rfl
    ·exact(show Tryz.prog.wantsStandIn 25=false by kernel_rfl)
    ·exact(show Tryz.prog.wantsStandIn 9=false by kernel_rfl)
    ·exact(show Tryz.prog.wantsStandIn 26=false by kernel_rfl)
    ·exact(show Tryz.prog.wantsStandIn 3=false by kernel_rfl)⟩)
  (by kernel_rfl)
end Go.Proofs.YtgciegobebabfaaGreatDoor.fnExactNewMachine
