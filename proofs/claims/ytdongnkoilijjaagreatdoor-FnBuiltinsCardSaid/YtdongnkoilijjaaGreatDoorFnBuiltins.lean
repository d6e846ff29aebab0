/- Texts of the proof, joined. -/
import Derived.Test.YtdongnkoilijjaaGreatDoorRows
import Derived.Test.YtdongnkoilijjaaGreatDoorCards
import Derived.Test.YtdongnkoilijjaaGreatDoorTie
import Derived.WalkKit
import Derived.ProofKit
import Derived.OpenShut
import Derived.ShutString
import Derived.ChangeOld
import Derived.Below
import Derived.HandedShaped
import Derived.ChangeSame
import Derived.ChangeVars
import Derived.ChangeMaps5
import Derived.JoinedOf
import Derived.JoinedAt
import Derived.LaidLaws
import Derived.Stop.LaidErr
import Derived.Lib.LaidTab
import Derived.SevenTiedAt
import Derived.Test.YtdongnkoilijjaaGreatDoorPk9
namespace Go.Proofs.YtdongnkoilijjaaGreatDoor.fnBuiltins
open Go.ChangeShapes Go.WideShapes Go.ChangeAt Go.RowKit
open Go.ChangeMaps (open_string shut_string)
set_option linter.unusedVariables false
theorem own:ownKnob Tryz.prog.godebug=none:=by kernel_rfl
theorem laidOut:laidOutB Tryz.prog=true:=by kernel_rfl
abbrev aah:ByteArray:={data:=#[105,110,118,97,108,105,100,32,115,121,110,116,97,120]}
abbrev aai:ByteArray:={data:=#[118,97,108,117,101,32,111,117,116,32,111,102,32,114,97,110,103,101]}
def Vl:List Int:=[0,1,28,2,29,14,24,3,30,22,20,15,25,17,4,8,31,27,13,23,21,19,16,7,26,12,18,6,11,5,10,9]
def Vm:List Int:=[0,1,56,2,57,49,28,3,61,58,42,50,38,29,17,4,62,47,59,36,45,43,51,22,53,39,33,30,24,18,12,5,63,55,48,27,60,41,37,16,46,35,44,21,52,32,23,11,54,26,40,15,34,20,31,10,25,14,19,9,13,8,7,6]
noncomputable def low:Nat:=(World.holding Tryz.prog default ⟨#[],#[],[]⟩).heap.size
noncomputable def zL (os:Os):World:=
 let w0:=World.holding Tryz.prog os ⟨#[.cells #[.string aah] 247,.cells #[.string aai] 247],#[],[]⟩
 let put (g:Nat) (cs:Array Value) (h:Array Obj):Array Obj:=h.modify g fun
  | .cells _ t frozen=>.cells cs t frozen
  | o=>o
 {w0 with heap:=put 3 (Am.B1.map λz=>Value.int .u64 z).toArray (put 1 #[.iface 245 (.pointer (some ⟨low,0,none⟩))] (put 2 #[.iface 245 (.pointer (some ⟨low+1,0,none⟩))]
   (put 4 (Vl.map λz=>Value.int .u8 z).toArray (put 5 (Vm.map λz=>Value.int .u8 z).toArray w0.heap))))}
noncomputable def places:List MemPlace:=(List.range 32).map (λi=>MemPlace.cell 4 i)++((List.range 64).map (λi=>MemPlace.cell 5 i)++((List.range 20).map (λi=>MemPlace.cell 3 i)++[.cell 2 0,.cell (low+1) 0,.cell 1 0,.cell low 0]))
abbrev pV:List (String×DataW Unit):=[("math/bits.deBruijn32tab",Rows.laid_math_bits_deBruijn32tab),("math/bits.deBruijn64tab",Rows.laid_math_bits_deBruijn64tab),("internal/strconv.uint64pow10",Rows.laid_internal_strconv_uint64pow10),("strconv.ErrRange",Rows.laid_strconv_ErrRange),("strconv.ErrSyntax",Rows.laid_strconv_ErrSyntax)]
set_option maxRecDepth 100000 in
theorem za (os:Os) (args:Array Value):laidMet Tryz.prog pV ((zL os).forCall (λ_ _=>0) ⟨#[],args,[]⟩).memory:=
 laidMet_of_run (ps:=places) 8 (by kernel_rfl) (by kernel_rfl) (by kernel_rfl)
theorem pW {w:World} {n:String} {g:Nat} {cs:Array Value} (hg:Tryz.prog.globalNamed n=some g) (h:w.var? Tryz.prog n=some cs):∃t z,w.heap[g]? =some (.cells cs t z):=by
 unfold World.var? at h;rw[hg]at h;simp only[Option.bind_some]at h;split at h
 ·rename_i c t z hh;cases h;exact⟨_,_,hh⟩
 ·cases h
theorem lt_of_heap {w:World} {g:Nat} {o:Obj} (h:w.heap[g]? =some o):g<w.heap.size:=(Array.getElem?_eq_some_iff.1 h).1
theorem star: "*" ++ "errors.errorString" = "*errors.errorString" :=by decide
theorem Kx (u:TypeId) (h:Tryz.prog.typeName? 3 u=some "*errors.errorString"):u=245:=
 typeName_ptr_named (nm:= "errors.errorString") (by rw[star];kernel_rfl) (by kernel_rfl) (by decide) u (by rw[star];exact h)
theorem gR:Tryz.prog.globalNamed "strconv.ErrRange" =some 2:=by kernel_rfl
theorem gRT:(Tryz.prog.globals[2]?).map (·.type)=some 186:=by kernel_rfl
theorem gST:(Tryz.prog.globals[1]?).map (·.type)=some 186:=by kernel_rfl
theorem gTT:(Tryz.prog.globals[3]?).map (·.type)=some 241:=by kernel_rfl
theorem Vn:Tryz.prog.cellsOf 247=1:=by kernel_rfl
theorem c9:Tryz.prog.cellsOf 9=1:=by kernel_rfl
theorem M4 {w:World} (hL:laidMet Tryz.prog pV w) (SM:w.ShapedOpen Tryz.prog):Am.GW (λb=>b<w.heap.size) w:=by
 have h1:=hL.tail.tail;have h2:=h1.tail;have h3:=h2.tail;refine⟨λp hp=>?_,λg hg=>?_,λg hg=>?_⟩
 ·have e:p=(3,(Am.B1.map λz=>Value.int .u64 z).toArray):=by simpa[Am.AE]using hp
  subst e;have ht:Lib.TabIs Tryz.prog w "internal/strconv.uint64pow10" .u64 Am.B1:=Lib.tabIs_of_head Am.Pu gTT Tryz.underlying241 Tryz.underlying211 (by kernel_rfl) (by kernel_rfl) h1;obtain⟨t,z,hh⟩:=pW Am.Pu ht;exact⟨lt_of_heap hh,t,z,hh⟩
 ·have hg:g=1\/g=2:=by simpa[Am.sh]using hg
  rcases hg with rfl | rfl
  ·obtain⟨a0,s0,B2,-,-,-⟩:=laid_sentinel h3 Am.Pv gST Tryz.underlying186 Kx Tryz.underlying245 Tryz.underlying247 rfl rfl Tryz.underlying9 Vn c9;obtain⟨t,z,hh⟩:=pW Am.Pv B2;exact⟨lt_of_heap hh,_,_,t,z,hh⟩
  ·obtain⟨a0,s0,B2,-,-,-⟩:=laid_sentinel h2 Am.Pw gRT Tryz.underlying186 Kx Tryz.underlying245 Tryz.underlying247 rfl rfl Tryz.underlying9 Vn c9;obtain⟨t,z,hh⟩:=pW Am.Pw B2;exact⟨lt_of_heap hh,_,_,t,z,hh⟩
 ·have hg:g=0:=by simpa[Am.Gi]using hg
  subst hg;obtain⟨cs,hh,hs,_⟩:=SM.1 0 #[.int .i64 0] (3,(0,0)).1 (of_decide_eq_true (by kernel_rfl)) (by kernel_rfl);obtain⟨m,hm⟩:=cell_of_shapedOpen_int (P:=Tryz.prog) (g:=0) (t:=3) (zero:=#[.int .i64 0]) SM (of_decide_eq_true (by kernel_rfl)) (by kernel_rfl) rfl (by kernel_rfl) (by kernel_rfl) Tryz.underlying3
  have e:cs=#[.int .i64 m]:=by
   obtain⟨l⟩:=cs;rcases l with _ | ⟨x,_ | ⟨y,l⟩⟩
   ·simp at hs
   ·simp [World.cell?,hh]at hm;rw[hm]
   ·simp at hs
  subst e;exact⟨lt_of_heap hh,m,_,_,hh⟩
theorem wrap {H:Type} {enc:TypeId×Value->H} {a:Assume} {C:Checked} {os:Os} {f:FuncId} {fn:Func} {s:ChangeSpec} {conds:List PathCond} {apart fresh handsOn again:Bool} {X:World->Array Value->Prop}
  (hX:∀(w w':World) (args:Array Value),w.heap=w'.heap->X w args->X w' args)
  (own:ownKnob C.prog.godebug=none) (started:os.Started) (Q7:C.prog.inits.idxOf? f=none) (M5:C.prog.funcs[f]? =some fn)
  (witness:∃(w:World) (tape:Tape) (i:Input),w.os=os/\(w.forCall tape i).Shaped C.prog/\i.vars=[]/\Input.okWide C.prog (w.forCall tape i) .any w.heap.size f i/\
   ((s.pre enc C.prog fn conds apart (w.forCall tape i).memory i.args/\X (w.forCall tape i).memory i.args)/\sizedMet enc C.prog fn (OpenSpec.ofChange s) apart (w.forCall tape i).memory i.args)/\a.holds C.prog (lone (Frame.enter C.prog f i.args .normal) [] (w.forCall tape i)))
  (contract:∀(W:World) (base:Nat) (args:Array Value) (ds gs:List (DataW H)) (before:List MemPlace),
   (∀(j:Nat) t v,fn.params[j]? =some t->args[j]? =some v->Value.okWide C.prog W .any base t v)->
   DataW.Whole enc C.prog fn.params.toList s.vars apart W args.toList ds gs before->X W args->W.ShapedOpen C.prog->
   Calls C.prog f args W λe W'=>∃v,e=.returned v/\s.post enc C.prog fn apart fresh handsOn again W args v W'):
  ReturnsInHanded a C os f .any (λw args=>(s.pre enc C.prog fn conds apart w args/\X w args)/\sizedMet enc C.prog fn (OpenSpec.ofChange s) apart w args) (s.post enc C.prog fn apart fresh handsOn again):=by
 refine returnsInHanded_of_calls own started Q7 witness ?_;intro w tape i _ SM _ tV QP _;obtain⟨_,_,_,fn',aaj,_,_,_,_,uq⟩:=tV;obtain rfl:fn'=fn:=Option.some.inj (aaj.symm.trans M5);obtain⟨⟨⟨ds,gs,before,hw,_⟩,hx⟩,_⟩:=QP;refine(contract (w.forCall tape i) w.heap.size i.args ds gs before uq (DataW.Whole.of_heap (w':=w.forCall tape i) (by rfl) hw) (hX _ _ _ (by rfl) hx) SM).mono λe W' ⟨v,he,hp⟩=>?_;subst he;exact ChangeSpec.post_blind hp
def Oz (k:IntKind) (w:World) (a:Option Addr) (len cap:Nat) (zs:List Int):Prop:=
 (a=none/\len=0/\cap=0/\zs=[])\/
 ∃x,a=some x/\len<=cap/\cap<=maxLen/\zs.length=cap/\(∀i,i<zs.length->w.cell? (x.add i)=some (.int k (zs.getD i 0)))/\∀n∈zs,(Lit.int k n).wf=true
theorem walk (a0:Option Addr) (Ky Kz:Nat) (z0:List Int) (w:World) (w0:Oz .u8 w a0 Ky Kz z0) (Q8:Am.GW (λb=>b<w.heap.size) w):
  Calls Tryz.prog 3 #[.slice a0 Ky Kz] w λe w'=>e=.returned (.bool true)/\Below w.heap.size w w':=by
 obtain⟨bs,hb⟩:=Am.EA w0 (S:=λb=>b<w.heap.size) (λb hb=>hb);refine Am.M6 Q8 (Am.Cz bs) rfl (λj pv hj=>?_);rcases j with _ | j
 ·cases hj;exact⟨_,rfl,hb⟩
 ·cases hj
set_option maxRecDepth 100000 in
theorem lifted (os:Os) (started:os.Started) (H:Type) (enc:TypeId×Value->H):
  ReturnsInHanded {} Tryz.checked os 3 .any (λw args=>(Rows.fnBuiltinsSpec.pre enc Tryz.prog Tryz.f3 Rows.fnBuiltinsRow.domain false w args/\laidMet Tryz.prog pV w)/\sizedMet enc Tryz.prog Tryz.f3 (OpenSpec.ofChange Rows.fnBuiltinsSpec) false w args)
   (Rows.fnBuiltinsSpec.post enc Tryz.prog Tryz.f3 false true false false):=by
 refine wrap (C:=Tryz.checked) (X:=λw _=>laidMet Tryz.prog pV w) (λ_ _ _ hh h=>h.of_heap hh) own started (by kernel_rfl) Tryz.func3
  (ChangeSpec.witness_at (enc:=enc) (C:=Tryz.checked) (os:=os) (X:=λw _=>laidMet Tryz.prog pV w) false (zL os) #[.slice none 0 0] 8 rfl (by kernel_rfl) (by kernel_rfl) (by kernel_rfl) (by kernel_rfl) (by kernel_rfl) (za os _)) ?_
 intro W base args ds gs before OA hW hL SM;have uq:∀(j:Nat) t v,Tryz.f3.params[j]? =some t->args[j]? =some v->Value.okWide Tryz.prog W .any base t v:=OA;have hW':=hW;obtain⟨p,q,hA0,hV,rfl,hfz,hnd⟩:=hW;have hA:DataW.TrodAll enc Tryz.prog W 0 (λ_=>true) true Tryz.f3.params.toList args.toList ds p:=hA0;rw[Tryz.params3]at hA uq;obtain⟨v0,vs0,d0,ds0,p0,q0,mC,rfl,rfl,h0,r0⟩:=trodAll_cons hA;obtain⟨rfl,rfl,rfl⟩:=trodAll_nil r0;obtain rfl:args=#[v0]:=by cases args;simp_all
 obtain⟨rfl,rfl⟩:=trodVars_none hV;obtain⟨a0,Ky,Kz,rfl⟩:=okWide_slice Tryz.underlying22 (uq 0 22 v0 rfl rfl);have k0:=h0;have lt0:∀x∈p0,x.block<W.heap.size:=by obtain⟨m,hm⟩:=k0;exact DataW.trod_lt m _ _ _ hm
 obtain⟨z0,w0⟩:∃zs,Oz .u8 W a0 Ky Kz zs:=by
  obtain⟨fuel,hf⟩:=h0;rcases open_ints Tryz.underlying22 Tryz.underlying5 (by kernel_rfl) hf with⟨xf,_⟩ | ⟨x,l,c,zs,xf,_,hl,hm,hz,_,aJ,hwz⟩
  ·simp [Value.cells]at xf;obtain⟨rfl,rfl,rfl⟩:=xf;exact⟨[],.inl ⟨rfl,rfl,rfl,rfl⟩⟩
  ·simp [Value.cells]at xf;obtain⟨rfl,rfl,rfl⟩:=xf;exact⟨zs,.inr ⟨_,rfl,hl,hm,by simpa using hz,aJ,hwz⟩⟩
 clear hA0 OA;refine(walk a0 Ky Kz z0 W w0 (M4 hL SM)).mono λe W' ⟨he,bel⟩=>?_;subst he;exact⟨_,rfl,_,_,_,[],_,[],hW',trodAll_mk1 (shut_bool Tryz.underlying4 _),(trodAll_cons_mk (Below.trod laidOut (by kernel_rfl) (of_decide_eq_true (by kernel_rfl)) k0 bel lt0) trodAll_mk0),rfl,bel.frame _,λh=>by cases h⟩
theorem Vo:Tryz.pinned.checked.prog.funcNamed Rows.fnBuiltinsRow.func=some 3:=by kernel_rfl
theorem fu {a b:Bool} (h:a=true) (k:b=true):(a&&b)=true:=by subst h;exact k
theorem j0:(Rows.fnBuiltinsRow.wf (OpenSpec.ofChange Rows.fnBuiltinsSpec))=true:=by kernel_rfl
theorem j1:(laidOutB Tryz.pinned.checked.prog)=true:=by kernel_rfl
theorem j2:(mapsRowed Tryz.pinned.checked.prog)=true:=by kernel_rfl
theorem j3:(Tryz.f3.params.all (Tryz.pinned.checked.prog.readableRec ·))=true:=by kernel_rfl
theorem j4:(namedTie Tryz.pinned.checked.prog Rows.fnBuiltinsRow.named Rows.fnBuiltinsSpec.vars)=true:=by kernel_rfl
theorem j5:((Rows.fnBuiltinsRow.stops==[]))=true:=by kernel_rfl
theorem j6:((Tryz.pinned.checked.prog.stops==[]))=true:=by kernel_rfl
theorem j7:((Rows.fnBuiltinsRow.knobs==[]))=true:=by kernel_rfl
theorem j8:((Tryz.pinned.checked.prog.stopKnobs==[]))=true:=by kernel_rfl
theorem j9:((Rows.fnBuiltinsRow.inPlace==Tryz.pinned.checked.prog.inPlace 3))=true:=by kernel_rfl
theorem j10:((Rows.fnBuiltinsRow.unfollowed==Tryz.pinned.checked.prog.unfollowed 3))=true:=by kernel_rfl
theorem j11:((Rows.fnBuiltinsRow.recurses==Tryz.pinned.checked.prog.recurses 3))=true:=by kernel_rfl
theorem j12:((Rows.fnBuiltinsRow.named==Tryz.pinned.checked.prog.varsNamed 3))=true:=by kernel_rfl
theorem j13:((Rows.fnBuiltinsRow.maps==(Tryz.f3.params.toList++Rows.fnBuiltinsSpec.plain.varTypes Tryz.pinned.checked.prog).any (Tryz.pinned.checked.prog.mapsRec ·)))=true:=by kernel_rfl
theorem j14:((Rows.fnBuiltinsRow.ifaces==(Tryz.f3.params.toList++Rows.fnBuiltinsSpec.plain.varTypes Tryz.pinned.checked.prog).any (Tryz.pinned.checked.prog.ifacesRec ·)))=true:=by kernel_rfl
theorem j15:((Rows.fnBuiltinsRow.mapsOut==Tryz.pinned.checked.prog.mapsAmong Tryz.f3.resultTypes.toList))=true:=by kernel_rfl
theorem j16:((Rows.fnBuiltinsRow.loops==(Tryz.f3.params.toList++Rows.fnBuiltinsSpec.plain.varTypes Tryz.pinned.checked.prog).any (Tryz.pinned.checked.prog.loopsFrom ·)))=true:=by kernel_rfl
theorem j17:((Rows.fnBuiltinsRow.wideKeys==(Tryz.f3.params.toList++Rows.fnBuiltinsSpec.plain.varTypes Tryz.pinned.checked.prog++Tryz.f3.resultTypes.toList).any (Tryz.pinned.checked.prog.wideKeysFrom ·)))=true:=by kernel_rfl
theorem j18:(Rows.fnBuiltinsSpec.vars.all (Tryz.pinned.checked.prog.varReadable ·))=true:=by kernel_rfl
theorem j19:(Tryz.f3.resultTypes.all (λt=>Tryz.pinned.checked.prog.readableRec t&&decide (t<Tryz.pinned.checked.prog.types.size)))=true:=by kernel_rfl
theorem j20:((Rows.fnBuiltinsRow.ifacesOut==Tryz.f3.resultTypes.toList.any (Tryz.pinned.checked.prog.ifacesRec ·)))=true:=by kernel_rfl
theorem j21:((Rows.fnBuiltinsRow.loopsOut==Tryz.f3.resultTypes.toList.any (Tryz.pinned.checked.prog.loopsFrom ·)))=true:=by kernel_rfl
theorem j22:((Rows.fnBuiltinsRow.plainKeys==Tryz.pinned.checked.prog.plainKeys))=true:=by kernel_rfl
theorem j23:(Rows.fnBuiltinsRow.shortTexts.isNone)=true:=by kernel_rfl
theorem j24:(Tryz.pinned.checked.prog.stopsHeard)=true:=by kernel_rfl
theorem j25:(Tryz.pinned.checked.prog.mayEnter)=true:=by kernel_rfl
theorem j26:((Rows.fnBuiltinsRow.lifted==Tryz.pinned.checked.prog.liftsFinal))=true:=by kernel_rfl
theorem j27:((Tryz.pinned.checked.prog.make==some Rows.fnBuiltinsRow.make))=true:=by kernel_rfl
theorem j28:((Rows.fnBuiltinsRow.kinds==(if Rows.fnBuiltinsRow.domain.isEmpty then[]else Tryz.f3.params.toList.map λt=>match Tryz.pinned.checked.prog.underlying t with | some (.int k)=>some k | _=>none)))=true:=by kernel_rfl
theorem j29:((Rows.fnBuiltinsRow.pinned==Rows.fnBuiltinsRow.pinnedBy))=true:=by kernel_rfl
theorem j30:((Rows.fnBuiltinsRow.veiled==(Tryz.f3.params.toList++Rows.fnBuiltinsSpec.plain.varTypes Tryz.pinned.checked.prog++Tryz.f3.resultTypes.toList).any (Tryz.pinned.checked.prog.veiledRec ·)))=true:=by kernel_rfl
theorem j31:(Rows.fnBuiltinsRow.veiledFits Tryz.pinned.checked.prog Tryz.f3.params.toList (Tryz.f3.params.toList++Rows.fnBuiltinsSpec.plain.varTypes Tryz.pinned.checked.prog++Tryz.f3.resultTypes.toList))=true:=by kernel_rfl
set_option maxRecDepth 100000 in
theorem Vp:joinedFacts Tryz.pinned.checked.prog 3 Tryz.f3 Rows.fnBuiltinsSpec Rows.fnBuiltinsRow=true:=fu (fu (fu (fu (fu (fu (fu (fu (fu (fu (fu (fu (fu (fu (fu (fu (fu (fu (fu (fu (fu (fu (fu (fu (fu (fu (fu (fu (fu (fu (fu j0 j1) j2) j3) j4) j5) j6) j7) j8) j9) j10) j11) j12) j13) j14) j15) j16) j17) j18) j19) j20) j21) j22) j23) j24) j25) j26) j27) j28) j29) j30) j31
theorem Vq:Tryz.f3.isInstance Tryz.pinned.checked.prog Rows.fnBuiltinsRow.origin Rows.fnBuiltinsRow.targs:=of_decide_eq_true (by kernel_rfl)
theorem Vr:Tryz.f3.isWrapper Tryz.pinned.checked.prog Rows.fnBuiltinsRow.wrapper Rows.fnBuiltinsRow.mainSum:=by unfold Func.isWrapper;first | (rw[if_pos (by decide +kernel)];kernel_rfl) | (rw[if_neg (by decide +kernel)];exact⟨rfl,rfl⟩)
theorem over:Rows.FnBuiltinsSaid:=
 OpenClaim.holds_of_wide 3 Tryz.f3 rfl rfl rfl rfl rfl rfl rfl ⟨rfl,rfl,rfl,rfl,rfl⟩ rfl rfl rfl rfl rfl Vo Tryz.func3 Vp
  Vq Vr
  (λos started H enc _=>lifted os started H enc)
theorem proved:Rows.FnBuiltinsCardSaid:=
 Claim7.holds_tied_plain_at .later [] [.data,.data,.data,.sentinel,.sentinel] true (true, "babf3690f9c52133f7c7d41d8ab1090961ba4242f487829292963fa03130ac97") true
  over (λ_ h=>by cases h) (by kernel_rfl) (λ_ h=>by cases h) fnBuiltins_row_tie rfl ⟨rfl,rfl⟩ (by kernel_rfl) rfl
  (λf fn hf M5=>by
   obtain rfl:f=3:=Option.some.inj ((show Tryz.prog.funcNamed "loop.example/g03011/laws.FnBuiltins" =some 3 by kernel_rfl).symm.trans hf) |>.symm;obtain rfl:fn=Tryz.f3:=(Option.some.inj (Tryz.func3.symm.trans M5)).symm
   exact⟨by kernel_rfl,λj t ht=>by
    rw[Tryz.params3]at ht
    have h9:t=22:=by
     rcases j with _ | j
     ·simpa using ht.symm
     ·simp at ht
    subst h9;exact(show Tryz.prog.wantsStandIn 22=false by kernel_rfl)⟩)
  (by kernel_rfl)
end Go.Proofs.YtdongnkoilijjaaGreatDoor.fnBuiltins
