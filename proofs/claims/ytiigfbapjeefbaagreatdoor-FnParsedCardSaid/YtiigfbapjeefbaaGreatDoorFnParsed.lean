/- Texts of the proof, joined. -/
import Derived.Test.YtiigfbapjeefbaaGreatDoorRows
import Derived.Test.YtiigfbapjeefbaaGreatDoorCards
import Derived.Test.YtiigfbapjeefbaaGreatDoorTie
import Derived.WalkKit
import Derived.ProofKit
import Derived.OpenShut
import Derived.ShutString
import Derived.ChangeOld
import Derived.Below
import Derived.HandedShaped
import Derived.ChangeSame
import Derived.ChangeVars
import Derived.ChangeMaps5
import Derived.JoinedOf
import Derived.JoinedAt
import Derived.LaidLaws
import Derived.Stop.LaidErr
import Derived.Lib.LaidTab
import Derived.SevenTiedAt
import Derived.Test.YtiigfbapjeefbaaGreatDoorPk14
namespace Go.Proofs.YtiigfbapjeefbaaGreatDoor.fnParsed
open Go.ChangeShapes Go.WideShapes Go.ChangeAt Go.RowKit
open Go.ChangeMaps (open_string shut_string)
set_option linter.unusedVariables false
theorem own:ownKnob Tryz.prog.godebug=none:=by kernel_rfl
theorem laidOut:laidOutB Tryz.prog=true:=by kernel_rfl
abbrev aMo:ByteArray:={data:=#[105,110,118,97,108,105,100,32,115,121,110,116,97,120]}
abbrev aMp:ByteArray:={data:=#[118,97,108,117,101,32,111,117,116,32,111,102,32,114,97,110,103,101]}
def aFL:List Int:=[0,1,28,2,29,14,24,3,30,22,20,15,25,17,4,8,31,27,13,23,21,19,16,7,26,12,18,6,11,5,10,9]
def aFM:List Int:=[0,1,56,2,57,49,28,3,61,58,42,50,38,29,17,4,62,47,59,36,45,43,51,22,53,39,33,30,24,18,12,5,63,55,48,27,60,41,37,16,46,35,44,21,52,32,23,11,54,26,40,15,34,20,31,10,25,14,19,9,13,8,7,6]
noncomputable def low:Nat:=(World.holding Tryz.prog default ⟨#[],#[],[]⟩).heap.size
noncomputable def HN (os:Os):World:=
 let w0:=World.holding Tryz.prog os ⟨#[.cells #[.string aMo] 189,.cells #[.string aMp] 189],#[],[]⟩
 let put (g:Nat) (cs:Array Value) (h:Array Obj):Array Obj:=h.modify g fun
  | .cells _ t frozen=>.cells cs t frozen
  | o=>o
 {w0 with heap:=put 1 (Am.Lh.map λz=>Value.int .u64 z).toArray (put 2 #[.iface 187 (.pointer (some ⟨low,0,none⟩))] (put 3 #[.iface 187 (.pointer (some ⟨low+1,0,none⟩))]
   (put 4 (aFL.map λz=>Value.int .u8 z).toArray (put 5 (aFM.map λz=>Value.int .u8 z).toArray w0.heap))))}
noncomputable def places:List MemPlace:=(List.range 32).map (λi=>MemPlace.cell 4 i)++((List.range 64).map (λi=>MemPlace.cell 5 i)++((List.range 20).map (λi=>MemPlace.cell 1 i)++[.cell 3 0,.cell (low+1) 0,.cell 2 0,.cell low 0]))
abbrev xC:List (String×DataW Unit):=[("math/bits.deBruijn32tab",Rows.laid_math_bits_deBruijn32tab),("math/bits.deBruijn64tab",Rows.laid_math_bits_deBruijn64tab),("internal/strconv.uint64pow10",Rows.laid_internal_strconv_uint64pow10),("strconv.ErrRange",Rows.laid_strconv_ErrRange),("strconv.ErrSyntax",Rows.laid_strconv_ErrSyntax)]
set_option maxRecDepth 100000 in
theorem GK (os:Os) (args:Array Value):laidMet Tryz.prog xC ((HN os).forCall (λ_ _=>0) ⟨#[],args,[]⟩).memory:=
 laidMet_of_run (ps:=places) 8 (by kernel_rfl) (by kernel_rfl) (by kernel_rfl)
theorem xD {w:World} {n:String} {g:Nat} {cs:Array Value} (hg:Tryz.prog.globalNamed n=some g) (h:w.var? Tryz.prog n=some cs):∃t z,w.heap[g]? =some (.cells cs t z):=by
 unfold World.var? at h;rw[hg]at h;simp only[Option.bind_some]at h;split at h
 ·rename_i c t z hh;cases h;exact⟨_,_,hh⟩
 ·cases h
theorem lt_of_heap {w:World} {g:Nat} {o:Obj} (h:w.heap[g]? =some o):g<w.heap.size:=(Array.getElem?_eq_some_iff.1 h).1
theorem star: "*" ++ "errors.errorString" = "*errors.errorString" :=by decide
theorem adh (u:TypeId) (h:Tryz.prog.typeName? 3 u=some "*errors.errorString"):u=187:=
 typeName_ptr_named (nm:= "errors.errorString") (by rw[star];kernel_rfl) (by kernel_rfl) (by decide) u (by rw[star];exact h)
theorem gR:Tryz.prog.globalNamed "strconv.ErrRange" =some 3:=by kernel_rfl
theorem gRT:(Tryz.prog.globals[3]?).map (·.type)=some 95:=by kernel_rfl
theorem gST:(Tryz.prog.globals[2]?).map (·.type)=some 95:=by kernel_rfl
theorem gTT:(Tryz.prog.globals[1]?).map (·.type)=some 176:=by kernel_rfl
theorem aFN:Tryz.prog.cellsOf 189=1:=by kernel_rfl
theorem c9:Tryz.prog.cellsOf 9=1:=by kernel_rfl
theorem ag0 {w:World} (hL:laidMet Tryz.prog xC w) (hsh:w.ShapedOpen Tryz.prog):Am.RQ (λb=>b<w.heap.size) w:=by
 have h1:=hL.tail.tail;have h2:=h1.tail;have h3:=h2.tail;refine⟨λp hp=>?_,λg hg=>?_,λg hg=>?_⟩
 ·have e:p=(1,(Am.Lh.map λz=>Value.int .u64 z).toArray):=by simpa[Am.IX]using hp
  subst e;have ht:Lib.TabIs Tryz.prog w "internal/strconv.uint64pow10" .u64 Am.Lh:=Lib.tabIs_of_head Am.aoh gTT Tryz.underlying176 Tryz.underlying164 (by kernel_rfl) (by kernel_rfl) h1;obtain⟨t,z,hh⟩:=xD Am.aoh ht;exact⟨lt_of_heap hh,t,z,hh⟩
 ·have hg:g=2\/g=3:=by simpa[Am.z6]using hg
  rcases hg with rfl | rfl
  ·obtain⟨a0,s0,TX,-,-,-⟩:=laid_sentinel h3 Am.aoi gST Tryz.underlying95 adh Tryz.underlying187 Tryz.underlying189 rfl rfl Tryz.underlying9 aFN c9;obtain⟨t,z,hh⟩:=xD Am.aoi TX;exact⟨lt_of_heap hh,_,_,t,z,hh⟩
  ·obtain⟨a0,s0,TX,-,-,-⟩:=laid_sentinel h2 Am.aoj gRT Tryz.underlying95 adh Tryz.underlying187 Tryz.underlying189 rfl rfl Tryz.underlying9 aFN c9;obtain⟨t,z,hh⟩:=xD Am.aoj TX;exact⟨lt_of_heap hh,_,_,t,z,hh⟩
 ·have hg:g=0:=by simpa[Am.IZ]using hg
  subst hg;obtain⟨cs,hh,hs,_⟩:=hsh.1 0 #[.int .i64 0] (3,(0,0)).1 (of_decide_eq_true (by kernel_rfl)) (by kernel_rfl);obtain⟨m,hm⟩:=cell_of_shapedOpen_int (P:=Tryz.prog) (g:=0) (t:=3) (zero:=#[.int .i64 0]) hsh (of_decide_eq_true (by kernel_rfl)) (by kernel_rfl) rfl (by kernel_rfl) (by kernel_rfl) Tryz.underlying3
  have e:cs=#[.int .i64 m]:=by
   obtain⟨l⟩:=cs;rcases l with _ | ⟨x,_ | ⟨y,l⟩⟩
   ·simp at hs
   ·simp [World.cell?,hh]at hm;rw[hm]
   ·simp at hs
  subst e;exact⟨lt_of_heap hh,m,_,_,hh⟩
theorem wrap {H:Type} {enc:TypeId×Value->H} {a:Assume} {C:Checked} {os:Os} {f:FuncId} {fn:Func} {s:ChangeSpec} {conds:List PathCond} {apart fresh handsOn again:Bool} {X:World->Array Value->Prop}
  (hX:∀(w w':World) (args:Array Value),w.heap=w'.heap->X w args->X w' args)
  (own:ownKnob C.prog.godebug=none) (started:os.Started) (asn:C.prog.inits.idxOf? f=none) (hfn:C.prog.funcs[f]? =some fn)
  (witness:∃(w:World) (tape:Tape) (i:Input),w.os=os/\(w.forCall tape i).Shaped C.prog/\i.vars=[]/\Input.okWide C.prog (w.forCall tape i) .any w.heap.size f i/\
   ((s.pre enc C.prog fn conds apart (w.forCall tape i).memory i.args/\X (w.forCall tape i).memory i.args)/\sizedMet enc C.prog fn (OpenSpec.ofChange s) apart (w.forCall tape i).memory i.args)/\a.holds C.prog (lone (Frame.enter C.prog f i.args .normal) [] (w.forCall tape i)))
  (contract:∀(W:World) (base:Nat) (args:Array Value) (ds gs:List (DataW H)) (before:List MemPlace),
   (∀(j:Nat) t v,fn.params[j]? =some t->args[j]? =some v->Value.okWide C.prog W .any base t v)->
   DataW.Whole enc C.prog fn.params.toList s.vars apart W args.toList ds gs before->X W args->W.ShapedOpen C.prog->
   Calls C.prog f args W λe W'=>∃v,e=.returned v/\s.post enc C.prog fn apart fresh handsOn again W args v W'):
  ReturnsInHanded a C os f .any (λw args=>(s.pre enc C.prog fn conds apart w args/\X w args)/\sizedMet enc C.prog fn (OpenSpec.ofChange s) apart w args) (s.post enc C.prog fn apart fresh handsOn again):=by
 refine returnsInHanded_of_calls own started asn witness ?_;intro w tape i _ hsh _ yB aMq _;obtain⟨_,_,_,fn',aMr,_,_,_,_,BF⟩:=yB;obtain rfl:fn'=fn:=Option.some.inj (aMr.symm.trans hfn);obtain⟨⟨⟨ds,gs,before,hw,_⟩,hx⟩,_⟩:=aMq;refine(contract (w.forCall tape i) w.heap.size i.args ds gs before BF (DataW.Whole.of_heap (w':=w.forCall tape i) (by rfl) hw) (hX _ _ _ (by rfl) hx) hsh).mono λe W' ⟨v,he,hp⟩=>?_;subst he;exact ChangeSpec.post_blind hp
def akU (k:IntKind) (w:World) (a:Option Addr) (len cap:Nat) (zs:List Int):Prop:=
 (a=none/\len=0/\cap=0/\zs=[])\/
 ∃x,a=some x/\len<=cap/\cap<=maxLen/\zs.length=cap/\(∀i,i<zs.length->w.cell? (x.add i)=some (.int k (zs.getD i 0)))/\∀n∈zs,(Lit.int k n).wf=true
theorem walk (a0:Option Addr) (adi adj:Nat) (z0:List Int) (w:World) (w0:akU .u8 w a0 adi adj z0) (aso:Am.RQ (λb=>b<w.heap.size) w):
  Calls Tryz.prog 8 #[.slice a0 adi adj] w λe w'=>e=.returned (.bool true)/\Below w.heap.size w w':=by
 obtain⟨bs,hb⟩:=Am.QB w0 (S:=λb=>b<w.heap.size) (λb hb=>hb);refine Am.ag1 aso (Am.UH bs) rfl (λj pv hj=>?_);rcases j with _ | j
 ·cases hj;exact⟨_,rfl,hb⟩
 ·cases hj
set_option maxRecDepth 100000 in
theorem lifted (os:Os) (started:os.Started) (H:Type) (enc:TypeId×Value->H):
  ReturnsInHanded {} Tryz.checked os 8 .any (λw args=>(Rows.fnParsedSpec.pre enc Tryz.prog Tryz.f8 Rows.fnParsedRow.domain false w args/\laidMet Tryz.prog xC w)/\sizedMet enc Tryz.prog Tryz.f8 (OpenSpec.ofChange Rows.fnParsedSpec) false w args)
   (Rows.fnParsedSpec.post enc Tryz.prog Tryz.f8 false true false false):=by
 refine wrap (C:=Tryz.checked) (X:=λw _=>laidMet Tryz.prog xC w) (λ_ _ _ hh h=>h.of_heap hh) own started (by kernel_rfl) Tryz.func8
  (ChangeSpec.witness_at (enc:=enc) (C:=Tryz.checked) (os:=os) (X:=λw _=>laidMet Tryz.prog xC w) false (HN os) #[.slice none 0 0] 8 rfl (by kernel_rfl) (by kernel_rfl) (by kernel_rfl) (by kernel_rfl) (by kernel_rfl) (GK os _)) ?_
 intro W base args ds gs before akV hW hL hsh;have BF:∀(j:Nat) t v,Tryz.f8.params[j]? =some t->args[j]? =some v->Value.okWide Tryz.prog W .any base t v:=akV;have hW':=hW;obtain⟨p,q,hA0,hV,rfl,hfz,hnd⟩:=hW;have hA:DataW.TrodAll enc Tryz.prog W 0 (λ_=>true) true Tryz.f8.params.toList args.toList ds p:=hA0;rw[Tryz.params8]at hA BF;obtain⟨v0,vs0,d0,ds0,p0,q0,oH,rfl,rfl,h0,r0⟩:=trodAll_cons hA;obtain⟨rfl,rfl,rfl⟩:=trodAll_nil r0;obtain rfl:args=#[v0]:=by cases args;simp_all
 obtain⟨rfl,rfl⟩:=trodVars_none hV;obtain⟨a0,adi,adj,rfl⟩:=okWide_slice Tryz.underlying39 (BF 0 39 v0 rfl rfl);have k0:=h0;have lt0:∀x∈p0,x.block<W.heap.size:=by obtain⟨m,hm⟩:=k0;exact DataW.trod_lt m _ _ _ hm
 obtain⟨z0,w0⟩:∃zs,akU .u8 W a0 adi adj zs:=by
  obtain⟨fuel,hf⟩:=h0;rcases open_ints Tryz.underlying39 Tryz.underlying5 (by kernel_rfl) hf with⟨NN,_⟩ | ⟨x,l,c,zs,NN,_,hl,hm,hz,_,bB,hwz⟩
  ·simp [Value.cells]at NN;obtain⟨rfl,rfl,rfl⟩:=NN;exact⟨[],.inl ⟨rfl,rfl,rfl,rfl⟩⟩
  ·simp [Value.cells]at NN;obtain⟨rfl,rfl,rfl⟩:=NN;exact⟨zs,.inr ⟨_,rfl,hl,hm,by simpa using hz,bB,hwz⟩⟩
 clear hA0 akV;refine(walk a0 adi adj z0 W w0 (ag0 hL hsh)).mono λe W' ⟨he,bel⟩=>?_;subst he;exact⟨_,rfl,_,_,_,[],_,[],hW',trodAll_mk1 (shut_bool Tryz.underlying4 _),(trodAll_cons_mk (Below.trod laidOut (by kernel_rfl) (of_decide_eq_true (by kernel_rfl)) k0 bel lt0) trodAll_mk0),rfl,bel.frame _,λh=>by cases h⟩
theorem over:Rows.FnParsedSaid:=
 OpenClaim.holds_of_wide 8 Tryz.f8 rfl rfl rfl rfl rfl rfl rfl ⟨rfl,rfl,rfl,rfl,rfl⟩ rfl rfl rfl rfl rfl (by kernel_rfl) Tryz.func8 (by kernel_rfl)
  (of_decide_eq_true (by kernel_rfl)) (by unfold Func.isWrapper;first | (rw[if_pos (by decide +kernel)];kernel_rfl) | (rw[if_neg (by decide +kernel)];exact⟨rfl,rfl⟩))
  (λos started H enc _=>lifted os started H enc)
theorem proved:Rows.FnParsedCardSaid:=
 Claim7.holds_tied_plain_at .later [] [.data,.data,.data,.sentinel,.sentinel] true (true, "ab74de15634e0f8a56f5c7a472e40495cd2fb79f038ee583fa48df26ba417a97") true
  over (λ_ h=>by cases h) (by kernel_rfl) (λ_ h=>by cases h) fnParsed_row_tie rfl ⟨rfl,rfl⟩ (by kernel_rfl) rfl
  (λf fn hf hfn=>by
   obtain rfl:f=8:=Option.some.inj ((show Tryz.prog.funcNamed "loop.example/g03011/laws.FnParsed" =some 8 by kernel_rfl).symm.trans hf) |>.symm;obtain rfl:fn=Tryz.f8:=(Option.some.inj (Tryz.func8.symm.trans hfn)).symm
   exact⟨by kernel_rfl,λj t ht=>by
    rw[Tryz.params8]at ht
    have h9:t=39:=by
     rcases j with _ | j
     ·simpa using ht.symm
     ·simp at ht
    subst h9;exact(show Tryz.prog.wantsStandIn 39=false by kernel_rfl)⟩)
  (by kernel_rfl)
end Go.Proofs.YtiigfbapjeefbaaGreatDoor.fnParsed
