/- Texts of the proof, joined. -/
import Derived.Test.YtmkelbnaodipcaaDoorRows
import Derived.Test.YtmkelbnaodipcaaDoorCards
import Derived.Test.YtmkelbnaodipcaaDoorTie
import Derived.WalkKit
import Derived.ProofKit
import Derived.OpenShut
import Derived.ShutString
import Derived.ChangeOld
import Derived.Below
import Derived.HandedShaped
import Derived.ChangeSame
import Derived.ChangeVars
import Derived.ChangeMaps5
import Derived.JoinedOf
import Derived.JoinedAt
import Derived.LaidLaws
import Derived.Stop.LaidErr
import Derived.Lib.LaidTab
import Derived.SevenTiedAt
import Derived.Test.YtmkelbnaodipcaaDoorPk8
namespace Go.Proofs.YtmkelbnaodipcaaDoor.fnPaths
open Go.ChangeShapes Go.WideShapes Go.ChangeAt Go.RowKit
open Go.ChangeMaps (open_string shut_string)
set_option linter.unusedVariables false
theorem own:ownKnob Tryd.prog.godebug=none:=by kernel_rfl
theorem laidOut:laidOutB Tryd.prog=true:=by kernel_rfl
abbrev Ns:ByteArray:={data:=#[105,110,118,97,108,105,100,32,115,121,110,116,97,120]}
abbrev Nt:ByteArray:={data:=#[118,97,108,117,101,32,111,117,116,32,111,102,32,114,97,110,103,101]}
def JP:List Int:=[0,1,28,2,29,14,24,3,30,22,20,15,25,17,4,8,31,27,13,23,21,19,16,7,26,12,18,6,11,5,10,9]
def JQ:List Int:=[0,1,56,2,57,49,28,3,61,58,42,50,38,29,17,4,62,47,59,36,45,43,51,22,53,39,33,30,24,18,12,5,63,55,48,27,60,41,37,16,46,35,44,21,52,32,23,11,54,26,40,15,34,20,31,10,25,14,19,9,13,8,7,6]
noncomputable def low:Nat:=(World.holding Tryd.prog default ⟨#[],#[],[]⟩).heap.size
noncomputable def sf (os:Os):World:=
 let w0:=World.holding Tryd.prog os ⟨#[.cells #[.string Ns] 110,.cells #[.string Nt] 110],#[],[]⟩
 let put (g:Nat) (cs:Array Value) (h:Array Obj):Array Obj:=h.modify g fun
  | .cells _ t frozen=>.cells cs t frozen
  | o=>o
 {w0 with heap:=put 2 (Am.uO.map λz=>Value.int .u64 z).toArray (put 0 #[.iface 108 (.pointer (some ⟨low,0,none⟩))] (put 1 #[.iface 108 (.pointer (some ⟨low+1,0,none⟩))]
   (put 3 (JP.map λz=>Value.int .u8 z).toArray (put 4 (JQ.map λz=>Value.int .u8 z).toArray w0.heap))))}
noncomputable def places:List MemPlace:=(List.range 32).map (λi=>MemPlace.cell 3 i)++((List.range 64).map (λi=>MemPlace.cell 4 i)++((List.range 20).map (λi=>MemPlace.cell 2 i)++[.cell 1 0,.cell (low+1) 0,.cell 0 0,.cell low 0]))
abbrev k4:List (String×DataW Unit):=[("math/bits.deBruijn32tab",Rows.laid_math_bits_deBruijn32tab),("math/bits.deBruijn64tab",Rows.laid_math_bits_deBruijn64tab),("internal/strconv.uint64pow10",Rows.laid_internal_strconv_uint64pow10),("strconv.ErrRange",Rows.laid_strconv_ErrRange),("strconv.ErrSyntax",Rows.laid_strconv_ErrSyntax)]
set_option maxRecDepth 100000 in
theorem rP (os:Os) (args:Array Value):laidMet Tryd.prog k4 ((sf os).forCall (λ_ _=>0) ⟨#[],args,[]⟩).memory:=
 laidMet_of_run (ps:=places) 8 (by kernel_rfl) (by kernel_rfl) (by kernel_rfl)
theorem k5 {w:World} {n:String} {g:Nat} {cs:Array Value} (hg:Tryd.prog.globalNamed n=some g) (h:w.var? Tryd.prog n=some cs):∃t z,w.heap[g]? =some (.cells cs t z):=by
 unfold World.var? at h;rw[hg]at h;simp only[Option.bind_some]at h;split at h
 ·rename_i c t z hh;cases h;exact⟨_,_,hh⟩
 ·cases h
theorem lt_of_heap {w:World} {g:Nat} {o:Obj} (h:w.heap[g]? =some o):g<w.heap.size:=(Array.getElem?_eq_some_iff.1 h).1
theorem star: "*" ++ "errors.errorString" = "*errors.errorString" :=by decide
theorem Bq (u:TypeId) (h:Tryd.prog.typeName? 3 u=some "*errors.errorString"):u=108:=
 typeName_ptr_named (nm:= "errors.errorString") (by rw[star];kernel_rfl) (by kernel_rfl) (by decide) u (by rw[star];exact h)
theorem gR:Tryd.prog.globalNamed "strconv.ErrRange" =some 1:=by kernel_rfl
theorem QQ:(Tryd.prog.globals[1]?).map (·.type)=some 81:=by kernel_rfl
theorem QR:(Tryd.prog.globals[0]?).map (·.type)=some 81:=by kernel_rfl
theorem QS:(Tryd.prog.globals[2]?).map (·.type)=some 113:=by kernel_rfl
theorem JR:Tryd.prog.cellsOf 110=1:=by kernel_rfl
theorem c9:Tryd.prog.cellsOf 9=1:=by kernel_rfl
theorem DL {w:World} (hL:laidMet Tryd.prog k4 w) (LJ:w.ShapedOpen Tryd.prog):Am.zk (λb=>b<w.heap.size) w:=by
 have h1:=hL.tail.tail;have h2:=h1.tail;have h3:=h2.tail;refine⟨λp hp=>?_,λg hg=>?_,λg hg=>?_⟩
 ·have e:p=(2,(Am.uO.map λz=>Value.int .u64 z).toArray):=by simpa[Am.tw]using hp
  subst e;have ht:Lib.TabIs Tryd.prog w "internal/strconv.uint64pow10" .u64 Am.uO:=Lib.tabIs_of_head Am.GD QS Tryd.underlying113 Tryd.underlying93 (by kernel_rfl) (by kernel_rfl) h1;obtain⟨t,z,hh⟩:=k5 Am.GD ht;exact⟨lt_of_heap hh,t,z,hh⟩
 ·have hg:g=0\/g=1:=by simpa[Am.mY]using hg
  rcases hg with rfl | rfl
  ·obtain⟨a0,s0,zl,-,-,-⟩:=laid_sentinel h3 Am.GF QR Tryd.underlying81 Bq Tryd.underlying108 Tryd.underlying110 rfl rfl Tryd.underlying9 JR c9;obtain⟨t,z,hh⟩:=k5 Am.GF zl;exact⟨lt_of_heap hh,_,_,t,z,hh⟩
  ·obtain⟨a0,s0,zl,-,-,-⟩:=laid_sentinel h2 Am.GG QQ Tryd.underlying81 Bq Tryd.underlying108 Tryd.underlying110 rfl rfl Tryd.underlying9 JR c9;obtain⟨t,z,hh⟩:=k5 Am.GG zl;exact⟨lt_of_heap hh,_,_,t,z,hh⟩
 ·simp [Am.yj]at hg
theorem wrap {H:Type} {enc:TypeId×Value->H} {a:Assume} {C:Checked} {os:Os} {f:FuncId} {fn:Func} {s:ChangeSpec} {conds:List PathCond} {apart fresh handsOn again:Bool} {X:World->Array Value->Prop}
  (hX:∀(w w':World) (args:Array Value),w.heap=w'.heap->X w args->X w' args)
  (own:ownKnob C.prog.godebug=none) (started:os.Started) (Hh:C.prog.inits.idxOf? f=none) (DM:C.prog.funcs[f]? =some fn)
  (witness:∃(w:World) (tape:Tape) (i:Input),w.os=os/\(w.forCall tape i).Shaped C.prog/\i.vars=[]/\Input.okWide C.prog (w.forCall tape i) .any w.heap.size f i/\
   ((s.pre enc C.prog fn conds apart (w.forCall tape i).memory i.args/\X (w.forCall tape i).memory i.args)/\sizedMet enc C.prog fn (OpenSpec.ofChange s) apart (w.forCall tape i).memory i.args)/\a.holds C.prog (lone (Frame.enter C.prog f i.args .normal) [] (w.forCall tape i)))
  (contract:∀(W:World) (base:Nat) (args:Array Value) (ds gs:List (DataW H)) (before:List MemPlace),
   (∀(j:Nat) t v,fn.params[j]? =some t->args[j]? =some v->Value.okWide C.prog W .any base t v)->
   DataW.Whole enc C.prog fn.params.toList s.vars apart W args.toList ds gs before->X W args->W.ShapedOpen C.prog->
   Calls C.prog f args W λe W'=>∃v,e=.returned v/\s.post enc C.prog fn apart fresh handsOn again W args v W'):
  ReturnsInHanded a C os f .any (λw args=>(s.pre enc C.prog fn conds apart w args/\X w args)/\sizedMet enc C.prog fn (OpenSpec.ofChange s) apart w args) (s.post enc C.prog fn apart fresh handsOn again):=by
 refine returnsInHanded_of_calls own started Hh witness ?_;intro w tape i _ LJ _ oh Nu _;obtain⟨_,_,_,fn',Nv,_,_,_,_,oE⟩:=oh;obtain rfl:fn'=fn:=Option.some.inj (Nv.symm.trans DM);obtain⟨⟨⟨ds,gs,before,hw,_⟩,hx⟩,_⟩:=Nu;refine(contract (w.forCall tape i) w.heap.size i.args ds gs before oE (DataW.Whole.of_heap (w':=w.forCall tape i) (by rfl) hw) (hX _ _ _ (by rfl) hx) LJ).mono λe W' ⟨v,he,hp⟩=>?_;subst he;exact ChangeSpec.post_blind hp
def E5 (k:IntKind) (w:World) (a:Option Addr) (len cap:Nat) (zs:List Int):Prop:=
 (a=none/\len=0/\cap=0/\zs=[])\/
 ∃x,a=some x/\len<=cap/\cap<=maxLen/\zs.length=cap/\(∀i,i<zs.length->w.cell? (x.add i)=some (.int k (zs.getD i 0)))/\∀n∈zs,(Lit.int k n).wf=true
theorem walk (a0:Option Addr) (Br Bs:Nat) (z0:List Int) (w:World) (w0:E5 .u8 w a0 Br Bs z0) (Hi:Am.zk (λb=>b<w.heap.size) w):
  Calls Tryd.prog 3 #[.slice a0 Br Bs] w λe w'=>e=.returned (.bool true)/\Below w.heap.size w w':=by
 obtain⟨bs,hb⟩:=Am.w7 w0 (S:=λb=>b<w.heap.size) (λb hb=>hb);refine Am.DN Hi (Am.Bt bs) rfl (λj pv hj=>?_);rcases j with _ | j
 ·cases hj;exact⟨_,rfl,hb⟩
 ·cases hj
set_option maxRecDepth 100000 in
theorem lifted (os:Os) (started:os.Started) (H:Type) (enc:TypeId×Value->H):
  ReturnsInHanded {} Tryd.checked os 3 .any (λw args=>(Rows.fnPathsSpec.pre enc Tryd.prog Tryd.f3 Rows.fnPathsRow.domain false w args/\laidMet Tryd.prog k4 w)/\sizedMet enc Tryd.prog Tryd.f3 (OpenSpec.ofChange Rows.fnPathsSpec) false w args)
   (Rows.fnPathsSpec.post enc Tryd.prog Tryd.f3 false true false false):=by
 refine wrap (C:=Tryd.checked) (X:=λw _=>laidMet Tryd.prog k4 w) (λ_ _ _ hh h=>h.of_heap hh) own started (by kernel_rfl) Tryd.func3
  (ChangeSpec.witness_at (enc:=enc) (C:=Tryd.checked) (os:=os) (X:=λw _=>laidMet Tryd.prog k4 w) false (sf os) #[.slice none 0 0] 8 rfl (by kernel_rfl) (by kernel_rfl) (by kernel_rfl) (by kernel_rfl) (by kernel_rfl) (rP os _)) ?_
 intro W base args ds gs before E6 hW hL LJ;have oE:∀(j:Nat) t v,Tryd.f3.params[j]? =some t->args[j]? =some v->Value.okWide Tryd.prog W .any base t v:=E6;have QT:=hW;obtain⟨p,q,PU,hV,rfl,Nw,Nx⟩:=hW;have hA:DataW.TrodAll enc Tryd.prog W 0 (λ_=>true) true Tryd.f3.params.toList args.toList ds p:=PU;rw[Tryd.params3]at hA oE;obtain⟨v0,Sg,d0,Sh,p0,q0,kE,rfl,rfl,h0,r0⟩:=trodAll_cons hA;obtain⟨rfl,rfl,rfl⟩:=trodAll_nil r0;obtain rfl:args=#[v0]:=by cases args;simp_all
 obtain⟨rfl,rfl⟩:=trodVars_none hV;obtain⟨a0,Br,Bs,rfl⟩:=okWide_slice Tryd.underlying22 (oE 0 22 v0 rfl rfl);have k0:=h0;have Ny:∀x∈p0,x.block<W.heap.size:=by obtain⟨m,hm⟩:=k0;exact DataW.trod_lt m _ _ _ hm
 obtain⟨z0,w0⟩:∃zs,E5 .u8 W a0 Br Bs zs:=by
  obtain⟨fuel,hf⟩:=h0;rcases open_ints Tryd.underlying22 Tryd.underlying5 (by kernel_rfl) hf with⟨wq,_⟩ | ⟨x,l,c,zs,wq,_,hl,hm,hz,_,aK,hwz⟩
  ·simp [Value.cells]at wq;obtain⟨rfl,rfl,rfl⟩:=wq;exact⟨[],.inl ⟨rfl,rfl,rfl,rfl⟩⟩
  ·simp [Value.cells]at wq;obtain⟨rfl,rfl,rfl⟩:=wq;exact⟨zs,.inr ⟨_,rfl,hl,hm,by simpa using hz,aK,hwz⟩⟩
 clear PU E6;refine(walk a0 Br Bs z0 W w0 (DL hL LJ)).mono λe W' ⟨he,PW⟩=>?_;subst he;exact⟨_,rfl,_,_,_,[],_,[],QT,trodAll_mk1 (shut_bool Tryd.underlying4 _),(trodAll_cons_mk (Below.trod laidOut (by kernel_rfl) (of_decide_eq_true (by kernel_rfl)) k0 PW Ny) trodAll_mk0),rfl,PW.frame _,λh=>by cases h⟩
theorem over:Rows.FnPathsSaid:=
 OpenClaim.holds_of_wide 3 Tryd.f3 rfl rfl rfl rfl rfl rfl rfl ⟨rfl,rfl,rfl,rfl,rfl⟩ rfl rfl rfl rfl rfl (by kernel_rfl) Tryd.func3 (by kernel_rfl)
  (of_decide_eq_true (by kernel_rfl)) (by unfold Func.isWrapper;first | (rw[if_pos (by decide +kernel)];kernel_rfl) | (rw[if_neg (by decide +kernel)];exact⟨rfl,rfl⟩))
  (λos started H enc _=>lifted os started H enc)
theorem proved:Rows.FnPathsCardSaid:=
 Claim7.holds_tied_plain_at .later [] [.data,.data,.data,.sentinel,.sentinel] true (true, "a1cdd1864ed6506b7ab611904b59c0ca44c1cd86e1cd0a6a43d9599a0b1b39a8") true
  over (λ_ h=>by cases h) (by kernel_rfl) (λ_ h=>by cases h) fnPaths_row_tie rfl ⟨rfl,rfl⟩ (by kernel_rfl) rfl
  (λf fn hf DM=>by
   obtain rfl:f=3:=Option.some.inj ((show Tryd.prog.funcNamed "loop.example/g03011/laws.FnPaths" =some 3 by kernel_rfl).symm.trans hf) |>.symm;obtain rfl:fn=Tryd.f3:=(Option.some.inj (Tryd.func3.symm.trans DM)).symm
   exact⟨by kernel_rfl,λj t ht=>by
    rw[Tryd.params3]at ht
    have h9:t=22:=by
     rcases j with _ | j
     ·simpa using ht.symm
     ·simp at ht
    subst h9;exact(show Tryd.prog.wantsStandIn 22=false by kernel_rfl)⟩)
  (by kernel_rfl)
end Go.Proofs.YtmkelbnaodipcaaDoor.fnPaths
