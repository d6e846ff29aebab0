/- Texts of the proof, joined and shortened. -/
import Derived.Test.YtdjleldpjijnpaaGreatDoorPk9
import Derived.Lib.AtoiTie
set_option linter.unusedVariables false
set_option linter.unusedSimpArgs false
set_option maxRecDepth 100000
namespace Go.Am
open Go Go.RowKit Go.Proofs
def fR (c:aE) (a:List ar) (b:Int):Option ((List ar)):=if b<(a.length:Int)then idx c.aK b>>=λd=>hC d>>=λe=>idx a b>>=λf=>fR c (a.set b.toNat e) (av (b+1))else some a partial_fixpoint
def ow (a:aE):Option (aE):=qe a>>=λb=>mK a>>=λc=>if c then(fR a b.aK 0:Option ((List ar)))>>=λd=>some (aE.mk d b.aH)else some b
theorem FA {c:aE} {r:aE} (h:ow c=some r):ACall Tryz.prog 5 [.agg c.lit] [] (λres h=>res=.agg r.lit/\h=[]):=by
 refine bE Tryz.func5 ?_;unfold ow at h;refine .d (.d ⟨rfl,_,rfl,(bk h λb n h=>(Bz (HV n) (.agg [.own 2 0 0 b.aK.length,sl 4 aq.cells b.aH]) [.row 0 2 1 30 (λ_=>c.lit),.row 0 2 1 30 (λ_=>[.az,.az]),.row 0 6 b.aK.length 43 (row ar.cells b.aK)] ⟨rfl,_,_,rfl,aG,(.d (.d ⟨rfl,_,rfl,(bk h λz p h=>(aT (Dt p) (fG h (λq h=>?_) (λq h=>?_))))⟩))⟩))⟩);refine .d ⟨rfl,_,rfl,rfl,_,_,rfl,aG,?_⟩;obtain rfl:=si h;exact⟨rfl,_,rfl,(en [] ⟨rfl,rfl⟩ (.cN ⟨.r,.l,⟨⟩⟩) ⟨⟩)⟩;obtain⟨f,h,C9⟩:=bd h;refine .cut (λσ η=>∃e,e=f/\σ=[(2,.aF 0 0 0 0),(3,.aF 1 0 0 0)]/\η=[.row 0 2 1 30 (λ_=>[.az,.az]),.row 0 2 1 30 (λ_=>[.own 2 0 0 e.length,sl 4 aq.cells b.aH]),.row 0 6 e.length 43 (row ar.cells e)]) ?_ ?_;refine .d ?_;refine le (fR.partial_correctness c (motive:=λa g j=>f=j->aA _ _ [(1,.aF 0 0 0 0),(2,.aF 1 0 0 0),(3,.aF 2 0 0 0),(4,pI g)] [.row 0 2 1 30 (λ_=>c.lit),.row 0 2 1 30 (λ_=>[.az,.az]),.row 0 2 1 30 (λ_=>[.own 3 0 0 a.length,sl 4 aq.cells b.aH]),.row 0 6 a.length 43 (row ar.cells a)]) ?_ b.aK 0 f h rfl) (tk [0,1,3,2] C5 ⟨(j6 rfl),(nb rfl ⟨.az,.az,⟨⟩⟩),(nb rfl ⟨.o,.l,⟨⟩⟩),nw,⟨⟩⟩);intro s t a g j h u;subst u;refine aA.round (.d (.d ⟨rfl,rfl,_,rfl,rfl,(sD h (λv h=>?_) (λv h=>?_))⟩));refine .d (.float [(0,true),(1,true),(2,true),(3,true),(4,true),(5,true),(6,true),(7,true),(8,false),(9,true),(10,false)] alZ ?_);exact⟨rfl,rfl,_,rfl,rfl,rfl,_,rfl,(bk h λw k h=>⟨aB k,_,(ax k).trans (ar.aj w),(bk h λm x h=>(aT (zy x) ⟨rfl,rfl,(bk h λy i h=>⟨rfl,aB i,_,ahx _,rfl,_,row ar.cells (a.set g.toNat m),((ax i).trans (ar.aj y)),ka (dO i) (ar.aj m) ⟨.same _,.same _,.same _,.same _,.same _,.same _,trivial⟩,(lg (t _ _ _ h rfl) (tk [0,1,2,3] C5 ⟨(j6 rfl),(nb rfl ⟨.az,.az,⟨⟩⟩),(nb rfl ⟨(.ox ln),.l,⟨⟩⟩),(UN rfl ln),⟨⟩⟩))⟩)⟩))⟩)⟩;exact ct ⟨_,si h,rfl,rfl⟩ (tk [1,2,3] oR ⟨(nb rfl ⟨.az,.az,⟨⟩⟩),(nb rfl ⟨.o,.l,⟨⟩⟩),nw,⟨⟩⟩);rintro _ _ ⟨e,rfl,rfl,rfl⟩;replace h:=C9;refine .d ⟨rfl,_,rfl,rfl,_,_,rfl,aG,?_⟩;obtain rfl:=si h;exact⟨rfl,_,rfl,(en [] ⟨rfl,rfl⟩ (.cN ⟨.r,.l,⟨⟩⟩) ⟨⟩)⟩
def fU (c:aE) (f:List ar) (a:List aq) (d:List ar) (b:Int):Option ty3:=if b<(c.aK.length:Int)then idx c.aK b>>=λg=>eT g>>=λe=>idx d b>>=λh=>fU c f a (d.set b.toNat e) (av (b+1))else some (f,a,d) partial_fixpoint
def lR (a:aE):Option (aE):=kx a>>=λb=>(mL a>>=λc=>(if c then fU a ([]:List ar) ([]:List aq) b.aK 0 else some (([]:List ar),([]:List aq),b.aK)):Option ty3)>>=λ(f,d,e)=>some (aE.mk e b.aH)
theorem yd {m:aE} {r:aE} (h:lR m=some r):Yx 7 m r:=by
 refine bE Tryz.func7 ?_;unfold lR at h;refine .d (.d ⟨rfl,_,rfl,(bk h λb I h=>(xP (A5 I) ?_))⟩);rintro _ _ ⟨f3,f5,d4,d6,rfl,rfl⟩;refine⟨.agg [.own 2 0 0 b.aK.length,.own 3 0 0 b.aH.length],[.row 0 2 1 30 (λ_=>m.lit),.row 0 2 1 30 (λ_=>[.az,.az]),.row 0 6 b.aK.length 43 f3,.row 0 4 b.aH.length 65 f5],rfl,(by simp only[ahE,ahR,shr,Fp d4,Fp d6];rfl),rfl,_,_,rfl,aG,?_⟩;obtain⟨w,h,J⟩:=bd h;refine .cut (λσ η=>∃n,∃f,∃y,∃z:Nat->List PV,∃f11:Nat->List PV,∃j:Nat->List PV,DR ar.D n.length z n/\DR aq.D f.length f11 f/\DR ar.D b.aK.length j y/\(n,f,y)=w/\σ=[(2,.aF 0 0 0 0),(3,.aF 3 0 0 0)]/\η=[.row 0 2 1 30 (λ_=>[.own 1 0 0 n.length,.own 2 0 0 f.length]),.row 0 6 n.length 43 z,.row 0 4 f.length 65 f11,.row 0 2 1 30 (λ_=>[.own 4 0 0 b.aK.length,.own 5 0 0 b.aH.length]),.row 0 6 b.aK.length 43 j,.row 0 4 b.aH.length 65 f5]) ?_ ?_;refine .d ⟨rfl,_,rfl,(bk h λU K h=>(aT (Du K) (sV h (λL h=>?_) (λL h=>?_))))⟩;refine .d ⟨rfl,rfl,_,rfl,?_⟩;refine le (fU.partial_correctness m ([]:List ar) ([]:List aq) (motive:=λA k o=>∀g:Nat->List PV,∀i:Nat->List PV,∀e:Nat->List PV,DR ar.D ([]:List ar).length g ([]:List ar)->DR aq.D ([]:List aq).length i ([]:List aq)->DR ar.D b.aK.length e A->w=o->aA _ _ [(2,.aF 0 0 0 0),(3,.aF 3 0 0 0),(11,sl 6 ar.cells m.aK),(12,pI (m.aK.length:Int)),(13,pI k)] [.row 0 2 1 30 (λ_=>[.own 1 0 0 ([]:List ar).length,.own 2 0 0 ([]:List aq).length]),.row 0 6 ([]:List ar).length 43 g,.row 0 4 ([]:List aq).length 65 i,.row 0 2 1 30 (λ_=>[.own 4 0 0 b.aK.length,.own 5 0 0 b.aH.length]),.row 0 6 b.aK.length 43 e,.row 0 4 b.aH.length 65 f5]) ?_ b.aK 0 w h (λ_=>[]) (λ_=>[]) f3 ((DR.nil (D:=ar.D)).self) ((DR.nil (D:=aq.D)).self) d4 rfl) (tk [1,6,7,4,2,3] Hv abK);intro M N A k o h g i e p q c B;subst B;refine aA.round (.d (.d (sD h (λO h=>?_) (λO h=>?_))));refine .d (.d (bk h λG H h=>⟨aB H,_,(ax H).trans (ar.aj G),rfl,_,_,rfl,aG,(.float [(0,true),(1,true),(2,true),(3,true),(4,false),(5,true),(6,false)] alZ ?_)⟩));refine⟨rfl,rfl,_,rfl,rfl,_,rfl,(bk h λa P h=>(Bz (zA P) (.agg [.str a.ay,.own 7 0 0 a.ao.length,.own 8 0 0 a.aI.length,.own 9 0 0 a.au.length,.bool a.bG,.own 10 0 0 a.ah.length]) [.row 0 2 1 30 (λ_=>[.own 1 0 0 ([]:List ar).length,.own 2 0 0 ([]:List aq).length]),.row 0 6 ([]:List ar).length 43 g,.row 0 4 ([]:List aq).length 65 i,.row 0 2 1 30 (λ_=>[.own 4 0 0 b.aK.length,.own 5 0 0 b.aH.length]),.row 0 6 b.aK.length 43 e,.row 0 4 b.aH.length 65 f5,.row 0 6 1 43 (λ_=>G.lit),.row 0 2 a.ao.length 119 (row TParam.cells a.ao),.row 0 2 a.aI.length 119 (row TParam.cells a.aI),.row 0 1 a.au.length 9 (row cS a.au),.row 0 5 a.ah.length 102 (row ak.cells a.ah)] ⟨rfl,rfl,(bk h λV l h=>?_)⟩))⟩;obtain⟨Q,R,S,T,C⟩:=ar.tV (DR.idx c l);refine⟨rfl,DR.bd c l,_,ahx _,rfl,_,(bP e k.toNat [.str a.ay,.own 7 0 0 a.ao.length,.own 8 0 0 a.aI.length,.own 9 0 0 a.au.length,.bool a.bG,.own 10 0 0 a.ah.length]),C,pd ⟨.same _,.same _,.same _,.same _,.same _,.same _,trivial⟩,(.ab 4 k.toNat 1 7 _ (λ_=>AI (DR.lt c l) nU) λs=>(.ab 4 k.toNat 2 8 _ (λ_=>AI (DR.lt c l) nU) λt=>(.ab 4 k.toNat 3 9 _ (λ_=>AI (DR.lt c l) nU) λu=>(.ab 4 k.toNat 5 10 _ (λ_=>AI (DR.lt c l) nU) λv=>?_))))⟩;have E:DR ar.D b.aK.length (bP e k.toNat [.str a.ay,.bu 2 a.ao.length 119 (row TParam.cells a.ao) s,.bu 2 a.aI.length 119 (row TParam.cells a.aI) t,.bu 1 a.au.length 9 (row cS a.au) u,.bool a.bG,.bu 5 a.ah.length 102 (row ak.cells a.ah) v]) (A.set k.toNat a):=DR.set c (dO l) (ar.tw (x:=a) rfl rfl rfl rfl:ar.D [.str a.ay,.bu 2 a.ao.length 119 (row TParam.cells a.ao) s,.bu 2 a.aI.length 119 (row TParam.cells a.aI) t,.bu 1 a.au.length 9 (row cS a.au) u,.bool a.bG,.bu 5 a.ah.length 102 (row ak.cells a.ah) v] a);exact lg (N _ _ _ h g i _ p q E rfl) (tk [0,1,2,3,4,5] Hv Pf);exact ct ⟨_,_,_,g,i,e,p,q,c,si h,rfl,rfl⟩ (tk [0,1,2,3,4,5] oR Pf);exact ct ⟨_,_,_,_,_,f3,(DR.nil (D:=ar.D)).self,(DR.nil (D:=aq.D)).self,d4,si h,rfl,rfl⟩ (tk [1,6,7,4,2,3] oR abK);rintro _ _ ⟨n,f,y,z,f11,j,W,d12,F,rfl,rfl,rfl⟩;replace h:=J;refine .d ⟨rfl,_,rfl,rfl,_,_,rfl,aG,?_⟩;obtain rfl:=si h;exact⟨rfl,_,rfl,(en [4,5] ⟨j,f5,F.self,d6.self,rfl,rfl⟩ (.cN ⟨.oe,.oe,⟨⟩⟩) ⟨vW,vW,⟨⟩⟩)⟩
set_option maxRecDepth 100000
def jB (a:aE):Option (Bool):=mz a 1048576>>=λp=>if p<0 then some true else(dM a>>=λq=>ow q>>=λb=>some (b.aK,b.aH):Option ((List ar)×(List aq)))>>=λ(e,f)=>dM a>>=λg=>lR g>>=λh=>((gA h (aE.mk e f)>>=λi=>(if i then some (.inl ())else some (.inr false)):Option eh)>>=λs=>match s with | .inr r=>some r | .inl _=>dM a>>=λj=>gA g j>>=λt=>if t then ep g 1>>=λ(u,v)=>(((if u<0 then some (.inr false)else gA h (aE.mk e f)>>=λw=>if w then some (.inl ())else some (.inr false)):Option eh)>>=λx=>match x with | .inr r=>some r | .inl _=>ep h 1>>=λ(c,d)=>fQ d 1>>=λn=>(((if n<0 then some (.inr false)else some (.inl ())):Option eh)>>=λk=>match k with | .inr r=>some r | .inl _=>if n=c then dM a>>=λy=>lR y>>=λz=>((gA z (aE.mk e f)>>=λl=>(if l then some (.inl ())else some (.inr false)):Option eh)>>=λm=>match m with | .inr r=>some r | .inl _=>fQ d 1>>=λo=>if o<0 then some false else if o=c then some true else some false)else some false))else some false)
theorem wh {n:aE} {r:Bool} (h:jB n=some r):Yw 3 n r:=by
 refine bE Tryz.func3 ?_;unfold jB at h;refine .d (.d (.d ⟨rfl,_,rfl,(bk h λv1 L h=>(aT (Dc L) (.d (.d (sD h (λM h=>?_) (λM h=>?_))))))⟩));exact alb;obtain⟨N,h,UU⟩:=bd h;refine .cut (λσ η=>∃o,∃q,(o,q)=N/\σ=[(1,.aF 0 0 0 0),(4,.aF 1 0 0 0)]/\η=[.row 0 2 1 25 (λ_=>n.lit),.row 0 2 1 30 (λ_=>[sl 6 ar.cells o,sl 4 aq.cells q])]) ?_ ?_;exact⟨rfl,_,rfl,(bk h λv9 O h=>(aT (rm O) (bk h λP Q h=>(aT (FA Q) ⟨rfl,_,_,rfl,aG,(ct ⟨_,_,si h,rfl,rfl⟩ (tk [0,1] oR pJ))⟩))))⟩;rintro _ _ ⟨o,q,rfl,rfl,rfl⟩;refine .d ⟨rfl,_,rfl,(bk UU λj R h=>(xP (Ch R) ?_))⟩;rintro _ _ ⟨v,w,k,m,rfl,rfl⟩;refine⟨.agg [.own 2 0 0 j.aK.length,.own 3 0 0 j.aH.length],[.row 0 2 1 25 (λ_=>n.lit),.row 0 2 1 30 (λ_=>[sl 6 ar.cells o,sl 4 aq.cells q]),.row 0 6 j.aK.length 43 v,.row 0 4 j.aH.length 65 w],rfl,(by simp only[ahE,ahR,shr,Fp k,Fp m];rfl),rfl,_,_,rfl,aG,(.d ⟨rfl,_,rfl,(bk h λa S h=>(abT (yd S) ⟨.cN ⟨(.rd k),(.rd m),⟨⟩⟩,⟨⟩⟩ (by rintro _ _ ⟨s,u,b,c,rfl,rfl⟩;exact⟨rfl,(Ou b.flp (Ou c.flp YZ))⟩) ?_))⟩)⟩;rintro _ _ ⟨s,u,b,c,rfl,rfl⟩;refine⟨.agg [.own 5 0 0 a.aK.length,.own 6 0 0 a.aH.length],[.row 0 2 1 25 (λ_=>n.lit),.row 0 2 1 30 (λ_=>[sl 6 ar.cells o,sl 4 aq.cells q]),.row 0 6 j.aK.length 43 v,.row 0 4 j.aH.length 65 w,.row 0 2 1 30 (λ_=>[.own 2 0 0 j.aK.length,.own 3 0 0 j.aH.length]),.row 0 6 a.aK.length 43 s,.row 0 4 a.aH.length 65 u],rfl,(by simp only[ahE,ahR,shr,Fp b,Fp c];rfl),rfl,_,_,rfl,aG,?_⟩;obtain⟨T,h,Ct⟩:=bd h;refine .cut (λσ η=>.inl ()=T/\σ=[(1,.aF 0 0 0 0),(4,.aF 1 0 0 0),(5,.aF 2 0 0 0),(6,.aF 5 0 0 0)]/\η=[.row 0 2 1 25 (λ_=>n.lit),.row 0 2 1 30 (λ_=>[sl 6 ar.cells o,sl 4 aq.cells q]),.row 0 2 1 30 (λ_=>[.own 3 0 0 j.aK.length,.own 4 0 0 j.aH.length]),.row 0 6 j.aK.length 43 v,.row 0 4 j.aH.length 65 w,.row 0 2 1 30 (λ_=>[.own 6 0 0 a.aK.length,.own 7 0 0 a.aH.length]),.row 0 6 a.aK.length 43 s,.row 0 4 a.aH.length 65 u]) ?_ ?_;refine .d ⟨rfl,_,rfl,rfl,_,rfl,(bk h λU V h=>(Y0 (n8 V) ⟨.cN ⟨(.rd b),(.rd c),⟨⟩⟩,.cN ⟨.l,.l,⟨⟩⟩,⟨⟩⟩ (fG h (λW h=>?_) (λW h=>?_))))⟩;refine .d ?_;obtain rfl:=si h;exact eB Ct;exact ct ⟨si h,rfl,rfl⟩ (tk [0,1,4,2,3,7,5,6] ⟨.p,.p,.p,.p,⟨⟩⟩ ⟨(j6 rfl),(j6 rfl),(nb rfl ⟨.oe,.oe,⟨⟩⟩),vW,vW,(nb rfl ⟨.oe,.oe,⟨⟩⟩),vW,vW,⟨⟩⟩);rintro _ _ ⟨rfl,rfl,rfl⟩;replace h:=Ct;refine .d (.d (.float [(0,true),(1,true),(2,false),(3,false),(4,true)] alZ ?_));refine⟨rfl,_,rfl,rfl,_,rfl,(bk h λX Y h=>(aT (rm Y) ⟨rfl,(bk h λBB Z h=>(Y0 (n8 Z) ⟨.cN ⟨(.rd k),(.rd m),⟨⟩⟩,.cN ⟨.l,.l,⟨⟩⟩,⟨⟩⟩ (fG h (λMy h=>?_) (λMy h=>?_))))⟩))⟩;exact alb;refine .d (.d ⟨rfl,_,rfl,?_⟩);obtain⟨⟨Pq,aa⟩,HW,h⟩:=bd h;refine abU (tY (aL:=0) (oh:=0) HW k m) [3,4] ⟨(Ot k),(Ot m),⟨⟩⟩ ?_;rintro _ _ ⟨ad,ag,ai,an,rfl,rfl⟩;refine nx ?_;obtain⟨Vu,h,E⟩:=bd h;refine .cut (λσ η=>.inl ()=Vu/\σ=[(1,.aF 0 0 0 0),(4,.aF 1 0 0 0),(6,.aF 2 0 0 0)]/\η=[.row 0 2 1 25 (λ_=>n.lit),.row 0 2 1 30 (λ_=>[sl 6 ar.cells o,sl 4 aq.cells q]),.row 0 2 1 30 (λ_=>[.own 3 0 0 a.aK.length,.own 4 0 0 a.aH.length]),.row 0 6 a.aK.length 43 s,.row 0 4 a.aH.length 65 u]) ?_ ?_;refine .d (sD h (λHX h=>?_) (λHX h=>?_));refine .t (.t (.t (.t (.t (.d ?_)))));obtain rfl:=si h;exact eB E;refine⟨rfl,_,rfl,(.f ⟨rfl,_,rfl,(.f (bk h λRF ME h=>(Y0 (n8 ME) ⟨.cN ⟨(.rd b),(.rd c),⟨⟩⟩,.cN ⟨.l,.l,⟨⟩⟩,⟨⟩⟩ (.f (.f (fG h (λA6 h=>?_) (λA6 h=>?_)))))))⟩)⟩;refine .d ?_;obtain rfl:=si h;exact eB E;exact ct ⟨si h,rfl,rfl⟩ (tk [0,1,5,6,7] ⟨.p,.p,.p,⟨⟩⟩ ⟨(j6 rfl),(j6 rfl),(nb rfl ⟨.oe,.oe,⟨⟩⟩),vW,vW,⟨⟩⟩);rintro _ _ ⟨rfl,rfl,rfl⟩;replace h:=E;refine .d (.d ⟨rfl,_,rfl,?_⟩);obtain⟨⟨z,aY⟩,MG,h⟩:=bd h;refine abU (tY (aL:=0) (oh:=0) MG b c) [3,4] ⟨(Ot b),(Ot c),⟨⟩⟩ ?_;rintro _ _ ⟨x,y,e,g,rfl,rfl⟩;refine nx ?_;refine .d (.d ⟨rfl,_,rfl,(bk h λJ7 RH h=>(Y0 (tZ RH) ⟨.cN ⟨(.rd e (by first | rfl | exact e.len | exact e.len.symm)),(.rd g (by first | rfl | exact g.len | exact g.len.symm)),⟨⟩⟩,.i,⟨⟩⟩ ?_))⟩);obtain⟨F,h,A⟩:=bd h;refine .cut (λσ η=>.inl ()=F/\σ=[(1,.aF 0 0 0 0),(4,.aF 1 0 0 0),(6,.aF 2 0 0 0),(8,pI z),(9,pI J7)]/\η=[.row 0 2 1 25 (λ_=>n.lit),.row 0 2 1 30 (λ_=>[sl 6 ar.cells o,sl 4 aq.cells q]),.row 0 2 1 30 (λ_=>[.own 3 0 0 a.aK.length,.own 4 0 0 a.aH.length]),.row 0 6 a.aK.length 43 x,.row 0 4 a.aH.length 65 y]) ?_ ?_;refine .d (sD h (λRI h=>?_) (λRI h=>?_));refine .d ?_;obtain rfl:=si h;exact eB A;exact ct ⟨si h,rfl,rfl⟩ (tk [0,1,2,3,4] ⟨.p,.p,.p,.i,.i,⟨⟩⟩ ⟨(j6 rfl),(j6 rfl),(nb rfl ⟨.oe,.oe,⟨⟩⟩),vW,vW,⟨⟩⟩);rintro _ _ ⟨rfl,rfl,rfl⟩;replace h:=A;refine .d (.d (sN h (λRJ h=>?_) (λRJ h=>?_)));exact alb;refine .d ⟨rfl,_,rfl,(bk h λGq Y2 h=>(aT (rm Y2) (bk h λD RL h=>(xP (yd RL) ?_))))⟩;rintro _ _ ⟨G,H,B,C,rfl,rfl⟩;refine⟨.agg [.own 5 0 0 D.aK.length,.own 6 0 0 D.aH.length],[.row 0 2 1 25 (λ_=>n.lit),.row 0 2 1 30 (λ_=>[sl 6 ar.cells o,sl 4 aq.cells q]),.row 0 2 1 30 (λ_=>[.own 3 0 0 a.aK.length,.own 4 0 0 a.aH.length]),.row 0 6 a.aK.length 43 x,.row 0 4 a.aH.length 65 y,.row 0 6 D.aK.length 43 G,.row 0 4 D.aH.length 65 H],rfl,(by simp only[ahE,ahR,shr,Fp B,Fp C];rfl),rfl,_,_,rfl,aG,?_⟩;obtain⟨I,h,K⟩:=bd h;refine .cut (λσ η=>.inl ()=I/\σ=[(6,.aF 0 0 0 0),(8,pI z)]/\η=[.row 0 2 1 30 (λ_=>[.own 1 0 0 a.aK.length,.own 2 0 0 a.aH.length]),.row 0 6 a.aK.length 43 x,.row 0 4 a.aH.length 65 y]) ?_ ?_;refine .d ⟨rfl,_,rfl,rfl,_,rfl,(bk h λa1 RM h=>(Y0 (n8 RM) ⟨.cN ⟨(.rd B),(.rd C),⟨⟩⟩,.cN ⟨.l,.l,⟨⟩⟩,⟨⟩⟩ (fG h (λMH h=>?_) (λMH h=>?_))))⟩;refine .d ?_;obtain rfl:=si h;exact eB K;exact ct ⟨si h,rfl,rfl⟩ (tk [2,3,4] Cd ⟨(nb rfl ⟨.oe,.oe,⟨⟩⟩),vW,vW,⟨⟩⟩);rintro _ _ ⟨rfl,rfl,rfl⟩;refine .d (.d ⟨rfl,_,rfl,(bk K λMD RN h=>(Y0 (tZ RN) ⟨.cN ⟨(.rd e (by first | rfl | exact e.len | exact e.len.symm)),(.rd g (by first | rfl | exact g.len | exact g.len.symm)),⟨⟩⟩,.i,⟨⟩⟩ (.d (.d (sD h (λY3 h=>?_) (λY3 h=>?_))))))⟩);exact alb;refine .d (.d (sN h (λJ h=>?_) (λJ h=>?_)));exact alb;exact alb
theorem sb {α β:Type} (a:α) (f:α->Option β):(some a>>=f)=f a:=rfl
theorem jN {s:aW} {i:Nat} (h:i<s.length):nL s (i:Int)=some (s.getD i 0):=by
 unfold nL;rw[As ⟨by omega,by omega⟩];rfl
theorem aV {α:Type} [Inhabited α] {l:List α} {i:Nat} (h:i<l.length):idx l (i:Int)=some l[i]:=by
 unfold idx;rw[As ⟨by omega,by omega⟩];simp [ahA,h]
theorem BD {x:Int} {n:Nat} (h:x=(n:Int)) (hn:n<=9223372036854775807):av x=(n:Int):=by
 subst h;exact Cu alV alV
theorem aO {i:Nat} (h:i<9223372036854775807):av ((i:Int)+1)=((i+1:Nat):Int):=BD alV alV
theorem eJ {α:Type} {b:Nat} {l m:List α} (h:(l.length+m.length)*b<=140737488355328):iD b l m=some (l++m):=As h
theorem HY (a b c:Int):sh a b c=some (decide (b<=a/\a<=c)):=by
 unfold sh;by_cases h:a>=b
 ·rw[As h];congr 1;simp;omega
 ·rw[An h];congr 1;symm;rw[aiK];omega
theorem uM:∀(k u:Nat),u<10 ^ (k+1)->Lib.nDigits u<=k+1
 | 0,u,h=>by rw[Lib.nDigits_small amg];exact ahy _
 | k+1,u,h=>by
  by_cases h1:u<10
  ·rw[Lib.nDigits_small h1];omega
  ·rw[Lib.nDigits_big h1];have:=uM k (u / 10) (by rw[Nat.pow_succ]at h;omega);omega
theorem Dv (u:Nat):Lib.decDigits u=(if u / 10=0 then[]else Lib.decDigits (u / 10))++[UInt8.ofNat (48+u % 10)]:=by
 by_cases h:u<10
 ·rw[As alV,Lib.decDigits,dif_pos h,show u % 10=u by omega];rfl
 ·rw[An alV];conv=>lhs;rw[Lib.decDigits,dif_neg h]
theorem RO:∀(k:Nat) (out:aW) (m:Int),m.natAbs<10 ^ k-> -9223372036854775808<=m->m<=9223372036854775807->k+out.length<=1000->
  wi out m=some ((if m=0 then[]else Lib.decDigits m.natAbs)++out)
 | 0,out,m,h,_,_,_=>by
  have:m=0:=by simp at h;exact h
  subst this;rw[wi,As rfl,As rfl];rfl
 | k+1,out,m,h,h0,h1,c=>by
  rw[wi];by_cases hm:m=0
  ·rw[As hm,As hm];rfl
  rw[An hm,An hm];have ab:(m.tmod 10).natAbs=m.natAbs % 10:=Int.natAbs_tmod m 10;have a:(m.tdiv 10).natAbs=m.natAbs / 10:=Int.natAbs_tdiv m 10;have dv:av (m.tdiv 10)=m.tdiv 10:=by rw[av,Cu]<;>omega
  have fin:∀d:Int,d=((m.natAbs % 10:Nat):Int)->UInt8.ofNat (IntKind.u8.wrap (av (48+d))).toNat=UInt8.ofNat (48+m.natAbs % 10):=λd hd=>by
   subst hd;rw[av,Cu alV alV,IntKind.wrap_u8];congr 1;omega
  have next:wi ([UInt8.ofNat (48+m.natAbs % 10)]++out) (av (m.tdiv 10))=some (Lib.decDigits m.natAbs++out):=by
   rw[dv,RO k _ _ (by rw[Nat.pow_succ]at h;omega) alV alV alX,Dv m.natAbs,a,ait];by_cases h:m.tdiv 10=0
   ·rw[As h,As alV]
   ·rw[An h,An alV]
  have hs:∀b:UInt8,uI [b] out=some ([b]++out):=λb=>As alX;by_cases hn:m.tmod 10<0
  ·rw[As hn,hs,sb,fin _ (by rw[av,Cu]<;>omega),next]
  ·rw[An hn,hs,sb,fin _ alV,next]
theorem RP (n:Int) (h0: -9223372036854775808<=n) (h1:n<=9223372036854775807):m94 n=some (Lib.itoa n):=by
 unfold m94;by_cases h:n=0
 ·subst h;rw[As rfl,show Lib.itoa 0=[48] by decide +kernel]
 rw[An h,RO 20 [] n (by simp only[Nat.reducePow];omega) h0 h1 alW,sb,An h,aiL];unfold Lib.itoa;have a:(Lib.decDigits n.natAbs).length<=20:=by rw[Lib.decDigits_length];exact uM 19 _ amd
 by_cases hn:n<0
 ·rw[As hn,As hn,uI,As alX];rfl
 ·rw[An hn,An hn,show n.natAbs=n.toNat by omega]
def abW (s:List UInt8):Option Nat->Option Nat
 | some v=>if v<=1000000000000/\Lib.decDigits v=s then some v else none
 | none=>none
def jq (s:List UInt8):Option Nat:=if 1<=s.length/\s.length<=13 then abW s (Lib.decFrom 0 s)else none
theorem HZ {v:Nat} {c:UInt8} {r:List UInt8} (h:48<=c.toNat/\c.toNat<=57):Lib.decFrom v (c::r)=Lib.decFrom (v*10+(c.toNat - 48)) r:=by
 show(match Lib.digitVal c with | some d=>Lib.decFrom (v*10+d) r | none=>none)=_;rw[Lib.digitVal,As h]
theorem BE {v:Nat} {c:UInt8} {r:List UInt8} (h:¬(48<=c.toNat/\c.toNat<=57)):Lib.decFrom v (c::r)=none:=by
 show(match Lib.digitVal c with | some d=>Lib.decFrom (v*10+d) r | none=>none)=_;rw[Lib.digitVal,An h]
theorem drop_cons {s:aW} {i:Nat} (h:i<s.length):s.drop i=s.getD i 0::s.drop (i+1):=by
 rw[ahY h,ahA];simp [h]
theorem RQ (s:aW) (hs:s.length<=13):∀(n i v:Nat),i<=s.length->s.length - i=n->v<10 ^ i->
  yF s (v:Int) (i:Int)=some (match Lib.decFrom v (s.drop i)with | some u=>.inl (u:Int) | none=>.inr (0,false))
 | 0,i,v,hi,hn,hv=>by
  have e:i=s.length:=by omega
  rw[yF,An alV,e,ajA];rfl
 | n+1,i,v,hi,hn,hv=>by
  have hl:i<s.length:=by omega
  have b:v<10000000000000:=ahS hv (Nat.pow_le_pow_right ama (show i<=13 by omega));have hc:=(s.getD i 0).toNat_lt;rw[yF,As alV,jN hl,sb,HY,sb,av,Cu alV alV,drop_cons hl];by_cases hd:48<=(s.getD i 0).toNat/\(s.getD i 0).toNat<=57
  ·rw[As (by rw[aij];omega),sb,HZ hd];have a:IntKind.u8.wrap (((s.getD i 0).toNat:Int) - 48)=(((s.getD i 0).toNat - 48:Nat):Int):=by rw[IntKind.wrap_u8];omega
   have e2:IntKind.i64.wrap (IntKind.i64.wrap (10*(v:Int))+IntKind.i64.wrap (IntKind.u8.wrap (((s.getD i 0).toNat:Int) - 48)))=((v*10+((s.getD i 0).toNat - 48):Nat):Int):=by
    rw[a,Cu (x:=10*(v:Int)) alV alV,Cu (x:=(((s.getD i 0).toNat - 48:Nat):Int)) alV alV,Cu alV alV];omega
   rw[av,av,av,e2,aO alV,RQ s hs n (i+1) _ alV alV (by rw[Nat.pow_succ];omega)]
  ·rw[An (by rw[aij];omega),BE hd]
def nbW:Option Nat->Int×Bool
 | some v=>((v:Int),true)
 | none=>(0,false)
theorem MI (s:aW):m61 s=some (nbW (jq s)):=by
 unfold m61 jq;rw[HY,sb];by_cases h:1<=s.length/\s.length<=13
 ·rw[As (by rw[aij];omega),As h];have e:=RQ s h.2 s.length 0 0 alV alV alW;rw[aib]at e;replace e:yF s 0 0=_:=e;rw[e,sb];cases hd:Lib.decFrom 0 s with
  | none=>rfl
  | some u=>
   show(if(u:Int)>1000000000000 then some (0,false)else _)=some (nbW (if u<=1000000000000/\Lib.decDigits u=s then some u else none));by_cases h1:(u:Int)>1000000000000
   ·rw[As h1,An alV];rfl
   ·rw[An h1,RP _ alV alV,sb,Lib.itoa_nonneg];by_cases h2:Lib.decDigits u=s
    ·rw[As h2,As ⟨by omega,h2⟩];rfl
    ·rw[An h2,An (λh=>h2 h.2)];rfl
 ·rw[An (by rw[aij];omega),An h];rfl
def MJ:Option Nat->Option Int
 | some v=>if v<=1000000000 then some (v:Int)else none
 | none=>none
def MK:Option Nat->Option Int
 | some v=>if v<=1000000000/\v≠0 then some (-(v:Int))else none
 | none=>none
def sp (s:aW):Option Int:=if s.head? =some 45 then MK (jq s.tail)else MJ (jq s)
def nbi:Option Int->Int×Bool
 | some v=>(v,true)
 | none=>(0,false)
theorem Y4 (s:aW):m54 s=some (nbi (sp s)):=by
 unfold m54 sp;cases s with
 | nil=>rw[An alW,sb,An ama,sb,MI,sb];rfl
 | cons c r=>
  have b:nL (c::r) 0=some c:=jN (s:=c::r) (i:=0) alW;rw[As alW,b,sb,sb];by_cases h:c=45
  ·subst h;rw[As ama,As (show(45::r).head? =some 45 from rfl)];have d:BF (45::r) 1=some r:=by unfold BF;rw[As ⟨by omega,by simp only[ahN];omega⟩];rfl
   rw[d,sb,sb,MI,sb];show(match nbW (jq r)with | (e,f)=>_)=some (nbi (MK (jq r)));cases hp:jq r with
   | none=>rfl
   | some v=>
    show(if(v:Int)>1000000000 then some (0,false)else if(UInt8.toNat 45:Int)==45 then _ else _)=some (nbi (if v<=1000000000/\v≠0 then some (-(v:Int))else none));by_cases h1:(v:Int)>1000000000
    ·rw[As h1,An alV];rfl
    ·rw[An h1,As ama];by_cases h2:(v:Int)=0
     ·rw[As h2,An alV];rfl
     ·rw[An h2,As alV];show some (IntKind.i64.wrap (0 - (v:Int)),true)=some ((-(v:Int)),true);rw[Cu alV alV,Int.zero_sub]
  ·have a:(((c.toNat:Int)==45):Bool)=false:=by
    rw[ajf];intro hc;exact h (UInt8.toNat_inj.1 (show c.toNat=(45:UInt8).toNat by simp;omega))
   rw[An (by rw[a];decide),sb,An amg,MI,sb,a];cases hp:jq (c::r)with
   | none=>rfl
   | some v=>
    show(if(v:Int)>1000000000 then some (0,false)else if(false=true)then _ else _)=some (nbi (if v<=1000000000 then some (v:Int)else none));by_cases h1:(v:Int)>1000000000
    ·rw[As h1,An alV];rfl
    ·rw[An h1,An ama,As alV];rfl
theorem ML {n:Int} (h0: -1000000000<=n) (h1:n<=1000000000):(Lib.itoa n).length<=11:=by
 unfold Lib.itoa;split
 ·simp only[ahN];rw[Lib.decDigits_length];have:=uM 9 n.natAbs amd;omega
 ·rw[Lib.decDigits_length];have:=uM 9 n.toNat amd;omega
theorem BG {n:Int} (h0:0<=n) (h1:n<=1000000000):(Lib.decDigits n.toNat).length<=10:=by
 rw[Lib.decDigits_length];exact uM 9 n.toNat amd
def keep (s:aW) (o:Option Int):Option Int:=match o with | some n=>if Lib.itoa n=s/\(-1000000000:Int)<=n/\n<=1000000000 then some n else none | none=>none
theorem RR (s:aW) (hl:s.length<=18):pw s (-1000000000) 1000000000=keep s (Lib.atoi s):=by
 unfold pw keep;rw[An alV,Lib.atoiAll_short s hl];cases Lib.atoi s<;>rfl
theorem Vw (s:aW) (hl:11<s.length):pw s (-1000000000) 1000000000=none:=by
 unfold pw;split
 ·rfl
 ·split
  ·rw[An];intro h;have:=ML h.2.1 h.2.2;rw[h.1]at this;omega
  ·rfl
theorem MM (s:aW) (hl:11<s.length):MJ (jq s)=none:=by
 unfold jq;split
 ·cases Lib.decFrom 0 s with
  | none=>rfl
  | some v=>
   show MJ (if v<=1000000000000/\Lib.decDigits v=s then some v else none)=none;by_cases h:v<=1000000000000/\Lib.decDigits v=s
   ·rw[As h];show(if v<=1000000000 then some (v:Int)else none)=none;rw[An];intro hv;have:=BG (n:=(v:Int)) alV alV;rw[ahF,h.2]at this;omega
   ·rw[An h];rfl
 ·rfl
theorem J8 (s:aW) (hl:10<s.length):MK (jq s)=none:=by
 unfold jq;split
 ·cases Lib.decFrom 0 s with
  | none=>rfl
  | some v=>
   show MK (if v<=1000000000000/\Lib.decDigits v=s then some v else none)=none;by_cases h:v<=1000000000000/\Lib.decDigits v=s
   ·rw[As h];show(if v<=1000000000/\v≠0 then some (-(v:Int))else none)=none;rw[An];intro hv;have:=BG (n:=(v:Int)) alV alV;rw[ahF,h.2]at this;omega
   ·rw[An h];rfl
 ·rfl
theorem Vx (c:UInt8) (r:aW) (hl:(c::r).length<=11) (b:c≠45) (a:c≠43):keep (c::r) (Lib.atoi (c::r))=MJ (jq (c::r)):=by
 have d:Lib.atoi (c::r)=(Lib.decFrom 0 (c::r)).map λ(m:Nat)=>(m:Int):=by
  show(if c==45 then _ else if c==43 then _ else(Lib.decNat (c::r)).map λ(m:Nat)=>(m:Int))=_;rw[An (by simpa using b),An (by simpa using a)];rfl
 have e:jq (c::r)=abW (c::r) (Lib.decFrom 0 (c::r)):=by unfold jq;rw[As ⟨by simp,by omega⟩]
 rw[d,e];cases hd:Lib.decFrom 0 (c::r)with
 | none=>rfl
 | some v=>
  show(if Lib.itoa (v:Int)=c::r/\(-1000000000:Int)<=v/\(v:Int)<=1000000000 then some (v:Int)else none)=MJ (if v<=1000000000000/\Lib.decDigits v=c::r then some v else none);rw[Lib.itoa_nonneg];by_cases h2:Lib.decDigits v=c::r
  ·by_cases h3:v<=1000000000
   ·rw[As ⟨h2,by omega,by omega⟩,As ⟨by omega,h2⟩];show _=if v<=1000000000 then some (v:Int)else none
    rw[As h3]
   ·rw[An (λh=>h3 (by have:=h.2.2;omega))];by_cases h4:v<=1000000000000
    ·rw[As ⟨h4,h2⟩];show _=if v<=1000000000 then some (v:Int)else none
     rw[An h3]
    ·rw[An (λh=>h4 h.1)];rfl
  ·rw[An (λh=>h2 h.1),An (λh=>h2 h.2)];rfl
theorem J9 (u:Nat):∀c r,Lib.decDigits u=c::r->48<=c.toNat:=by
 intro c r h;have hm:c∈Lib.decDigits u:=by rw[h];simp
 rw[Lib.decDigits_eq,aif]at hm;obtain⟨t,_,rfl⟩:=hm;unfold Lib.dg;simp;omega
theorem abX (s:aW):pw s (-1000000000) 1000000000=sp s:=by
 by_cases hl:11<s.length
 ·rw[Vw s hl];unfold sp;split
  ·exact(J8 _ alX).symm
  ·exact(MM _ hl).symm
 rw[RR s alV];cases s with
 | nil=>rfl
 | cons c r=>
  unfold sp;by_cases b:c=45
  ·subst b;show keep (45::r) (Lib.atoi (45::r))=if some (45:UInt8)=some 45 then MK (jq r)else MJ (jq (45::r))
   rw[As rfl];show keep (45::r) ((Lib.decNat r).map λ(m:Nat)=> -(m:Int))=MK (jq r);simp only[ahN]at hl;unfold Lib.decNat jq;cases r with
   | nil=>rfl
   | cons d r=>
    rw[An alW,As ⟨by simp,by omega⟩];cases hd:Lib.decFrom 0 (d::r)with
    | none=>rfl
    | some v=>
     show(if Lib.itoa (-(v:Int))=45::d::r/\(-1000000000:Int)<= -(v:Int)/\ -(v:Int)<=1000000000 then some (-(v:Int))else none)=MK (if v<=1000000000000/\Lib.decDigits v=d::r then some v else none);by_cases h0:v=0
     ·subst h0;rw[An]
      ·by_cases h4:(0<=1000000000000/\Lib.decDigits 0=d::r)
       ·rw[As h4];rfl
       ·rw[An h4];rfl
      ·intro h;have:=h.1;rw[show Lib.itoa (-((0:Nat):Int))=[48] by decide +kernel]at this;simp at this
     ·rw[Lib.itoa_neg v alV];by_cases h2:Lib.decDigits v=d::r
      ·by_cases h3:v<=1000000000
       ·rw[As ⟨by rw[h2],by omega,by omega⟩,As ⟨by omega,h2⟩];show _=if v<=1000000000/\v≠0 then some (-(v:Int))else none
        rw[As ⟨h3,h0⟩]
       ·rw[An (λh=>h3 (by have:=h.2.1;omega))];by_cases h4:v<=1000000000000
        ·rw[As ⟨h4,h2⟩];show _=if v<=1000000000/\v≠0 then some (-(v:Int))else none
         rw[An (λh=>h3 h.1)]
        ·rw[An (λh=>h4 h.1)];rfl
      ·rw[An (λh=>h2 (by simpa using h.1)),An (λh=>h2 h.2)];rfl
  ·rw[An (by simpa using b)];by_cases a:c=43
   ·subst a
    have e:MJ (jq (43::r))=none:=by
     unfold jq;split
     ·rw[BE ama];rfl
     ·rfl
    rw[e];show keep (43::r) ((Lib.decNat r).map λ(m:Nat)=>(m:Int))=none;cases Lib.decNat r with
    | none=>rfl
    | some v=>
     show(if Lib.itoa (v:Int)=43::r/\_ then some (v:Int)else none)=none;rw[An];intro h;have h1:=h.1;rw[Lib.itoa_nonneg]at h1;exact absurd (J9 v _ _ h1) ama
   ·exact Vx c r alV b a
theorem af.eta (e:af):af.mk e.ba e.a8=e:=by cases e;rfl
theorem ae.eta (v:ae):ae.mk v.aJ v.bc v.bq v.bC v.aw=v:=by cases v;rfl
theorem bW.eta (k:bW):bW.mk k.dJ k.bc k.bq=k:=rfl
inductive Sm:ae->Prop
 | mk {k n:Int} {s:aW} {x:Int} {l:List af} (h:l.length<=2000000) (hl:∀e∈l,Sm e.a8):Sm (.mk k n s x l)
theorem Sm.len {v:ae} (h:Sm v):v.aw.length<=2000000:=by cases h;assumption
theorem Sm.of {v:ae} (h:v.aw.length<=2000000) (hl:∀e∈v.aw,Sm e.a8):Sm v:=by
 cases v;exact .mk h hl
def vk (k:bW):Bool:=
 if k.dJ=true then(if k.bc=0 then(if(k.bq.length:Int)<=400 then !(nbi (sp k.bq)).2 else false)else false)
 else(if decide ((-1000000000:Int)<=k.bc/\k.bc<=1000000000)=true then(k.bq==([]:aW))else false)
theorem Y5 (k:bW):m23 k=some (vk k):=by
 unfold m23 vk;split
 ·rw[Y4,sb];show(if k.bc=0 then _ else _)=_;split
  ·split<;>rfl
  ·rfl
 ·rw[HY,sb];split<;>rfl
theorem Y6 (s:aW):m98 s (-1000000000) 1000000000=some (nbi (sp s)):=by
 unfold m98;rw[abX];cases sp s<;>rfl
theorem Y7 (k:bW):m55 k=some (vk k):=by
 unfold m55 vk;split
 ·unfold m69;rw[Y6,sb];show(if k.bc=0 then _ else _)=_;split
  ·split<;>rfl
  ·rfl
 ·split
  ·rename_i h;unfold xp;rw[h];by_cases h1:(-1000000000:Int)<=k.bc
   ·rw[As h1,sb];by_cases h2:k.bc<=1000000000
    ·rw[As alX,ahI h2];rfl
    ·rw[An alX,ahG h2]
   ·rw[An h1,sb,An alX]
  ·rename_i h;split
   ·rw[ajf.2 h]
   ·rfl
def At (l:List af) (k:bW) (r:Int):Prop:=
 (r= -1/\∀e∈l,e.ba≠k)\/∃j,∃h:j<l.length,r=(j:Int)/\l[j].ba=k/\∀i,∀hi:i<j,(l[i]'alV).ba≠k
theorem At.uniq {l:List af} {k:bW} {r:Int} {j:Nat} (h:At l k r) (hj:j<l.length) (he:l[j].ba=k) (hf:∀i,∀hi:i<j,(l[i]'alV).ba≠k):r=(j:Int):=by
 rcases h with⟨_,h⟩ | ⟨i,hi,e,h1,h2⟩
 ·exact absurd he (h _ (ahD hj))
 ·rcases Nat.lt_trichotomy i j with h3 | h3 | h3
  ·exact absurd h1 (hf i h3)
  ·rw[e,h3]
  ·exact absurd he (h2 j h3)
theorem Y8 (v:ae) (k:bW) (b:v.aJ=4) (hl:v.aw.length<=4000000):∀m i:Nat,i<=v.aw.length->v.aw.length - i=m->
  (∀j,∀hj:j<i,∀c:j<v.aw.length,v.aw[j].ba≠k)->∃r,yD v k (i:Int)=some r/\((r=.inl ()/\∀e∈v.aw,e.ba≠k)\/∃q,r=.inr q/\At v.aw k q):=by
 intro m;induction m with
 | zero=>
  intro i h1 h2 h3;rw[yD,As b,An alV];refine⟨_,rfl,.inl ⟨rfl,λe he=>?_⟩⟩;obtain⟨j,hj,rfl⟩:=aiw.1 he;exact h3 j alV hj
 | succ m a=>
  intro i h1 h2 h3;have d:i<v.aw.length:=by omega
  rw[yD,As b,As alV,aV d,sb];by_cases he:v.aw[i].ba=k
  ·rw[As he];exact⟨_,rfl,.inr ⟨_,rfl,.inr ⟨i,d,rfl,he,λj hj=>h3 j hj alV⟩⟩⟩
  ·rw[An he,aO alV];refine a (i+1) alV alV (λj hj c=>?_);rcases aip j i with h4 | h4
   ·exact h3 j h4 c
   ·obtain rfl:j=i:=by omega
    exact he
theorem Y9 (v:ae) (k:bW) (a:v.aJ=4) (hl:v.aw.length<=4000000):∃r,Vs v k=some r/\At v.aw k r:=by
 obtain⟨r,e,h⟩:=Y8 v k a hl v.aw.length 0 alV alV (λj hj=>absurd hj (ahP _));replace e:yD v k 0=some r:=e;unfold Vs;rw[e,sb];rcases h with⟨rfl,h⟩ | ⟨q,rfl,h⟩
 ·exact alS
 ·exact⟨_,rfl,h⟩
theorem RS {l:List af} {k:bW} {i:Nat} (h:At l k (i:Int)) (hi:i<l.length):∀j,∀hj:j<i,(l[j]'alV).ba≠k:=by
 rcases h with⟨h,_⟩ | ⟨j,hj,e,h1,h2⟩
 ·omega
 ·obtain rfl:i=j:=by omega
  exact h2
mutual
def ae.wt:ae->Nat | .mk _ _ _ _ l=>1+af.Dw l
def af.wt:af->Nat | .mk _ v=>v.wt
def af.Dw:List af->Nat | []=>0 | x::r=>x.wt+af.Dw r
end
theorem ae.ub (v:ae):v.wt=1+af.Dw v.aw:=by cases v;simp [ae.wt]
theorem af.ub (e:af):e.wt=e.a8.wt:=by cases e;simp [af.wt]
theorem pf (v:ae):1<=v.wt:=by rw[v.ub];omega
theorem rz (x:af) (r:List af):af.Dw (x::r)=x.a8.wt+af.Dw r:=by rw[<-x.ub];simp [af.Dw]
theorem uN:∀(l:List af) (e:af),e∈l->e.a8.wt<=af.Dw l
 | x::r,e,h=>by
  rw[rz];rcases ahM.1 h with rfl | h
  ·omega
  ·have:=uN r e h;omega
theorem zB:∀l:List af,l.length<=af.Dw l
 | []=>by simp
 | x::r=>by rw[rz];have:=zB r;have:=pf x.a8;simp only[ahN];omega
theorem Dx {v:ae}:v.aw.length<v.wt:=by rw[v.ub];have:=zB v.aw;omega
theorem zC {v:ae} {e:af} (he:e∈v.aw):e.a8.wt<v.wt:=by rw[v.ub];have:=uN _ e he;omega
mutual
def ae.kw:ae->Nat | .mk k _ _ _ l=>if k=4 then 1+af.Jz l else 1
def af.kw:af->Nat | .mk _ v=>v.kw
def af.Jz:List af->Nat | []=>0 | x::r=>x.kw+af.Jz r
end
theorem ae.Dy (v:ae):v.kw=if v.aJ=4 then 1+af.Jz v.aw else 1:=by cases v;unfold ae.kw;rfl
theorem af.Dy (e:af):e.kw=e.a8.kw:=by cases e;simp [af.kw]
theorem H0:af.Jz []=0:=by simp [af.Jz]
theorem Ka (x:af) (r:List af):af.Jz (x::r)=x.a8.kw+af.Jz r:=by rw[<-x.Dy];simp [af.Jz]
theorem RT (n:Nat) (a:∀v:ae,v.wt<=n->v.kw<=v.wt):∀l:List af,af.Dw l<=n->af.Jz l<=af.Dw l
 | [],_=>by rw[H0];omega
 | x::r,h=>by
  rw[rz]at h;rw[Ka,rz];have:=a x.a8 alV;have:=RT n a r alV;omega
theorem Ov:∀(n:Nat) (v:ae),v.wt<=n->v.kw<=v.wt
 | 0,v,h=>by have:=pf v;omega
 | n+1,v,h=>by
  have h':=h;rw[v.ub]at h';rw[v.Dy,v.ub];split
  ·have:=RT n (Ov n) v.aw alV;omega
  ·omega
theorem Xn (v:ae):v.kw<=v.wt:=Ov _ v (ahy _)
theorem Kb {l:List af} {i:Nat} (h:i<l.length):af.Jz (l.drop i)=l[i].a8.kw+af.Jz (l.drop (i+1)):=by rw[ahY h,Ka]
theorem abY {x:Int} {n:Nat} (h:x=(n:Int)) (hn:n<9000000000000000000):av x=(n:Int):=by subst h;rw[av,Cu alV alV]
theorem Gr:∀(n:Nat),n<=2000000->∀v:ae,v.wt<=n->nn v=some (v.kw:Int)
 | 0,_,v,h=>by have:=pf v;omega
 | n+1,hn,v,h=>by
  have hlen:=Dx (v:=v);have b:=Xn v;rw[nn,v.Dy];by_cases a:v.aJ=4
  ·rw[v.Dy,As a]at b
   have go:∀m i:Nat,i<=v.aw.length->v.aw.length - i=m->∀y:Nat,y+af.Jz (v.aw.drop i)=1+af.Jz v.aw->jr v (y:Int) (i:Int)=some ((1+af.Jz v.aw:Nat):Int):=by
    intro m;induction m with
    | zero=>
     intro i h1 h2 y hy;rw[jr,An alV];rw[aji alV,H0]at hy;rw[<-hy];rfl
    | succ m c=>
     intro i h1 h2 y hy;have d:i<v.aw.length:=by omega
     rw[Kb d]at hy;have f:=zC (ahD d);rw[jr,As alV,aV d,sb,Gr n alV _ alV,sb,aO alV,abY (n:=y+v.aw[i].a8.kw) alV alV];exact c (i+1) alV alV _ alV
   have e:=go v.aw.length 0 alV alV 1 alW;replace e:jr v 1 0=some ((1+af.Jz v.aw:Nat):Int):=e;rw[As a,As a,e,sb]
  ·rw[An a,An a,sb];rfl
theorem Kc:∀(n:Nat),n<=2000000->∀v:ae,v.wt<=n->∀q:Int,-2000000<=q->q<=2000000->∃r:Nat,Xo v q=some (r:Int)/\r<=v.kw/\((v.kw:Int)<=q->r=v.kw)/\(q<(v.kw:Int)->q<(r:Int))
 | 0,_,v,h=>by have:=pf v;omega
 | n+1,hn,v,h=>by
  intro q k l;have hlen:=Dx (v:=v);have o:=Xn v;by_cases b:v.aJ=4
  ·have d:v.kw=1+af.Jz v.aw:=by rw[v.Dy,As b]
   have go:∀m i:Nat,i<=v.aw.length->v.aw.length - i=m->∀y:Nat,y+af.Jz (v.aw.drop i)<=v.kw->((y:Int)<=q->y+af.Jz (v.aw.drop i)=v.kw)->
     ∃r:Nat,wj v q (y:Int) (i:Int)=some (r:Int)/\r<=v.kw/\((v.kw:Int)<=q->r=v.kw)/\(q<(v.kw:Int)->q<(r:Int)):=by
    intro m;induction m with
    | zero=>
     intro i h1 h2 y hy a;rw[aji alV,H0]at hy a;rw[wj,As b,An alV];exact⟨y,rfl,by omega,λh=>by omega,λh=>by omega⟩
    | succ m f=>
     intro i h1 h2 y hy a;have j:i<v.aw.length:=by omega
     have p:=zC (ahD j);rw[Kb j]at hy a;rw[wj,As b,As alV];by_cases c:(y:Int)<=q
     ·have s:av (q - (y:Int))=q - y:=by rw[av,Cu alV alV]
      obtain⟨r,e,t,g2,u⟩:=Kc n alV v.aw[i].a8 alV (q - y) alV alV;rw[As c,aV j,sb,s,e,sb,aO alV,abY (n:=y+r) alV alV];exact f (i+1) alV alV _ alV (λh=>by omega)
     ·rw[An c];exact⟨y,rfl,by omega,λh=>by omega,λh=>by omega⟩
   obtain⟨r,e,g⟩:=go v.aw.length 0 alV alV 1 alX (λ_=>by simp;omega);replace e:wj v q 1 0=some (r:Int):=e;rw[Xo,e,sb];exact⟨r,rfl,g⟩
  ·have d:v.kw=1:=by rw[v.Dy,An b]
   rw[Xo,wj,An b,sb];exact⟨1,rfl,by omega,λ_=>by omega,λh=>by omega⟩
mutual
def ae.Kd:ae->Bool
 | .mk k n s x l=>(decide (k=3)||s==[])&&(decide (k=4)||(decide (x=0)&&l.isEmpty))&&
   (if k=0 then n==0 else if k=1 then(decide (n=0)||n==1)else if k=2 then decide (-1000000000<=n/\n<=1000000000)else if k=3 then(decide (n=0)&&decide ((s.length:Int)<=400))
    else if k=6\/k=7\/k=8 then decide (0<=n/\n<=255)else if k=4 then decide (n=0)&&decide (0<=x/\x<=1000000001)&&af.xT l x []else false)
def af.Za:af->Bool | .mk _ v=>v.Kd
def af.xT:List af->Int->List bW->Bool
 | [],_,_=>true
 | e::r,x,seen=>vk e.ba&&(e.ba.dJ||decide (e.ba.bc<x))&&!(decide (e.ba∈seen))&&e.Za&&af.xT r x (seen++[e.ba])
end
theorem Vy (e:af):e.Za=e.a8.Kd:=by cases e;simp [af.Za]
theorem Ke (x:Int) (s:List bW):af.xT [] x s=true:=by simp [af.xT]
theorem Ps (e:af) (r:List af) (x:Int) (s:List bW):af.xT (e::r) x s=(vk e.ba&&(e.ba.dJ||decide (e.ba.bc<x))&&!(decide (e.ba∈s))&&e.a8.Kd&&af.xT r x (s++[e.ba])):=by
 rw[<-Vy];simp [af.xT]
theorem MN (k n:Int) (s:aW) (x:Int) (l:List af):(ae.mk k n s x l).Kd=((decide (k=3)||s==[])&&(decide (k=4)||(decide (x=0)&&l.isEmpty))&&
   (if k=0 then n==0 else if k=1 then(decide (n=0)||n==1)else if k=2 then decide (-1000000000<=n/\n<=1000000000)else if k=3 then(decide (n=0)&&decide ((s.length:Int)<=400))
    else if k=6\/k=7\/k=8 then decide (0<=n/\n<=255)else if k=4 then decide (n=0)&&decide (0<=x/\x<=1000000001)&&af.xT l x []else false)):=by simp [ae.Kd]
theorem xr {κ β:Type} [DecidableEq κ]:∀(l:List (κ×β)) (k:κ) (v:β) (c:κ),ik (eU l k v) c=if c=k then some v else ik l c
 | [],k,v,c=>by
  unfold eU ik;by_cases h:c=k
  ·rw[As h,As h]
  ·rw[An h,An h];rfl
 | (a,b)::r,k,v,c=>by
  unfold eU;by_cases d:k=a
  ·rw[As d];subst d;simp only[ik];by_cases h:c=k
   ·rw[As h,As h]
   ·rw[An h,An h];rw[An h]
  ·rw[An d];simp only[ik,xr r k v c];by_cases h:c=a
   ·rw[As h,As h,An (by rw[h];exactλhe=>d he.symm)]
   ·rw[An h,An h]
theorem Vz {κ β:Type} [DecidableEq κ] (l:List (κ×β)) (k:κ) (v:β) (a:κ) (z:β):qQ (eU l k v) a z=if a=k then v else qQ l a z:=by
 unfold qQ;rw[xr];split<;>rfl
def Gs (b:Bool):(Unit) ⊕ ((Unit) ⊕ Bool):=if b=true then .inl ()else .inr (.inr false)
theorem Gt {l:List af} {x:Int} {i:Nat} (h:i<l.length):af.xT (l.drop i) x ((l.take i).map (·.ba))=
  (vk l[i].ba&&(l[i].ba.dJ||decide (l[i].ba.bc<x))&&!(decide (l[i].ba∈(l.take i).map (·.ba)))&&l[i].a8.Kd&&af.xT (l.drop (i+1)) x ((l.take (i+1)).map (·.ba))):=by
 rw[ahY h,Ps,<-aje h,aiS];rfl
theorem RU {l:List af} {i:Nat} {k:bW} (hi:i<=l.length):k∈(l.take i).map (·.ba)↔∃j,∃h:j<i,(l[j]'alV).ba=k:=by
 rw[aif];constructor
 ·rintro⟨e,he,rfl⟩;obtain⟨j,hj,rfl⟩:=aiw.1 he;rw[ajz]at hj;exact⟨j,by omega,by rw[List.getElem_take]⟩
 ·rintro⟨j,h,rfl⟩;exact⟨l[j]'alV,aiw.2 ⟨j,by rw[ajz];omega,by rw[List.getElem_take]⟩,rfl⟩
theorem Kf:∀(n:Nat),n<=2000000->∀v:ae,v.wt<=n->Xp v=some v.Kd
 | 0,_,v,h=>by have:=pf v;omega
 | n+1,hn,v,h=>by
  have hlen:=Dx (v:=v);cases v with
  | mk k q s x l=>
   have loop:k=4->wm (.mk k q s x l) 0=some (Gs (af.xT l x [])):=λp=>by
    have go:∀m i:Nat,i<=l.length->l.length - i=m->wm (.mk k q s x l) (i:Int)=some (Gs (af.xT (l.drop i) x ((l.take i).map (·.ba)))):=by
     intro m;induction m with
     | zero=>
      intro i h1 h2;rw[wm,ae.iY,An alV,aji alV,Ke];rfl
     | succ m d=>
      intro i h1 h2;have b:i<l.length:=by omega
      have t:=zC (v:=.mk k q s x l) (e:=l[i]) (ahD b);obtain⟨u,w,o⟩:=Y9 (.mk k q s x l) l[i].ba p (show l.length<=4000000 by simp only[ae.iY]at hlen;omega)
      have f:u=(i:Int)↔l[i].ba∉(l.take i).map (·.ba):=by
       rw[RU alV];constructor
       ·rintro rfl ⟨j,hj,he⟩;exact RS o (show i<l.length from b) j hj he
       ·intro y;exact o.uniq (show i<l.length from b) rfl (λj hj he=>y ⟨j,hj,he⟩)
      rw[wm,ae.iY,As alV,aV b,sb,Y5,sb,w,sb,sb,Kf n alV _ alV,sb,Gt b];have z:=d (i+1) alV alV;rw[aO (by simp only[ae.iY]at hlen;omega),z];cases A:vk l[i].ba with
      | false=>rfl
      | true=>
       simp only[aiz,aiB,ae.rA,f];cases B:l[i].a8.Kd with
       | false=>
        simp only[ajF,aiW,aiP,aiO];repeat (first | rfl | split)
       | true=>
        simp only[aiz,ajg];cases D:l[i].ba.dJ with
        | true=>
         simp only[aiz,ajt,aiB];by_cases hm:l[i].ba∈(l.take i).map (·.ba)
         ·rw[An (λh=>h hm),ahI hm];rfl
         ·rw[As hm,ahG hm];rfl
        | false=>
         simp only[aiP,aiO,aiN];by_cases a:l[i].ba.bc<x
         ·rw[An alV,ahI a];by_cases hm:l[i].ba∈(l.take i).map (·.ba)
          ·rw[An (λh=>h hm),ahI hm];rfl
          ·rw[As hm,ahG hm];rfl
         ·rw[As alV,ahG a];rfl
    exact go l.length 0 alV alV
   rw[Xp,MN];simp only[ae.rB,ae.xt,ae.zG,ae.rA,ae.iY,HY,sb];by_cases h4:k=4
   ·rw[loop h4];subst h4;by_cases hs:s=[]<;>by_cases hq:q=0<;>by_cases a:0<=x/\x<=1000000001<;>cases af.xT l x []<;>simp [hs,hq,a,sb,Gs]
   ·by_cases h3:k=3
    ·subst h3;by_cases a:x=0<;>by_cases hq:q=0<;>cases l<;>simp [a,hq,sb]<;>try rfl
    ·by_cases hs:s=[]
     ·by_cases a:x=0
      ·cases l with
       | cons e r=>simp [h3,h4,hs,a,sb]
       | nil=>
        by_cases h0:k=0
        ·subst h0;simp [hs,a,sb]
        ·by_cases h1:k=1
         ·subst h1;by_cases g:q=0
          ·subst g;simp [hs,a,sb]
          ·by_cases q1:q=1
           ·subst q1;simp [hs,a,sb]
           ·have c:¬(0<=q/\q<=1):=by omega
            have C:decide (0<=q/\q<=1)=false:=ahG c;have E:decide (q=0)=false:=ahG g;simp [hs,a,sb,g,q1,c];try omega
         ·by_cases h2:k=2
          ·subst h2;simp [hs,a,sb]
          ·by_cases h6:k=6
           ·subst h6;simp [hs,a,sb]
           ·by_cases h7:k=7
            ·subst h7;simp [hs,a,sb]
            ·by_cases h8:k=8
             ·subst h8;simp [hs,a,sb]
             ·simp [h0,h1,h2,h3,h4,h6,h7,h8,hs,a,sb]
      ·simp [h3,h4,hs,a,sb]
     ·simp [h3,h4,hs,sb]
theorem ye:∀(n:Nat),n<=2000000->∀v:ae,v.wt<=n->ft v=some v.Kd
 | 0,_,v,h=>by have:=pf v;omega
 | n+1,hn,v,h=>by
  have hlen:=Dx (v:=v);cases v with
  | mk k q s x l=>
   have loop:dr (.mk k q s x l) [] 0=some (Gs (af.xT l x [])):=by
    have go:∀m i:Nat,i<=l.length->l.length - i=m->∀f:List (bW×Bool),(∀k,qQ f k false=true↔k∈(l.take i).map (·.ba))->dr (.mk k q s x l) f (i:Int)=some (Gs (af.xT (l.drop i) x ((l.take i).map (·.ba)))):=by
     intro m;induction m with
     | zero=>
      intro i h1 h2 f o;rw[dr,ae.iY,An alV,aji alV,Ke];rfl
     | succ m p=>
      intro i h1 h2 f o;have g:i<l.length:=by omega
      have w:=zC (v:=.mk k q s x l) (e:=l[i]) (ahD g);rw[dr,ae.iY,As alV,aV g,sb,Y7,sb,ye n alV _ alV,sb,Gt g]
      have y:=p (i+1) alV alV (eU f l[i].ba true) (λk=>by
       rw[Vz,<-aje g,aiS,ahL,List.map_singleton,aiQ,<-o k];by_cases j:k=l[i].ba
       ·rw[As j];simp [j]
       ·rw[An j];simp [j])
      rw[aO (by simp only[ae.iY]at hlen;omega),y];cases z:vk l[i].ba with
      | false=>rfl
      | true=>
       simp only[aiz,aiB,ae.rA,o];by_cases hm:l[i].ba∈(l.take i).map (·.ba)
       ·rw[As hm,ahI hm];simp only[Bool.not_true,ajF,aiW];rfl
       ·rw[An hm,ahG hm];cases A:l[i].a8.Kd with
        | false=>
         simp only[ajF,aiW,aiP,aiO];repeat (first | rfl | split)
        | true=>
         simp only[aiz,ajg,Bool.not_false];cases B:l[i].ba.dJ with
         | true=>simp only[aiz,ajt,aiB]
         | false=>
          simp only[aiP,aiO,aiN];by_cases d:l[i].ba.bc<x
          ·rw[An alV,ahI d];rfl
          ·rw[As alV,ahG d];rfl
    exact go l.length 0 alV alV [] (λk=>by simp [qQ,ik])
   have t:∀a b c:Int,xp a b c=some (decide (b<=a/\a<=c)):=λa b c=>by
    unfold xp;by_cases h1:b<=a
    ·rw[As alV];by_cases h2:a<=c
     ·simp [h1,h2]
     ·simp [h2]
    ·rw[An alV];simp [h1]
   rw[ft,MN];simp only[ae.rB,ae.xt,ae.zG,ae.rA,ae.iY,t,sb];rw[loop];by_cases h4:k=4
   ·subst h4;by_cases hs:s=[]<;>by_cases hq:q=0<;>by_cases d:0<=x/\x<=1000000001<;>cases af.xT l x []<;>simp [hs,hq,d,sb,Gs]
   ·by_cases h3:k=3
    ·subst h3;by_cases d:x=0<;>by_cases hq:q=0<;>cases l<;>simp [d,hq,sb]<;>try rfl
    ·by_cases hs:s=[]
     ·by_cases d:x=0
      ·cases l with
       | cons e r=>simp [h3,h4,hs,d,sb]
       | nil=>
        by_cases h0:k=0
        ·subst h0;simp [hs,d,sb]
        ·by_cases h1:k=1
         ·subst h1;by_cases u:q=0
          ·subst u;simp [hs,d,sb]
          ·simp [hs,d,sb,u]
         ·by_cases h2:k=2
          ·subst h2;simp [hs,d,sb]
          ·by_cases h6:k=6
           ·subst h6;simp [hs,d,sb]
           ·by_cases h7:k=7
            ·subst h7;simp [hs,d,sb]
            ·by_cases h8:k=8
             ·subst h8;simp [hs,d,sb]
             ·simp [h0,h1,h2,h3,h4,h6,h7,h8,hs,d,sb]
      ·simp [h3,h4,hs,d,sb]
     ·simp [h3,h4,hs,sb]
theorem Xr:∀(f:Nat) (y:Int) (s:aW),0<=y->y<=9223372036854775807->y<10 ^ f->s.length+f<=1000->∃r,iV y s=some r/\r.length<=s.length+f
 | 0,y,s,h0,hm,h1,h2=>by
  rw[iV,An alV];exact⟨s,rfl,by omega⟩
 | f+1,y,s,h0,hm,h1,h2=>by
  rw[iV];by_cases h:y>0
  ·have h3:y.tdiv 10=y / 10:=Int.tdiv_eq_ediv_of_nonneg h0;rw[Int.pow_succ]at h1;have a:av (y.tdiv 10)=y / 10:=by rw[h3];exact Cu alV alV
   have e:uI ([UInt8.ofNat (IntKind.u8.wrap (av (48+(y.tmod 10)))).toNat]:List UInt8) s=some ([UInt8.ofNat (IntKind.u8.wrap (av (48+(y.tmod 10)))).toNat]++s):=As alX;rw[As h,e,sb,a];obtain⟨r,e2,h4⟩:=Xr f (y / 10) ([UInt8.ofNat (IntKind.u8.wrap (av (48+(y.tmod 10)))).toNat]++s) alV alV alV alX;exact⟨r,e2,by simp at h4;omega⟩
  ·rw[An h];exact⟨s,rfl,by omega⟩
def Kg (k:Int):aW:=(aU k).getD []
theorem kL (k:Int) (h:k<=9223372036854775807):aU k=some (Kg k):=by
 suffices ∃s,aU k=some s by obtain⟨s,e⟩:=this;rw[Kg,e];rfl
 unfold aU;by_cases a:k<=0
 ·rw[As a];exact⟨_,rfl⟩
 ·rw[An a];obtain⟨r,e,b⟩:=Xr 19 k [] alV h alV alW;rw[e,sb];have:uI [109] r=some ([109]++r):=As (by simp at b ⊢;omega);rw[this];exact⟨_,rfl⟩
theorem Kh {l:List af} {i:Nat} (h:i<l.length):af.Dw (l.drop i)=l[i].a8.wt+af.Dw (l.drop (i+1)):=by rw[ahY h,rz]
theorem Gu:∀(n:Nat) (l:List af),af.Dw l<=n->∀k:Nat,k+7*af.Dw l<=1000000000->∃(a:Nat) (d:List af),ie l (k:Int)=some ((a:Int),d)/\d.length=l.length/\k<=a/\a<=k+7*af.Dw l/\ij d (k:Int)=some (a:Int)
 | n,l,h=>by
  intro k f;have hlen:=zB l
  have go:∀m i:Nat,i<=l.length->l.length - i=m->∀(P:List af) (k:Nat),P.length=i->k+7*af.Dw (l.drop i)<=1000000000->
    ∃(a:Nat) (R:List af),dS l (P++l.drop i) (k:Int) (i:Int)=some ((a:Int),P++R)/\R.length=l.length - i/\k<=a/\a<=k+7*af.Dw (l.drop i)/\∀Q:List af,Q.length=i->dT (Q++R) (k:Int) (i:Int)=some (.inl (a:Int)):=by
   intro m;induction m with
   | zero=>
    intro i h1 h2 P k g f;have hi:i=l.length:=by omega
    rw[dS,An alV,hi,ajA];refine⟨k,[],rfl,by simp,ahy _,by omega,λQ j=>?_⟩;rw[dT,An alX]
   | succ m o=>
    intro i h1 h2 P k g f;have p:i<l.length:=by omega
    have hd:=Kh p;have B:=pf l[i].a8;have q:=l[i].a8.ub
    have C:af.Dw (l.drop i)<=af.Dw l:=by
     have hq:∀(l:List af) (i:Nat),af.Dw (l.drop i)<=af.Dw l:=by
      intro l;induction l with
      | nil=>intro i;simp
      | cons e r D=>
       intro i;cases i with
       | zero=>exact ahy _
       | succ i=>rw[ajn,rz];have:=D i;omega
     exact hq l i
    have w1:av ((k:Int)+1)=((k+1:Nat):Int):=aO alV;have t:av (((k+1:Nat):Int)+1)=((k+2:Nat):Int):=aO alV;have u:av (((k+2:Nat):Int)+1)=((k+3:Nat):Int):=aO alV;have v:av (((k+3:Nat):Int)+1)=((k+4:Nat):Int):=aO alV;have w:av (((k+4:Nat):Int)+1)=((k+5:Nat):Int):=aO alV;have x:av (((k+5:Nat):Int)+1)=((k+6:Nat):Int):=aO alV;have y:av (((k+6:Nat):Int)+1)=((k+7:Nat):Int):=aO alV;obtain⟨E,F,b,L,M,g2,G⟩:=Gu (n - 1) l[i].a8.aw alV (k+7) alV
    have H:idx (P++l.drop i) (i:Int)=some l[i]:=by
     rw[aV (by rw[aiy,ajc];omega),ajb alV];simp [g]
    obtain⟨en,c⟩:∃en,en=af.mk (bW.mk (((k:Int).tmod 3)==0) ((k+1:Nat):Int) (Kg ((k+2:Nat):Int))) (ae.mk ((k+3:Nat):Int) ((k+4:Nat):Int) (Kg ((k+5:Nat):Int)) ((k+6:Nat):Int) F):=⟨_,rfl⟩
    have I:(P++l.drop i).set i en=(P++[en])++l.drop (i+1):=by
     rw[List.set_append,An alV,show i - P.length=0 by omega,ait];congr 1;rw[ahY p];rfl
    obtain⟨a,R,J,f2,f3,N,f5⟩:=o (i+1) alV alV (P++[en]) E (by simp [g]) alV;refine⟨a,en::R,?_,by simp;omega,by omega,by omega,λQ j=>?_⟩
    ·rw[dS,As alV,H,sb];simp only[w1,t,u,v,w,x,y,kL _ (show((k+2:Nat):Int)<=9223372036854775807 by omega),kL _ (show((k+5:Nat):Int)<=9223372036854775807 by omega),sb,b,ahF,<-c,I];rw[aO alV,J];simp
    ·have hy:idx (Q++en::R) (i:Int)=some en:=by
      rw[aV (by rw[aiy,ahN];omega),ajb alV];simp [j]
     have z:=f5 (Q++[en]) (by simp [j]);rw[dT,As alX];simp only[hy,sb,w1,t,u,v,w,x,y,kL _ (show((k+2:Nat):Int)<=9223372036854775807 by omega),kL _ (show((k+5:Nat):Int)<=9223372036854775807 by omega)];rw[c]at z ⊢;simp only[af.VA,af.VB,ae.rB,ae.xt,ae.zG,ae.rA,ae.iY,aiz,G,sb];rw[An alV,aO alV];simpa using z
  obtain⟨a,R,b,e2,K,A,s⟩:=go l.length 0 alV alV [] k rfl (by rw[aib];exact f);rw[aib]at b A;replace b:dS l l (k:Int) 0=some ((a:Int),R):=b;replace s:dT R (k:Int) 0=some (.inl (a:Int)):=s [] rfl;refine⟨a,R,?_,by omega,K,A,?_⟩
  ·rw[ie,b,sb]
  ·rw[ij,s,sb]
termination_by n l=>af.Dw l
decreasing_by
 have q:=l[i].a8.ub;have hm:=uN l _ (ahD p);omega
theorem RV (k:bW):tX k k=some true:=by unfold tX;rw[As rfl,As rfl,As rfl]
theorem Ki:∀(n:Nat),n<=2000000->∀v:ae,v.wt<=n->kZ v v=some true
 | 0,_,v,h=>by have:=pf v;omega
 | n+1,hn,v,h=>by
  have hlen:=Dx (v:=v)
  have go:∀m i:Nat,i<=v.aw.length->v.aw.length - i=m->fP v.aw v.aw (i:Int)=some (.inl ()):=by
   intro m;induction m with
   | zero=>intro i h1 h2;rw[fP,An alV]
   | succ m a=>
    intro i h1 h2;have b:i<v.aw.length:=by omega
    have c:=zC (ahD b)
    have d:sL v.aw[i] v.aw[i]=some true:=by
     rw[sL,RV,sb,As rfl,Ki n alV _ alV,sb,As rfl]
    rw[fP,As alV,aV b,sb,sb,d,sb,As rfl,aO alV];exact a (i+1) alV alV
  have e:=go v.aw.length 0 alV alV;replace e:fP v.aw v.aw 0=some (.inl ()):=e;rw[kZ,As rfl,As rfl,As rfl,As rfl,uG,As rfl,e];rfl
theorem Zc {v:ae} (hv:v.wt<=2000000):m22 v=some (decide (v.kw<=200)&&v.Kd):=by
 obtain⟨r,a,c,g2,b⟩:=Kc 2000000 (ahy _) v hv 200 alV alV;unfold m22;rw[a,sb,Kf 2000000 (ahy _) v hv];by_cases h:v.kw<=200
 ·rw[As (by have:=g2 alV;omega),sb,ahI h];rfl
 ·rw[An (by have:=b alV;omega),ahG h];rfl
theorem wq (a b c:Int):xp a b c=some (decide (b<=a/\a<=c)):=by
 unfold xp;by_cases h:b<=a
 ·rw[As h];congr 1;simp;omega
 ·rw[An h];congr 1;symm;rw[aiK];omega
theorem fN (a b c:Int):sh a b c=some (decide (b<=a/\a<=c)):=by
 unfold sh;by_cases h:a>=b
 ·rw[As h];congr 1;simp;omega
 ·rw[An h];congr 1;symm;rw[aiK];omega
def isLet (b:UInt8):Bool:=decide (65<=b.toNat/\b.toNat<=90)||decide (97<=b.toNat/\b.toNat<=122)
def fu (b:UInt8):Bool:=decide (48<=b.toNat/\b.toNat<=57)
theorem Zd (b:UInt8):ot (b.toNat:Int)=some (isLet b):=by
 unfold ot isLet;by_cases h:(b.toNat:Int)>=65
 ·rw[As h];by_cases h2:(b.toNat:Int)<=90
  ·rw[As h2];congr 1;symm;simp;omega
  ·rw[An h2];by_cases h3:(b.toNat:Int)>=97
   ·rw[As h3];congr 1;rw[aic];simp;omega
   ·rw[An h3];congr 1;symm;simp;omega
 ·rw[An h,An alV];congr 1;symm;simp;omega
theorem MO (b:UInt8):ld (b.toNat:Int)=some (fu b):=by
 unfold ld fu;by_cases h:(b.toNat:Int)>=48
 ·rw[As h];congr 1;rw[aic];simp;omega
 ·rw[An h];congr 1;symm;simp;omega
theorem wb (b:UInt8):av (b.toNat:Int)=(b.toNat:Int):=by
 have:=b.toNat_lt;exact Cu alV alV
theorem VC (b:UInt8):mJ (b.toNat:Int)=some (isLet b||decide (b.toNat=95)):=by
 unfold mJ isLet;rw[wb,fN,sb];by_cases h:(97:Int)<=(b.toNat:Int)/\(b.toNat:Int)<=122
 ·rw[As alX];congr 1;symm;simp;omega
 ·rw[An alX,fN,sb];by_cases h2:(65:Int)<=(b.toNat:Int)/\(b.toNat:Int)<=90
  ·rw[As alX];congr 1;symm;simp;omega
  ·rw[An alX];congr 1;rw[aic];simp;omega
theorem VD (b:UInt8):ou (b.toNat:Int)=some (fu b):=by
 unfold ou fu;rw[wb,fN,sb];congr 1;rw[aic];simp;omega
def wu (s:aW):Nat->Nat->Nat
 | 0,i=>i
 | f+1,i=>if i<s.length then(if isLet (s.getD i 0)||decide ((s.getD i 0).toNat=95)||(decide (0<i)&&fu (s.getD i 0))then wu s f (i+1)else i)else i
theorem Kj (s:aW) (hs:s.length<9223372036854775807):∀(f i:Nat),s.length<=i+f->i<=s.length->dU s (i:Int)=some ((wu s (f+1) i:Nat):Int)
 | f,i,h,hi=>by
  rw[dU,wu];by_cases hc:i<s.length
  ·rw[As alV,As hc,jN hc,sb,Zd,sb,aO alV];obtain⟨g,rfl⟩:∃g,f=g+1:=⟨f - 1,by omega⟩;have a:=Kj s hs g (i+1) alV alV;cases hl:isLet (s.getD i 0)
   ·rw[An alW,sb];by_cases h5:(s.getD i 0).toNat=95
    ·rw[As alV,a,As (by simp only[h5,eq_self,decide_true,ajU,ajt])]
    ·rw[An alV];by_cases h0:0<i
     ·rw[As alV,sb,MO,sb];cases hd:fu (s.getD i 0)
      ·rw[An alW,An (by simp only[h5,decide_false,Bool.or_false,ajF,aiN];simp)]
      ·rw[As rfl,a,As (by simp only[h0,decide_true,aiB,ajU])]
     ·rw[An alV,An (by simp only[h5,h0,decide_false,aiW,Bool.or_false];simp)]
   ·rw[As rfl,a,As alW]
  ·rw[An alV,An hc]
theorem Kk (s:aW) (hs:s.length<9223372036854775807):∀(f i:Nat),s.length<=i+f->i<=s.length->jM s 0 (i:Int)=some ((wu s (f+1) i:Nat):Int)
 | f,i,h,hi=>by
  rw[jM,wu];by_cases hc:i<s.length
  ·rw[As alV,As hc,jN hc,sb,VC,sb,aO alV];obtain⟨g,rfl⟩:∃g,f=g+1:=⟨f - 1,by omega⟩;have a:=Kk s hs g (i+1) alV alV;cases hl:(isLet (s.getD i 0)||decide ((s.getD i 0).toNat=95))
   ·rw[An alW];by_cases h0:0<i
    ·rw[As alV,sb,VD,sb];cases hd:fu (s.getD i 0)
     ·rw[An alW,An alW]
     ·rw[As rfl,a,As (by simp [h0])]
    ·rw[An alV,An (by simp [h0])]
   ·rw[As rfl,a,As alW]
  ·rw[An alV,An hc]
theorem Pt (s:aW):∃b,ru s=some b/\rv s=some b:=by
 unfold ru rv;by_cases h:s.length<=20
 ·rw[As alV]
  have a:lf s=some ((wu s (s.length+1) 0:Nat):Int):=by
   unfold lf;have:=Kj s alV s.length 0 alV alV;rw[show((0:Nat):Int)=0 from rfl]at this;rw[this,sb]
  have e2:qd s 0=some ((wu s (s.length+1) 0:Nat):Int):=by
   unfold qd;have:=Kk s alV s.length 0 alV alV;rw[show((0:Nat):Int)=0 from rfl]at this;rw[this,sb]
  rw[a,sb,e2];cases s with
  | nil=>exact⟨_,rfl,rfl⟩
  | cons c r=>
   rw[As (show((c::r).length:Int)>=1 by simp;omega),As (show((c::r).length:Int)<=20 by omega),sb];by_cases he:wu (c::r) ((c::r).length+1) 0=(c::r).length
   ·rw[As alV];refine⟨_,rfl,?_⟩;congr 1;simp only[aio,he];simp
   ·rw[An alV];refine⟨_,rfl,?_⟩;congr 1;rw[ajf];omega
 ·rw[An alV];refine⟨_,rfl,?_⟩;rw[As alV,An alV]
set_option maxRecDepth 100000
def Cv:List aW:=[[101,99,104,111],[105,102],[101,108,115,101],[119,104,105,108,101],[102,111,114,101,97,99,104],[97,115],[98,114,101,97,107],[99,111,110,116,105,110,117,101],[114,101,116,117,114,110],[103,108,111,98,97,108],[117,110,115,101,116],[116,104,114,111,119],[116,114,121],[99,97,116,99,104],[102,105,110,97,108,108,121],[121,105,101,108,100],[105,110,99,108,117,100,101],[102,117,110,99,116,105,111,110],[99,108,97,115,115],[116,114,97,105,116],[101,120,116,101,110,100,115],[117,115,101],[112,114,105,118,97,116,101],[115,116,97,116,105,99],[110,101,119],[116,114,117,101],[102,97,108,115,101],[110,117,108,108]]
theorem Ow (s:aW):∀(f k:Nat),Cv.length<=k+f->je s (k:Int)=some (if(Cv.drop k).any (λx=>decide (s=x))then .inr true else .inl ())
 | f,k,h=>by
  rw[je];change (if(k:Int)<(Cv.length:Int)then idx Cv (k:Int)>>=_ else _)=_
  by_cases hc:k<Cv.length
  ·have hl:Cv.length=28:=rfl;rw[As alV,aV hc,sb,aO alV,ahY hc,ajx];by_cases he:Cv[k]=s
   ·rw[As he,As (by rw[<-he];simp)]
   ·obtain⟨g,rfl⟩:∃g,f=g+1:=⟨f - 1,by omega⟩;rw[An he,Ow s g (k+1) alV,ahG (λh=>he h.symm),aiN]
  ·rw[An alV,aik alV];rfl
theorem cW {s x:aW} {b:Bool} {z:Option Bool} (h:z=some b):(if s=x then some true else z)=some (decide (s=x)||b):=by
 subst h;by_cases h:s=x
 ·rw[As h,ahI h,ajt]
 ·rw[An h,ahG h,aiN]
theorem VE (s:aW):lj s=some (Cv.any λx=>decide (s=x)):=by
 unfold lj;have:=Ow s Cv.length 0 alV;rw[show((0:Nat):Int)=0 from rfl,aib]at this;rw[this,sb];cases hc:Cv.any (λx=>decide (s=x))
 ·rfl
 ·rfl
theorem VF (s:aW):lh s=some (Cv.any λx=>decide (s=x)):=by
 have e:Cv.any (λx=>decide (s=x))=(decide (s=([101,99,104,111]:aW))||(decide (s=([105,102]:aW))||(decide (s=([101,108,115,101]:aW))||(decide (s=([119,104,105,108,101]:aW))||(decide (s=([102,111,114,101,97,99,104]:aW))||(decide (s=([97,115]:aW))||(decide (s=([98,114,101,97,107]:aW))||(decide (s=([99,111,110,116,105,110,117,101]:aW))||(decide (s=([114,101,116,117,114,110]:aW))||(decide (s=([103,108,111,98,97,108]:aW))||(decide (s=([117,110,115,101,116]:aW))||(decide (s=([116,104,114,111,119]:aW))||(decide (s=([116,114,121]:aW))||(decide (s=([99,97,116,99,104]:aW))||(decide (s=([102,105,110,97,108,108,121]:aW))||(decide (s=([121,105,101,108,100]:aW))||(decide (s=([105,110,99,108,117,100,101]:aW))||(decide (s=([102,117,110,99,116,105,111,110]:aW))||(decide (s=([99,108,97,115,115]:aW))||(decide (s=([116,114,97,105,116]:aW))||(decide (s=([101,120,116,101,110,100,115]:aW))||(decide (s=([117,115,101]:aW))||(decide (s=([112,114,105,118,97,116,101]:aW))||(decide (s=([115,116,97,116,105,99]:aW))||(decide (s=([110,101,119]:aW))||(decide (s=([116,114,117,101]:aW))||(decide (s=([102,97,108,115,101]:aW))||(decide (s=([110,117,108,108]:aW))||false)))))))))))))))))))))))))))):=rfl;rw[e];unfold lh;exact(cW (cW (cW (cW (cW (cW (cW (cW (cW (cW (cW (cW (cW (cW (cW (cW (cW (cW (cW (cW (cW (cW (cW (cW (cW (cW (cW (cW rfl))))))))))))))))))))))))))))
theorem CK (s:aW):∃b,dV s=some b/\gB s=some b:=by
 obtain⟨b,h1,h2⟩:=Pt s;unfold dV gB;rw[h1,h2,sb,sb,VF,VE];cases b
 ·exact⟨_,rfl,rfl⟩
 ·exact⟨_,rfl,rfl⟩
theorem H2 {α β:Type} {x:Option α} {f:α->Option β} (h1:∃a,x=some a) (h2:∀a,∃b,f a=some b):∃b,(x>>=f)=some b:=by
 obtain⟨a,rfl⟩:=h1;exact h2 a
theorem BH {α:Type} {c:Prop} [Decidable c] {x y:Option α} (h1:∃a,x=some a) (h2:∃a,y=some a):∃a,(if c then x else y)=some a:=by
 by_cases h:c
 ·rw[As h];exact h1
 ·rw[An h];exact h2
theorem Ze (n:Int):∃b,bN n=some b:=by
 unfold bN;repeat first | exact⟨_,rfl⟩ | refine BH ?_ ?_
theorem VG (n:Int):∃b,nB n=some b:=by
 unfold nB;repeat first | exact⟨_,rfl⟩ | refine BH ?_ ?_
theorem VH (n:Int):∃b,j7 n=some b:=by
 unfold j7;repeat first | exact⟨_,rfl⟩ | refine BH ?_ ?_ | refine H2 ?_ (λ_=>?_)
theorem Zf (n:Int):∃b,jf n=some b:=by
 unfold jf;repeat first | exact⟨_,rfl⟩ | refine BH ?_ ?_
theorem Zg (n:Int):∃b,cK n=some b:=by
 unfold cK;repeat first | exact⟨_,rfl⟩ | refine BH ?_ ?_
theorem VI (x:ak):∃b,jg x=some b:=by
 unfold jg;repeat first | exact⟨_,rfl⟩ | refine BH ?_ ?_ | refine H2 ?_ (λ_=>?_)
theorem Zh (x:ak):∃b,fe x=some b:=by
 unfold fe;repeat first | exact⟨_,rfl⟩ | refine BH ?_ ?_ | refine H2 ?_ (λ_=>?_)
def vU (n:Int):Bool:=(bN n).getD false
def fin (n:Int):Bool:=(jf n).getD false
def tch (n:Int):Int:=(cK n).getD 0
def MP (x:ak):Int:=(jg x).getD 0
def chg (x:ak):Int:=(fe x).getD 0
theorem Pu (n:Int):bN n=some (vU n):=by obtain⟨b,h⟩:=Ze n;rw[vU,h];rfl
theorem ab0 (n:Int):jf n=some (fin n):=by obtain⟨b,h⟩:=Zf n;rw[fin,h];rfl
theorem Zi (n:Int):cK n=some (tch n):=by obtain⟨b,h⟩:=Zg n;rw[tch,h];rfl
theorem Xs (x:ak):jg x=some (MP x):=by obtain⟨b,h⟩:=VI x;rw[MP,h];rfl
theorem ab1 (x:ak):fe x=some (chg x):=by obtain⟨b,h⟩:=Zh x;rw[chg,h];rfl
theorem RW (n:Int):cM n=some (vU n):=(show cM n=bN n by unfold cM bN;rfl).trans (Pu n)
theorem aeS (n:Int):lk n=some (fin n):=(show lk n=jf n by unfold lk jf;rfl).trans (ab0 n)
theorem aeT (n:Int):eV n=some (tch n):=(show eV n=cK n by unfold eV cK;rfl).trans (Zi n)
theorem ab2 (x:ak):nC x=some (MP x):=(show nC x=jg x by unfold nC jg;rfl).trans (Xs x)
theorem aeU (x:ak):js x=some (chg x):=(show js x=fe x by unfold js fe;rfl).trans (ab1 x)
set_option maxHeartbeats 16000000 in
theorem Kl (x:ak) (a b:Int):∃v,fO x a b=some v/\pg x a b=some v:=by
 obtain⟨n,A,B,S,T⟩:=x;obtain⟨gs,g,e2⟩:=CK S;obtain⟨gt,h,e⟩:=CK T;by_cases hn:1<=n/\n<=56
 ·obtain⟨k,rfl⟩:∃k:Nat,n=(k:Int):=⟨n.toNat,by omega⟩;have i:k<=56:=by omega
  have h1:1<=k:=by omega
  clear hn;have hc:k=1\/k=2\/k=3\/k=4\/k=5\/k=6\/k=7\/k=8\/k=9\/k=10\/k=11\/k=12\/k=13\/k=14\/k=15\/k=16\/k=17\/k=18\/k=19\/k=20\/k=21\/k=22\/k=23\/k=24\/k=25\/k=26\/k=27\/k=28\/k=29\/k=30\/k=31\/k=32\/k=33\/k=34\/k=35\/k=36\/k=37\/k=38\/k=39\/k=40\/k=41\/k=42\/k=43\/k=44\/k=45\/k=46\/k=47\/k=48\/k=49\/k=50\/k=51\/k=52\/k=53\/k=54\/k=55\/k=56:=by omega
  clear i h1;rcases hc with rfl | rfl | rfl | rfl | rfl | rfl | rfl | rfl | rfl | rfl | rfl | rfl | rfl | rfl | rfl | rfl | rfl | rfl | rfl | rfl | rfl | rfl | rfl | rfl | rfl | rfl | rfl | rfl | rfl | rfl | rfl | rfl | rfl | rfl | rfl | rfl | rfl | rfl | rfl | rfl | rfl | rfl | rfl | rfl | rfl | rfl | rfl | rfl | rfl | rfl | rfl | rfl | rfl | rfl | rfl | rfl
  all_goals
   simp only[fO,pg,qf,lS,qR,rC,bN,cM,nB,j7,wq,fN,g,e2,h,e,sb];simp [sb]
   repeat' split
   all_goals simp_all
   all_goals (try omega)
   all_goals (by_cases o:T=[]<;>by_cases h1:A<a<;>by_cases h2:B<a<;>by_cases h3:A<b<;>first | (simp_all;done) | omega | (simp_all;omega))
 ·refine⟨false,?_,?_⟩
  ·unfold fO qf;rw[wq,sb,sb,An (by simpa using hn)]
  ·have key:∀{α:Type} {X:Option α} {f:α->Option Bool},(∃a,X=some a)->(∀a,f a=some false)->(X>>=f)=some false:=λ{α X f} h1 h2=>by
    obtain⟨a,rfl⟩:=h1;exact h2 a
   have j:=VH n;have l:=VG n;have d:∃b,cM n=some b:=⟨_,RW n⟩;have m:∀a b c,∃v,sh a b c=some v:=λa b c=>⟨_,fN a b c⟩;unfold pg;refine key ?_ (λ_=>key ?_ (λ_=>key ?_ (λ_=>key ?_ (λ_=>key ?_ (λ_=>key ?_ (λ_=>?_))))));iterate 6 (repeat first | exact⟨_,rfl⟩ | exact⟨_,e2⟩ | exact⟨_,e⟩ | exact j | exact l | exact d | exact m _ _ _ | refine BH ?_ ?_ | refine H2 ?_ (λ_=>?_))
   rw[fN,sb,An (by simpa using hn)]
def gI (l:List Int) (i:Nat):Int:=l.getD i 0
theorem ph {l:List Int} {i:Nat} (h:i<l.length):idx l (i:Int)=some (gI l i):=by
 rw[aV h,gI,ahA,abF h];rfl
theorem Dz {l:List Int} {i:Nat} (h:i<l.length):gI l i=l[i]:=by
 rw[gI,ahA,abF h];rfl
theorem wv {l:List Int} {a i:Nat} {b:Int}:gI (l.set a b) i=if a=i/\a<l.length then b else gI l i:=by
 rw[gI,gI,ahA,ahA,aiG];by_cases h:a=i
 ·subst h;rw[As rfl];by_cases h2:a<l.length
  ·rw[As h2,As ⟨rfl,h2⟩];rfl
  ·rw[An h2,An (λh=>h2 h.2),ahO alV]
 ·rw[An h,An (λh2=>h h2.1)]
def neg (l:List Int):Nat:=l.countP (λx=>decide (x<0))
theorem RZ (l:List Int):neg l<=l.length:=List.countP_le_length
theorem VK {l:List Int} {a:Nat} {b:Int} (ha:a<l.length) (h1:gI l a<0) (c:0<=b):neg (l.set a b)+1=neg l:=by
 rw[Dz ha]at h1;have hp:0<neg l:=List.countP_pos_iff.2 ⟨l[a],ahD ha,by simpa using h1⟩;unfold neg at hp ⊢;rw[List.countP_set ha,As amk,An alX];omega
section
variable (code:List ak)
inductive R:Nat->Int->Prop
 | zero:R 0 0
 | next {i:Nat} {h:Int} (hr:R i h) (hi:i<code.length) (hf:fin (code[i]).aN=false):R (i+1) (av (h+chg code[i]))
 | jump {i:Nat} {h:Int} (hr:R i h) (hi:i<code.length) (ht:vU (code[i]).aN=true):R (code[i]).fA.toNat (av (h+tch (code[i]).aN))
def xu:Prop:=(∀i h,R code i h->∃hi:i<code.length,0<=h/\h<=500/\MP code[i]<=h)/\∀i h h',R code i h->R code i h'->h=h'
def Sol (out:List Int):Prop:=out.length=code.length/\∀i,i<code.length->(gI out i= -1\/R code i (gI out i))/\∀h,R code i h->gI out i=h
theorem Sol.uniq {a b:List Int} (ha:Sol code a) (e:Sol code b):a=b:=by
 refine ajO (ha.1.trans e.1.symm) λi h1 h2=>?_;have hi:i<code.length:=by rw[<-ha.1];exact h1
 rw[<-Dz h1,<-Dz h2];obtain⟨c,f⟩:=ha.2 i hi;obtain⟨d,g⟩:=e.2 i hi;rcases c with c | c
 ·rcases d with d | d
  ·rw[c,d]
  ·exact f _ d
 ·exact(g _ c).symm
structure Part (out:List Int):Prop where
 len:out.length=code.length
 val:∀i,i<code.length->gI out i= -1\/(0<=gI out i/\R code i (gI out i))
 zero:0<code.length->gI out 0=0
 le:∀i,i<code.length->gI out i<=500
def Km (out:List Int) (i:Nat) (hi:i<code.length):Prop:=
 MP code[i]<=gI out i/\gI out i<=500/\
 (fin (code[i]).aN=false->i+1<code.length/\0<=gI out (i+1)/\gI out (i+1)=av (gI out i+chg code[i]))/\
 (vU (code[i]).aN=true->(code[i]).fA.toNat<code.length/\0<=gI out (code[i]).fA.toNat/\gI out (code[i]).fA.toNat=av (gI out i+tch (code[i]).aN))
def Ext (out jh:List Int):Prop:=jh.length=out.length/\∀i,0<=gI out i->gI jh i=gI out i
theorem Ext.refl (out:List Int):Ext out out:=⟨rfl,λ_ _=>rfl⟩
theorem Ext.trans {a b c:List Int} (h1:Ext a b) (h2:Ext b c):Ext a c:=⟨h2.1.trans h1.1,λi hi=>(h2.2 i (by rw[h1.2 i hi];exact hi)).trans (h1.2 i hi)⟩
theorem Km.ext {out jh:List Int} {i:Nat} {hi:i<code.length} (h:Km code out i hi) (h0:0<=gI out i) (he:Ext out jh):Km code jh i hi:=by
 obtain⟨h1,h2,h3,h4⟩:=h;have e:=he.2 i h0;refine⟨by rw[e];exact h1,by rw[e];exact h2,λhf=>?_,λd=>?_⟩
 ·obtain⟨a,b,c⟩:=h3 hf;rw[e,he.2 _ b];exact⟨a,b,c⟩
 ·obtain⟨a,b,c⟩:=h4 d;rw[e,he.2 _ b];exact⟨a,b,c⟩
theorem H3 {out:List Int} (hp:Part code out) (hd:∀i (hi:i<code.length),0<=gI out i->Km code out i hi) (h0:0<code.length):xu code/\Sol code out:=by
 have key:∀i h,R code i h->∃hi:i<code.length,gI out i=h/\0<=h:=λi h d=>by
  induction d with
  | zero=>exact⟨h0,hp.zero h0,ajw _⟩
  | next d hi hf f=>
   obtain⟨_,e,hh⟩:=f;obtain⟨_,_,h3,_⟩:=hd _ hi (by rw[e];exact hh);obtain⟨a,b,c⟩:=h3 hf;rw[e]at c;exact⟨a,c,by rw[<-c];exact b⟩
  | jump d hi j f=>
   obtain⟨_,e,hh⟩:=f;obtain⟨_,_,_,h4⟩:=hd _ hi (by rw[e];exact hh);obtain⟨a,b,c⟩:=h4 j;rw[e]at c;exact⟨a,c,by rw[<-c];exact b⟩
 refine⟨⟨λi h d=>?_,λi h h' d g=>?_⟩,hp.len,λi hi=>⟨(hp.val i hi).imp id (·.2),λh d=>(key i h d).2.1⟩⟩
 ·obtain⟨hi,e,hh⟩:=key i h d;obtain⟨h1,h2,_⟩:=hd i hi (by rw[e];exact hh);rw[e]at h1 h2;exact⟨hi,hh,h2,h1⟩
 ·rw[<-(key i h d).2.1,(key i h' g).2.1]
def iC (out:List Int) (a:Nat) (b:Int):Prop:=out.length<=a\/¬(0<=b/\b<=500)\/(0<=gI out a/\gI out a≠b)
instance (out:List Int) (a:Nat) (b:Int):Decidable (iC out a b):=by unfold iC;exact inferInstance
theorem BI {out:List Int} {a:Nat} {b:Int} (hp:Part code out) (c:R code a b) (h:iC out a b):¬xu code:=λhg=>by
 obtain⟨hi,h1,h2,_⟩:=hg.1 a b c;rcases h with h | h | ⟨h,h3⟩
 ·rw[hp.len]at h;omega
 ·exact h ⟨h1,h2⟩
 ·rcases hp.val a hi with q | ⟨_,q⟩
  ·omega
  ·exact h3 (hg.2 a _ _ q c)
theorem given {out:List Int} {a:Nat} {b:Int} (hp:Part code out) (f:R code a b) (h:¬iC out a b):a<code.length/\0<=b/\b<=500/\Part code (out.set a b)/\Ext out (out.set a b)/\gI (out.set a b) a=b/\
  (∀i,0<=gI (out.set a b) i->0<=gI out i\/i=a)/\(gI out a<0->neg (out.set a b)+1=neg out)/\(¬gI out a<0->out.set a b=out):=by
 have h1:¬out.length<=a:=λx=>h (.inl x);have h2:0<=b/\b<=500:=ajK.1 (λx=>h (.inr (.inl x)));have h3:0<=gI out a->gI out a=b:=λx=>ajK.1 (λy=>h (.inr (.inr ⟨x,y⟩)));have d:a<out.length:=by omega
 have e:a<code.length:=by rw[<-hp.len];exact d
 have he:Ext out (out.set a b):=⟨aiH,λi hi=>by
  rw[wv];by_cases c:a=i/\a<out.length
  ·obtain⟨rfl,_⟩:=c;rw[As ⟨rfl,d⟩];exact(h3 hi).symm
  ·rw[An c]⟩
 refine⟨e,h2.1,h2.2,⟨by rw[aiH];exact hp.len,λi hi=>?_,λh0=>?_,λi hi=>?_⟩,he,by rw[wv,As ⟨rfl,d⟩],λi hi=>?_,λhn=>VK d hn h2.1,λhn=>?_⟩
 ·rw[wv];by_cases c:a=i/\a<out.length
  ·obtain⟨rfl,_⟩:=c;rw[As ⟨rfl,d⟩];exact .inr ⟨h2.1,f⟩
  ·rw[An c];exact hp.val i hi
 ·have:=hp.zero h0;rw[he.2 0 alV];exact this
 ·rw[wv];by_cases c:a=i/\a<out.length
  ·rw[As c];exact h2.2
  ·rw[An c];exact hp.le i hi
 ·rw[wv]at hi;by_cases c:a=i/\a<out.length
  ·exact .inr c.1.symm
  ·rw[An c]at hi;exact .inl hi
 ·have:gI out a=b:=h3 alV;rw[<-this,Dz d];exact List.set_getElem_self d
end
theorem ab3 {out:List Int} (a:Nat) (b:Int):fv out (a:Int) b=some (if iC out a b then(false,false,out)else(decide (gI out a<0),true,out.set a b)):=by
 unfold fv;by_cases h1:out.length<=a
 ·rw[As alV,sb,As (show iC out a b from(.inl h1))]
 ·have c:a<out.length:=by omega
  rw[An alV,fN,sb];by_cases h2:0<=b/\b<=500
  ·rw[As amf,ph c,sb];by_cases h3:gI out a>=0
   ·rw[As h3,sb];by_cases h4:gI out a=b
    ·rw[As h4,sb,sb,sb,An (show ¬iC out a b by intro h;rcases h with h | h | h;exact h1 h;exact h h2;exact h.2 h4)];rfl
    ·rw[An h4,sb,As (show iC out a b from(.inr (.inr ⟨h3,h4⟩)))]
   ·rw[An h3,sb,sb,sb,An (show ¬iC out a b by intro h;rcases h with h | h | h;exact h1 h;exact h h2;exact h3 h.1)];rfl
  ·rw[An amf,sb,As (show iC out a b from(.inr (.inl h2)))]
theorem ab4 {out work:List Int} (a:Nat) (b:Int) (hw:work.length<1000000000):db (a:Int) b out work=some (if iC out a b then(false,out,work)else if gI out a<0 then(true,out.set a b,work++[(a:Int)])else(true,out,work)):=by
 unfold db;by_cases h1:out.length<=a
 ·rw[As alV,sb,As (show iC out a b from(.inl h1))]
 ·have c:a<out.length:=by omega
  rw[An alV,wq,sb]
  have d:∀hc:¬iC out a b,(idx out (a:Int)>>=λe=>
   (if e<0 then
    idx out (a:Int)>>=λg=>
    iD 8 work ([(a:Int)]:List Int)>>=λf=>
    some (true,(out.set (a:Int).toNat b),f)
   else
    some (true,out,work)))=some (if iC out a b then(false,out,work)else if gI out a<0 then(true,out.set a b,work++[(a:Int)])else(true,out,work)):=λhc=>by
   rw[An hc,ph c,sb];by_cases h5:gI out a<0
   ·rw[As h5,sb,eJ alX,sb,As h5];rfl
   ·rw[An h5,An h5]
  by_cases h2:0<=b/\b<=500
  ·rw[As amf];rw[ph c,sb];by_cases h3:gI out a>=0
   ·rw[As h3,sb];by_cases h4:gI out a=b
    ·rw[As h4,sb,<-ph c];exact d (by intro h;rcases h with h | h | h;exact h1 h;exact h h2;exact h.2 h4)
    ·rw[An h4,sb,As (show iC out a b from(.inr (.inr ⟨h3,h4⟩)))]
   ·rw[An h3,sb,<-ph c];exact d (by intro h;rcases h with h | h | h;exact h1 h;exact h h2;exact h3 h.1)
  ·rw[An amf,sb,As (show iC out a b from(.inr (.inl h2)))]
structure aeV (code:List ak) (out work:List Int) (a:Nat) (b:Int) (jh rD:List Int):Prop where
 part:Part code jh
 ext:Ext out jh
 at_:gI jh a=b
 lt:a<code.length
 lo:0<=b
 hi:b<=500
 new:∀i,0<=gI jh i->0<=gI out i\/(i:Int)∈rD
 sub:∀x,x∈work->x∈rD
 mem:∀x,x∈rD->x∈work\/x=(a:Int)
 mu:2*neg jh+rD.length<=2*neg out+work.length
theorem R0 {code:List ak} {out work:List Int} {a:Nat} {b:Int} (hp:Part code out) (d:R code a b) (hw:work.length<1000000000):
  (db (a:Int) b out work=some (false,out,work)/\¬xu code)\/∃jh rD,db (a:Int) b out work=some (true,jh,rD)/\aeV code out work a b jh rD:=by
 rw[ab4 a b hw];by_cases h:iC out a b
 ·rw[As h];exact .inl ⟨rfl,BI code hp d h⟩
 ·obtain⟨h1,h2,h3,h4,h5,h6,h7,h8,f⟩:=given code hp d h;rw[An h];right;by_cases hn:gI out a<0
  ·rw[As hn];refine⟨_,_,rfl,h4,h5,h6,h1,h2,h3,λi hi=>(h7 i hi).imp id (λe=>by subst e;simp),λx c=>by simp [c],λx c=>by simpa using c,?_⟩;have:=h8 hn;simp only[aiy,ahN,aii];omega
  ·rw[An hn];have e:=f hn;rw[e]at h4 h5 h6 h7;exact⟨_,_,rfl,h4,h5,h6,h1,h2,h3,λi hi=>.inl hi,λx c=>c,λx c=>.inl c,ahy _⟩
structure Inv (code:List ak) (out work:List Int):Prop where
 part:Part code out
 ok:∀x,x∈work->∃i:Nat,x=(i:Int)/\i<code.length/\0<=gI out i
 done:∀i (hi:i<code.length),0<=gI out i->(i:Int)∈work\/Km code out i hi
def R2 (code:List ak) (o:(List Int) ⊕ (List Int×Bool)):Prop:=
 (o=.inr ([],false)/\¬xu code)\/∃jh,o=.inl jh/\Part code jh/\∀i (hi:i<code.length),0<=gI jh i->Km code jh i hi
theorem MR (l:List Int) (h:0<l.length):∃w x,l=w++[x]:=by
 rcases List.eq_nil_or_concat l with rfl | ⟨w,x,rfl⟩
 ·simp at h
 ·exact⟨w,x,by simp⟩
theorem ab5 (b:ar) (hn:b.ah.length<=2000000) (hA:∀i (hi:i<b.ah.length),vU (b.ah[i]).aN=true->0<=(b.ah[i]).fA):
  ∀(M:Nat) (out work:List Int),2*neg out+work.length<=M->M<=100000000->Inv b.ah out work->∃o,cu b out work=some o/\R2 b.ah o:=by
 intro M;induction M with
 | zero=>
  intro out work hm _ hv;have:work.length=0:=by omega
  rw[cu,An alV];have hw:work=[]:=aie this;subst hw;exact⟨_,rfl,.inr ⟨out,rfl,hv.part,λi hi h=>(hv.done i hi h).resolve_left alW⟩⟩
 | succ M t=>
  intro out work hm hM hv;rw[cu];by_cases h0:0<work.length
  ·rw[As alV];obtain⟨w,x,rfl⟩:=MR work h0;have hl:(w++[x]).length=w.length+1:=by simp
   have u:av (((w++[x]).length:Int) - 1)=(w.length:Int):=BD alV alV;rw[u,aV alV,sb];have e2:(w++[x])[w.length]'alV=x:=by simp
   rw[e2]
   have v:Xt (w++[x]) (w.length:Int)=some w:=by
    unfold Xt;rw[As ⟨by omega,by omega⟩];simp
   rw[v,sb,sb];obtain⟨i,rfl,hi,hg⟩:=hv.ok x alW;have hlen:=hv.part.len;rw[aV hi,sb,ph alV,sb,Xs,sb]
   have m:R b.ah i (gI out i):=by
    rcases hv.part.val i hi with h | ⟨_,h⟩
    ·omega
    ·exact h
   have z:w.length<100000000:=by omega
   have last:∀jh rD,Part b.ah jh->Ext out jh->(∀j,0<=gI jh j->0<=gI out j\/(j:Int)∈rD)->(∀y,y∈w->y∈rD)->(∀y,y∈rD->y∈w\/∃j:Nat,y=(j:Int)/\j<b.ah.length/\0<=gI jh j)->
     2*neg jh+rD.length<=2*neg out+w.length->Km b.ah jh i hi->∃o,cu b jh rD=some o/\R2 b.ah o:=by
    intro jh rD q1 q2 q3 q4 A D B;refine t jh rD alV alV ⟨q1,λy hy=>?_,λj hj h=>?_⟩
    ·rcases A y hy with h | h
     ·obtain⟨j,r1,C,r⟩:=hv.ok y (by simp [h]);exact⟨j,r1,C,by rw[q2.2 j r];exact r⟩
     ·exact h
    ·rcases q3 j h with h1 | h1
     ·rcases hv.done j hj h1 with h2 | h2
      ·simp only[ahL,aiQ]at h2;rcases h2 with h2 | h2
       ·exact .inl (q4 _ h2)
       ·have:j=i:=by omega
        subst this;exact .inr B
      ·exact .inr (h2.ext _ h1 q2)
     ·exact .inl h1
   by_cases c:MP b.ah[i]>gI out i
   ·rw[As c];exact⟨_,rfl,.inl ⟨rfl,λhg=>by obtain⟨_,_,_,h⟩:=hg.1 _ _ m;omega⟩⟩
   rw[An c,ab0,sb];have h5:gI out i<=500:=hv.part.le i hi;cases hf:fin (b.ah[i]).aN
   ·rw[An alW,ab1,sb,aO alV];rcases R0 hv.part (.next m hi hf) alV (work:=w)with⟨e,k⟩ | ⟨n,s,e,a⟩
    ·rw[e,sb];exact⟨_,rfl,.inl ⟨rfl,k⟩⟩
    ·rw[e,sb];dsimp only;rw[As rfl,Pu,sb];have d:=a.ext.2 i hg;cases g:vU (b.ah[i]).aN
     ·rw[An alW];refine last n s a.part a.ext a.new a.sub (λy hy=>(a.mem y hy).imp id (λe=>⟨_,e,a.lt,by rw[a.at_];exact a.lo⟩)) a.mu ⟨by rw[d];omega,by rw[d];exact h5,λ_=>⟨a.lt,by rw[a.at_];exact a.lo,by rw[a.at_,d]⟩,λh=>by rw[g]at h;cases h⟩
     ·rw[As rfl,Zi,sb];have l:(b.ah[i]).fA=(((b.ah[i]).fA.toNat:Nat):Int):=by have:=hA i hi g;omega
      rcases R0 a.part (.jump m hi g) (by have:=a.mu;have:=RZ out;omega) (work:=s)with⟨e,k⟩ | ⟨p,q,e,g2⟩
      ·rw[<-l]at e;rw[e,sb];exact⟨_,rfl,.inl ⟨rfl,k⟩⟩
      ·rw[<-l]at e;rw[e,sb];dsimp only;rw[As rfl];have f:=g2.ext.2 i (by rw[d];exact hg);have E:=a.mu;have F:=g2.mu;refine last p q g2.part (a.ext.trans g2.ext) (λj hj=>?_) (λy hy=>g2.sub _ (a.sub _ hy)) (λy hy=>?_) alV ⟨by rw[f,d];omega,by rw[f,d];exact h5,λ_=>⟨a.lt,?_,?_⟩,λ_=>⟨g2.lt,by rw[g2.at_];exact g2.lo,by rw[g2.at_,f,d]⟩⟩
       ·rcases g2.new j hj with h | h
        ·rcases a.new j h with h | h
         ·exact .inl h
         ·exact .inr (g2.sub _ h)
        ·exact .inr h
       ·rcases g2.mem y hy with h | h
        ·rcases a.mem y h with h | h
         ·exact .inl h
         ·refine .inr ⟨_,h,a.lt,?_⟩;rw[g2.ext.2 _ (by rw[a.at_];exact a.lo),a.at_];exact a.lo
        ·exact .inr ⟨_,h,g2.lt,by rw[g2.at_];exact g2.lo⟩
       ·rw[g2.ext.2 _ (by rw[a.at_];exact a.lo),a.at_];exact a.lo
       ·rw[g2.ext.2 _ (by rw[a.at_];exact a.lo),a.at_,f,d]
   ·rw[As rfl,Pu,sb];cases g:vU (b.ah[i]).aN
    ·rw[An alW];exact last out w hv.part (Ext.refl _) (λj h=>.inl h) (λy hy=>hy) (λy hy=>.inl hy) (ahy _) ⟨by omega,h5,(λh=>by rw[hf]at h;cases h),(λh=>by rw[g]at h;cases h)⟩
    ·rw[As rfl,Zi,sb];have l:(b.ah[i]).fA=(((b.ah[i]).fA.toNat:Nat):Int):=by have:=hA i hi g;omega
     rcases R0 hv.part (.jump m hi g) alV (work:=w)with⟨e,k⟩ | ⟨p,q,e,g2⟩
     ·rw[<-l]at e;rw[e,sb];exact⟨_,rfl,.inl ⟨rfl,k⟩⟩
     ·rw[<-l]at e;rw[e,sb];dsimp only;rw[As rfl];have f:=g2.ext.2 i hg;exact last p q g2.part g2.ext g2.new g2.sub (λy hy=>(g2.mem y hy).imp id (λe=>⟨_,e,g2.lt,by rw[g2.at_];exact g2.lo⟩)) g2.mu ⟨by rw[f];omega,by rw[f];exact h5,(λh=>by rw[hf]at h;cases h),λ_=>⟨g2.lt,by rw[g2.at_];exact g2.lo,by rw[g2.at_,f]⟩⟩
  ·rw[An alV];have hw:work=[]:=aie alV;subst hw;exact⟨_,rfl,.inr ⟨out,rfl,hv.part,λi hi h=>(hv.done i hi h).resolve_left alW⟩⟩
structure Kn (code:List ak) (out:List Int) (E:List Int->Prop) (l:List Int) (f ok:Bool):Prop where
 bad:ok=false->l=out/\¬xu code
 part:Part code l
 ext:Ext out l
 VL:ok=true->E l
 fresh:f=true->neg l+1=neg out
 old:f=false->l=out
theorem Kn.none {code:List ak} {out:List Int} {E:List Int->Prop} (hp:Part code out) (a:E out):Kn code out E out false true:=
 ⟨λh=>(by cases h),hp,Ext.refl _,λ_=>a,(λh=>by cases h),λ_=>rfl⟩
theorem Xv {code:List ak} {out:List Int} {a:Nat} {b:Int} (hp:Part code out) (c:R code a b):
  ∃l f ok,fv out (a:Int) b=some (f,ok,l)/\Kn code out (λl=>a<code.length/\0<=gI l a/\gI l a=b) l f ok:=by
 rw[ab3 a b];by_cases h:iC out a b
 ·rw[As h];exact⟨_,_,_,rfl,λ_=>⟨rfl,BI code hp c h⟩,hp,Ext.refl _,(λh=>by cases h),(λh=>by cases h),λ_=>rfl⟩
 ·obtain⟨h1,h2,h3,h4,h5,h6,h7,h8,d⟩:=given code hp c h;rw[An h];exact⟨_,_,_,rfl,(λh=>by cases h),h4,h5,λ_=>⟨h1,by rw[h6];exact h2,h6⟩,λhf=>h8 (by simpa using hf),λhf=>d (by simpa using hf)⟩
theorem Ox {α β:Type} {x:Option α} {v:α} {K:α->Option β} {P:β->Prop} (h:x=some v) (a:∃o,K v=some o/\P o):∃o,(x>>=K)=some o/\P o:=by
 subst h;exact a
def Xw (code:List ak) (y:Nat) (out:List Int) (more:Bool) (o:(List Int×Bool) ⊕ ((List Int) ⊕ (List Int×Bool))):Prop:=
 (o=.inr (.inr ([],false))/\¬xu code)\/∃jh a,o=.inl (jh,a)/\Part code jh/\neg jh<=neg out/\(a=true->more=true\/neg jh<neg out)/\
  (a=false->more=false/\jh=out/\∀j (hj:j<code.length),y<=j->0<=gI out j->Km code out j hj)
theorem R4 (a:ar) (hn:a.ah.length<=2000000) (hA:∀i (hi:i<a.ah.length),vU (a.ah[i]).aN=true->0<=(a.ah[i]).fA):
  ∀(f y:Nat) (out:List Int) (more:Bool),a.ah.length<=y+f->Part a.ah out->∃o,cy a out more (y:Int)=some o/\Xw a.ah y out more o:=by
 intro f;induction f with
 | zero=>
  intro y out more hy hp;have hlen:=hp.len;rw[cy,An alV];exact⟨_,rfl,.inr ⟨out,more,rfl,hp,ahy _,.inl,λh=>⟨h,rfl,λj hj h1=>absurd hj alV⟩⟩⟩
 | succ f H=>
  intro y out more hy hp;have hlen:=hp.len;rw[cy];by_cases hc:y<a.ah.length
  ·rw[As alV,aV hc,sb,ph alV,sb];by_cases h0:gI out y<0
   ·rw[As h0,aO alV];obtain⟨o,e,h⟩:=H (y+1) out more alV hp;refine⟨o,e,?_⟩;rcases h with h | ⟨jh,x,e,h1,h2,h3,h4⟩
    ·exact .inl h
    ·refine .inr ⟨jh,x,e,h1,h2,h3,λhm=>?_⟩;obtain⟨q1,q2,q3⟩:=h4 hm;refine⟨q1,q2,λj hj h5 h6=>?_⟩;rcases ajh h5 with rfl | h7
     ·omega
     ·exact q3 j hj h7 h6
   ·rw[An h0,sb,ab2,sb]
    have z:R a.ah y (gI out y):=by
     rcases hp.val y hc with h | ⟨_,h⟩
     ·omega
     ·exact h
    by_cases m:MP a.ah[y]>gI out y
    ·rw[As m];exact⟨_,rfl,.inl ⟨rfl,λhg=>by obtain⟨_,_,_,h⟩:=hg.1 _ _ z;omega⟩⟩
    rw[An m]
    have L:∃n q r,(lk (a.ah[y]).aN>>=λM=>
      (if M=true then some (out,false,true)else
       (some (gI out y):Option Int)>>=λA=>
       js a.ah[y]>>=λB=>
       fv out (av ((y:Int)+1)) (av (A+B))>>=λ(N,O,P)=>
       some (P,N,O)):Option ((List Int)×Bool×Bool))=some (n,q,r)/\
      Kn a.ah out (λl=>fin (a.ah[y]).aN=false->y+1<a.ah.length/\0<=gI l (y+1)/\gI l (y+1)=av (gI out y+chg a.ah[y])) n q r:=by
     rw[aeS,sb];cases hf:fin (a.ah[y]).aN
     ·rw[An alW,sb,aeU,sb,aO alV];obtain⟨l,q,ok,e,g⟩:=Xv hp (.next z hc hf);rw[e,sb];exact⟨_,_,_,rfl,g.bad,g.part,g.ext,λh _=>g.VL h,g.fresh,g.old⟩
     ·rw[As rfl];exact⟨_,_,_,rfl,.none hp (λh=>by cases h)⟩
    obtain⟨n,q,r,Q,p⟩:=L;have S:gI n y=gI out y:=p.ext.2 y alV
    have T:∃t f2 s,(cM (a.ah[y]).aN>>=λC=>
      (if C=true then
       idx n (y:Int)>>=λD=>
       eV (a.ah[y]).aN>>=λU=>
       fv n (a.ah[y]).fA (av (D+U))>>=λ(V,W,E)=>
       some (E,V,W)
      else some (n,false,true)):Option ((List Int)×Bool×Bool))=some (t,f2,s)/\
      Kn a.ah n (λl=>vU (a.ah[y]).aN=true->(a.ah[y]).fA.toNat<a.ah.length/\0<=gI l (a.ah[y]).fA.toNat/\gI l (a.ah[y]).fA.toNat=av (gI out y+tch (a.ah[y]).aN)) t f2 s:=by
     rw[RW,sb];cases I:vU (a.ah[y]).aN
     ·rw[An alW];exact⟨_,_,_,rfl,.none p.part (λh=>by cases h)⟩
     ·have X:(a.ah[y]).fA=(((a.ah[y]).fA.toNat:Nat):Int):=by have:=hA y hc I;omega
      have Z:=p.part.len;rw[As rfl,ph alV,sb,aeT,sb,S];obtain⟨l,f2,ok,e,g⟩:=Xv p.part (.jump z hc I);rw[<-X]at e;rw[e,sb];exact⟨_,_,_,rfl,g.bad,g.part,g.ext,λh _=>g.VL h,g.fresh,g.old⟩
    obtain⟨t,f2,s,e2,g2⟩:=T;refine Ox Q ?_;refine Ox e2 ?_;dsimp only;cases u:r
    ·rw[An alW];exact⟨_,rfl,.inl ⟨rfl,(p.bad u).2⟩⟩
    rw[As rfl];cases v:s
    ·rw[An alW];exact⟨_,rfl,.inl ⟨rfl,(g2.bad v).2⟩⟩
    rw[As rfl,aO alV]
    have n1:neg n<=neg out:=by
     cases c:q
     ·rw[p.old c];exact ahy _
     ·have:=p.fresh c;omega
    have n2:neg t<=neg n:=by
     cases J:f2
     ·rw[g2.old J];exact ahy _
     ·have:=g2.fresh J;omega
    have F:∀w:Bool,w=(if more=true then true else if q=true then true else f2)->∃o,cy a t w ((y+1:Nat):Int)=some o/\Xw a.ah y out more o:=by
     intro w d;obtain⟨o,e,h⟩:=H (y+1) t w alV g2.part;refine⟨o,e,?_⟩;rcases h with h | ⟨jh,x,e,h1,h2,h3,h4⟩
     ·exact .inl h
     ·refine .inr ⟨jh,x,e,h1,by omega,λhm=>?_,λhm=>?_⟩
      ·rcases h3 hm with h5 | h5
       ·rw[h5]at d;cases b:more
        ·right;rw[b,An alW]at d;cases c:q
         ·rw[c,An alW]at d;have:=g2.fresh d.symm;omega
         ·have:=p.fresh c;omega
        ·exact .inl rfl
       ·exact .inr alV
      ·obtain⟨q1,q2,q3⟩:=h4 hm;rw[q1]at d;cases b:more
       case true=>rw[b,As rfl]at d;cases d
       rw[b,An alW]at d;cases c:q
       case true=>rw[c,As rfl]at d;cases d
       rw[c,An alW]at d;have Y:=g2.old d.symm;have r1:=p.old c;have K:=p.VL u;have G:=g2.VL v;rw[Y]at G q2 q3;rw[r1]at K G q2 q3;refine⟨rfl,q2,λj hj h5 h6=>?_⟩;rcases ajh h5 with rfl | h7
       ·exact⟨by omega,hp.le _ hj,K,G⟩
       ·exact q3 j hj h7 h6
    cases b:more
    ·rw[An alW];cases c:q
     ·rw[An alW];rw[<-b];exact F f2 (by rw[b,An alW,c,An alW])
     ·rw[As rfl];rw[<-b];exact F true (by rw[b,An alW,c,As rfl])
    ·rw[As rfl];have k:=F true (by rw[b,As rfl]);rw[b]at k;exact k
  ·rw[An alV];exact⟨_,rfl,.inr ⟨out,more,rfl,hp,ahy _,.inl,λh=>⟨h,rfl,λj hj h1=>absurd hj alV⟩⟩⟩
theorem ab8 (a:ar) (hn:a.ah.length<=2000000) (hA:∀i (hi:i<a.ah.length),vU (a.ah[i]).aN=true->0<=(a.ah[i]).fA):
  ∀(M:Nat) (out:List Int),neg out<=M->Part a.ah out->∃o,dc a out true=some o/\R2 a.ah o:=by
 intro M;induction M with
 | zero=>
  intro out hm hp;rw[dc,As rfl];obtain⟨o,e,h⟩:=R4 a hn hA a.ah.length 0 out false alV hp;rw[show((0:Nat):Int)=0 from rfl]at e;rw[e,sb];rcases h with⟨rfl,h⟩ | ⟨jh,c,rfl,h1,h2,h3,h4⟩
  ·exact alS
  ·dsimp only;cases b:c
   ·obtain⟨_,q2,q3⟩:=h4 b;rw[dc,An alW];subst q2;exact⟨_,rfl,.inr ⟨_,rfl,h1,λi hi h=>q3 i hi (aih _) h⟩⟩
   ·rcases h3 b with h | h
    ·cases h
    ·omega
 | succ M d=>
  intro out hm hp;rw[dc,As rfl];obtain⟨o,e,h⟩:=R4 a hn hA a.ah.length 0 out false alV hp;rw[show((0:Nat):Int)=0 from rfl]at e;rw[e,sb];rcases h with⟨rfl,h⟩ | ⟨jh,c,rfl,h1,h2,h3,h4⟩
  ·exact alS
  ·dsimp only;cases b:c
   ·obtain⟨_,q2,q3⟩:=h4 b;rw[dc,An alW];subst q2;exact⟨_,rfl,.inr ⟨_,rfl,h1,λi hi h=>q3 i hi (aih _) h⟩⟩
   ·rcases h3 b with h | h
    ·cases h
    ·exact d jh alV h1
def wy (x:ak) (a b:Int):Bool:=(fO x a b).getD false
theorem VN (x:ak) (a b:Int):fO x a b=some (wy x a b):=by obtain⟨v,h,_⟩:=Kl x a b;rw[wy,h];rfl
theorem aeX (x:ak) (a b:Int):pg x a b=some (wy x a b):=by obtain⟨v,h,h2⟩:=Kl x a b;rw[wy,h,h2];rfl
theorem Pw {n:Int} (h:vU n=true):n=27\/n=28\/n=29\/n=44\/n=45\/n=49\/n=52:=by
 unfold vU bN at h;by_cases h1:n=27
 ·exact .inl h1
 by_cases h2:n=28
 ·exact .inr (.inl h2)
 by_cases h3:n=29
 ·exact .inr (.inr (.inl h3))
 by_cases h4:n=44
 ·exact .inr (.inr (.inr (.inl h4)))
 by_cases h5:n=45
 ·exact .inr (.inr (.inr (.inr (.inl h5))))
 by_cases h6:n=49
 ·exact .inr (.inr (.inr (.inr (.inr (.inl h6)))))
 by_cases h7:n=52
 ·exact .inr (.inr (.inr (.inr (.inr (.inr h7)))))
 rw[An h1,An h2,An h3,An h4,An h5,An h6,An h7]at h;cases h
theorem VO {x:ak} {a b:Int} (h:wy x a b=true) (c:vU x.aN=true):0<=x.fA/\x.fA<b:=by
 have h1:fO x a b=some true:=by rw[VN,h]
 unfold fO at h1;obtain⟨e,_,h1⟩:=bind_some h1;by_cases hv:e=true
 ·rw[As hv]at h1;obtain⟨f,h4,h1⟩:=bind_some h1;by_cases d:f=true
  ·subst d;obtain⟨n,A,B,S,T⟩:=x;have c:vU n=true:=c;show 0<=A/\A<b
   rcases Pw c with rfl | rfl | rfl | rfl | rfl | rfl | rfl<;>
    ·simp [lS,rC,bN,sb]at h4;by_cases hA:0<=A
     ·rw[As hA]at h4;exact⟨hA,by simpa using h4⟩
     ·rw[An hA]at h4;cases h4
  ·rw[An d]at h1;cases h1
 ·rw[An hv]at h1;cases h1
theorem R5 {n i:Nat} (h:i<n):gI (List.replicate n (-1)) i= -1:=by
 rw[Dz amg];simp
theorem R6 (a:ar) (hn:a.ah.length<=2000000):∀(f k:Nat) (l:List Int),a.ah.length<=k+f->k<=a.ah.length->l.length=a.ah.length->(∀j,j<k->gI l j= -1)->
  jO a l (k:Int)=some (if(a.ah.drop k).all (λx=>wy x (a.au.length:Int) (a.ah.length:Int))then .inl (List.replicate a.ah.length (-1))else .inr ([],false))
 | f,k,l,hf,b,hl,hj=>by
  rw[jO];by_cases hc:k<a.ah.length
  ·rw[As alV,aV hc,sb,VN,sb,ahY hc,aiA];obtain⟨g,rfl⟩:∃g,f=g+1:=⟨f - 1,by omega⟩;cases c:wy a.ah[k] (a.au.length:Int) (a.ah.length:Int)
   ·rw[An alW,aiW,An alW]
   ·rw[As rfl,ph alV,sb,aO alV,aiB]
    exact R6 a hn g (k+1) _ alV alV (by rw[aiH];exact hl) (λj h=>by
     rw[wv];by_cases he:(k:Int).toNat=j/\(k:Int).toNat<l.length
     ·rw[As he]
     ·rw[An he];exact hj j (by simp at he;omega))
  ·rw[An alV,aik alV]
   have:l=List.replicate a.ah.length (-1):=ajO (by simp [hl]) λi h1 h2=>by
    rw[<-Dz h1,hj i alV];simp
   rw[this];rfl
theorem Xx (a:ar) (hn:a.ah.length<=2000000):∀(f k:Nat),a.ah.length<=k+f->k<=a.ah.length->
  jP a (List.replicate k (-1)) (k:Int)=some (if(a.ah.drop k).all (λx=>wy x (a.au.length:Int) (a.ah.length:Int))then .inl (List.replicate a.ah.length (-1))else .inr ([],false))
 | f,k,hf,b=>by
  rw[jP];by_cases hc:k<a.ah.length
  ·rw[As alV,aV hc,sb,aeX,sb,ahY hc,aiA];obtain⟨g,rfl⟩:∃g,f=g+1:=⟨f - 1,by omega⟩;cases c:wy a.ah[k] (a.au.length:Int) (a.ah.length:Int)
   ·rw[An alW,aiW,An alW]
   ·rw[As rfl,eJ alX,sb,aO alV,aiB];have e:List.replicate k (-1:Int)++[-1]=List.replicate (k+1) (-1):=by rw[List.replicate_succ']
    rw[e];exact Xx a hn g (k+1) alV alV
  ·have:k=a.ah.length:=by omega
   rw[An alV,aik alV,this];rfl
theorem MU (code:List ak) (h0:0<code.length):Part code ((List.replicate code.length (-1)).set 0 0):=by
 have g:∀i,i<code.length->gI ((List.replicate code.length (-1)).set 0 0) i=if i=0 then 0 else -1:=λi hi=>by
  rw[wv];by_cases h:i=0
  ·subst h;rw[As ⟨rfl,by simpa using h0⟩,As rfl]
  ·rw[An (λq=>h q.1.symm),An h,R5 hi]
 refine⟨by simp,λi hi=>?_,λ_=>by rw[g 0 h0];rfl,λi hi=>?_⟩
 ·rw[g i hi];by_cases h:i=0
  ·subst h;rw[As rfl];exact .inr ⟨ajw _,.zero⟩
  ·rw[An h];exact .inl rfl
 ·rw[g i hi];by_cases h:i=0
  ·rw[As h];omega
  ·rw[An h];omega
theorem heights (a:ar) (hn:a.ah.length<=2000000):∃l b,dA a=some (l,b)/\gE a=some (l,b)/\(b=false->l=[])/\
  (b=true->l.length=a.ah.length/\∀i (hi:i<a.ah.length),vU (a.ah[i]).aN=true->0<=(a.ah[i]).fA/\(a.ah[i]).fA<a.ah.length):=by
 unfold dA gE;have es:=Xx a hn a.ah.length 0 alV alV;rw[show((0:Nat):Int)=0 from rfl,List.replicate_zero]at es;rw[es];by_cases h0:a.ah.length=0
 ·have hd:a.ah=[]:=aie h0;rw[As alV];refine⟨_,_,rfl,?_,λ_=>rfl,λh=>by cases h⟩;rw[hd];rfl
 ·rw[An alV]
  have em:(mf 8 (a.ah.length:Int) (a.ah.length:Int):Option (List Int))=some (List.replicate a.ah.length default):=by
   unfold mf;rw[As ⟨by omega,by omega,by omega,by omega⟩];rfl
  have k:=R6 a hn a.ah.length 0 (List.replicate a.ah.length default) alV alV alW (λj h=>absurd h alV);rw[show((0:Nat):Int)=0 from rfl]at k;rw[em,sb,k,aib];cases n:a.ah.all (λx=>wy x (a.au.length:Int) (a.ah.length:Int))
  ·refine⟨_,_,rfl,rfl,λ_=>rfl,λh=>by cases h⟩
  ·have hA:∀i (hi:i<a.ah.length),vU (a.ah[i]).aN=true->0<=(a.ah[i]).fA/\(a.ah[i]).fA<a.ah.length:=λi hi c=>
    VO (ahC.1 n _ (ahD hi)) c
   have hp:=MU a.ah alV;rw[As rfl,sb,sb];dsimp only
   have p:idx (List.replicate a.ah.length (-1)) 0=some (-1):=by
    have:=aV (l:=List.replicate a.ah.length (-1:Int)) (i:=0) alX;rw[show((0:Nat):Int)=0 from rfl]at this;rw[this];simp
   rw[p,sb,sb,An (by rw[List.length_replicate];omega)];show ∃l b,(cu a ((List.replicate a.ah.length (-1)).set 0 0) [0]>>=_)=_/\_
   obtain⟨o,r,h1⟩:=ab5 a hn (λi hi c=>(hA i hi c).1) 10000000 ((List.replicate a.ah.length (-1)).set 0 0) [0] (by have:=RZ ((List.replicate a.ah.length (-1)).set 0 0);simp at this ⊢;omega) alV
    ⟨hp,λx s=>⟨0,by simpa using s,by omega,by rw[hp.zero alV];exact ajw _⟩,λi hi h=>.inl (by
     rcases aiq i with rfl | u
     ·simp
     ·exfalso;rw[wv,An (λq=>by omega),R5 hi]at h;omega)⟩
   obtain⟨t,e2,h2⟩:=ab8 a hn (λi hi c=>(hA i hi c).1) _ ((List.replicate a.ah.length (-1)).set 0 0) (ahy _) hp;have d:dc a ((List.replicate a.ah.length (-1)).set (0:Int).toNat 0) true=some t:=e2;rw[r,sb,d,sb];rcases h1 with⟨rfl,h1⟩ | ⟨out,rfl,e,m⟩
   ·rcases h2 with⟨rfl,h2⟩ | ⟨jh,rfl,f,g⟩
    ·exact⟨_,_,rfl,rfl,λ_=>rfl,λh=>by cases h⟩
    ·exact absurd (H3 a.ah f g alV).1 h1
   ·rcases h2 with⟨rfl,h2⟩ | ⟨jh,rfl,f,g⟩
    ·exact absurd (H3 a.ah e m alV).1 h2
    ·have:=Sol.uniq a.ah (H3 a.ah e m alV).2 (H3 a.ah f g alV).2;subst this;exact⟨_,_,rfl,rfl,(λh=>by cases h),λ_=>⟨e.len,hA⟩⟩
def iE (c:Nat->Bool) (k n:Nat):Bool:=(List.range' k (n - k)).all c
theorem wz {c:Nat->Bool} {k n:Nat}:iE c k n=true↔∀i,k<=i->i<n->c i=true:=by
 unfold iE;rw[ahC];constructor
 ·intro h i h1 h2;exact h i (List.mem_range'_1.2 ⟨h1,by omega⟩)
 ·intro h i hi;have:=List.mem_range'_1.1 hi;exact h i this.1 alV
theorem DA {c:Nat->Bool} {n:Nat}:iE c n n=true:=by unfold iE;simp
theorem A9 {c:Nat->Bool} {k n:Nat} (h:k<n):iE c k n=(c k&&iE c (k+1) n):=by
 unfold iE;rw[show n - k=(n - (k+1))+1 by omega,List.range'_succ,aiA]
theorem DB {σ:Type} {L:σ->Int->Option (Unit ⊕ Bool)} (c:Nat->Bool) (n:Nat) (I:σ->Nat->Prop)
  (hs:∀s k,k<n->I s k->(c k=true->∃a,I a (k+1)/\L s (k:Int)=L a ((k+1:Nat):Int))/\(c k=false->L s (k:Int)=some (.inr false)))
  (he:∀s,I s n->L s (n:Int)=some (.inl ())):∀(f k:Nat) (s:σ),n<=k+f->k<=n->I s k->L s (k:Int)=some (if iE c k n=true then .inl ()else .inr false)
 | f,k,s,hf,d,hi=>by
  by_cases hc:k<n
  ·obtain⟨g,rfl⟩:∃g,f=g+1:=⟨f - 1,by omega⟩;obtain⟨h1,h2⟩:=hs s k hc hi;rw[A9 hc];cases b:c k
   ·rw[h2 b,aiW,An alW]
   ·obtain⟨a,q1,q2⟩:=h1 b;rw[q2,aiB];exact DB c n I hs he g (k+1) a alV alV q1
  ·have:k=n:=by omega
   subst this;rw[he s hi,As DA]
theorem xw {L:Int->Option (Unit ⊕ Bool)} (c:Nat->Bool) (n:Nat)
  (hs:∀k,k<n->(c k=true->L (k:Int)=L ((k+1:Nat):Int))/\(c k=false->L (k:Int)=some (.inr false)))
  (he:L (n:Int)=some (.inl ())):L 0=some (if iE c 0 n=true then .inl ()else .inr false):=
 DB (σ:=Unit) (L:=λ_=>L) c n (λ_ _=>True) (λs k a _=>⟨λh=>⟨(),trivial,(hs k a).1 h⟩,(hs k a).2⟩) (λ_ _=>he) n 0 () alV (aih _) trivial
theorem wA {κ β:Type} [DecidableEq κ] (z v:β) (k c:κ):∀l:List (κ×β),qQ (eU l k v) c z=if c=k then v else qQ l c z
 | []=>by
  unfold qQ eU ik ik;by_cases h:c=k
  ·subst h;simp
  ·simp [h,ik]
 | (a,b)::r=>by
  have d:=wA z v k c r;unfold qQ at d ⊢;unfold eU;by_cases h:k=a
  ·subst h;rw[As rfl];by_cases h2:c=k
   ·subst h2;simp [ik]
   ·simp [ik,h2]
  ·rw[An h];by_cases h2:c=a
   ·subst h2;rw[An (λe=>h e.symm)];simp [ik]
   ·simp only[ik,An h2];exact d
def gS (l:List aW) (i:Nat):aW:=l.getD i []
theorem H4 {l:List aW} {i:Nat} (h:i<l.length):idx l (i:Int)=some (gS l i):=by
 rw[aV h,gS,ahA,abF h];rfl
def gP (l:List TParam) (i:Nat):TParam:=l.getD i default
theorem MV {l:List TParam} {i:Nat} (h:i<l.length):idx l (i:Int)=some (gP l i):=by
 rw[aV h,gP,ahA,abF h];rfl
def gC (l:List ak) (i:Nat):ak:=l.getD i default
theorem wB {l:List ak} {i:Nat} (h:i<l.length):idx l (i:Int)=some (gC l i):=by
 rw[aV h,gC,ahA,abF h];rfl
theorem Xy {l:List ak} {i:Nat} (h:i<l.length):gC l i=l[i]:=by
 rw[gC,ahA,abF h];rfl
def sj (s:aW):Bool:=(dV s).getD false
theorem Xz (s:aW):dV s=some (sj s):=by obtain⟨v,h,_⟩:=CK s;rw[sj,h];rfl
theorem XA (s:aW):gB s=some (sj s):=by obtain⟨v,h,h2⟩:=CK s;rw[sj,h,h2];rfl
def Oz:aW:=[116,104,105,115]
def zH (l:List aW) (k:Nat):Bool:=(List.range k).any λj=>decide (gS l j=gS l k)
theorem Ba {l:List aW} {k:Nat}:zH l k=true↔∃j,j<k/\gS l j=gS l k:=by
 unfold zH;rw[List.any_eq_true];constructor
 ·rintro⟨j,h1,h2⟩;exact⟨j,by simpa using h1,by simpa using h2⟩
 ·rintro⟨j,h1,h2⟩;exact⟨j,by simpa using h1,by simpa using h2⟩
def DC (l:List aW) (k:Nat):Bool:=!zH l k&&sj (gS l k)&&!decide (gS l k=Oz)
theorem Zm (a:ar) (hn:a.au.length<=2000000):dN a [] 0=some (if iE (DC a.au) 0 a.au.length=true then .inl ()else .inr false):=by
 refine DB (L:=λl y=>dN a l y) (DC a.au) a.au.length (λl k=>∀x,qQ l x false=true↔∃j,j<k/\gS a.au j=x) (λl k c hi=>?_) (λl hi=>?_) a.au.length 0 [] alV (aih _) (λx=>⟨λh=>by simp [qQ,ik]at h,λ⟨j,h,_⟩=>absurd h (ahP _)⟩)
 ·have e:qQ l (gS a.au k) false=zH a.au k:=by
   rw[aic,hi,Ba]
  have:dN a l (k:Int)=if zH a.au k=true then some (.inr false)else if sj (gS a.au k)=true then(if gS a.au k=Oz then some (.inr false)else dN a (eU l (gS a.au k) true) ((k+1:Nat):Int))else some (.inr false):=by
   rw[dN,As alV,H4 c,sb,e,Xz,sb,aO alV];rfl
  simp only[this];unfold DC;refine⟨λh=>?_,λh=>?_⟩
  ·simp only[No,aid,aiK]at h;obtain⟨⟨h1,h2⟩,h3⟩:=h;refine⟨eU l (gS a.au k) true,λx=>?_,by rw[An (by rw[h1];simp),As h2,An h3]⟩;rw[wA];by_cases b:x=gS a.au k
   ·rw[As b];exact⟨λ_=>⟨k,by omega,b.symm⟩,λ_=>rfl⟩
   ·rw[An b,hi];constructor
    ·rintro⟨j,q1,q2⟩;exact⟨j,by omega,q2⟩
    ·rintro⟨j,q1,q2⟩;rcases aju.1 q1 with q | rfl
     ·exact⟨j,q,q2⟩
     ·exact absurd q2.symm b
  ·by_cases h1:zH a.au k=true
   ·rw[As h1]
   ·rw[An h1];by_cases h2:sj (gS a.au k)=true
    ·rw[As h2];by_cases h3:gS a.au k=Oz
     ·rw[As h3]
     ·simp [h1,h2,h3]at h
    ·rw[An h2]
 ·show dN a l _=_;rw[dN,An alV]
theorem VP (a:ar) (l:List TParam) (hn:l.length<=a.au.length) (hs:a.au.length<=2000000):
  gG a l 0=some (if iE (λk=>decide (gS a.au k=(gP l k).ay)) 0 l.length=true then .inl ()else .inr false):=by
 refine xw (L:=gG a l) _ _ (λk b=>?_) (by rw[gG,An alV]);rw[gG,As alV,MV b,sb,H4 alV,sb,aO alV];refine⟨λh=>by rw[As amg],λh=>by rw[An amg]⟩
def R7 (a:ar) (k:Nat):Bool:=!decide ((gC a.ah k).aN=54)||a.bG
theorem Zn (a:ar) (hn:a.ah.length<=2000000):gH a 0=some (if iE (R7 a) 0 a.ah.length=true then .inl ()else .inr false):=by
 refine xw (L:=gH a) _ _ (λk b=>?_) (by rw[gH,An alV]);rw[gH,As alV,wB b,sb,aO alV];unfold R7;by_cases h1:(gC a.ah k).aN=54
 ·rw[As h1];cases hg:a.bG<;>simp [h1,hg]
 ·rw[An h1];simp [h1]
theorem Zo (a:ar) (hn:a.ah.length<=2000000):gJ a 0=some (if iE (R7 a) 0 a.ah.length=true then .inl ()else .inr false):=by
 refine xw (L:=gJ a) _ _ (λk b=>?_) (by rw[gJ,An alV]);rw[gJ,As alV,wB b,sb,aO alV];unfold R7;by_cases h1:(gC a.ah k).aN=54
 ·rw[As h1];cases hg:a.bG<;>simp [h1,hg]
 ·rw[An h1];simp [h1]
theorem Gv (a:ar) (x:aW) (hn:a.au.length<=2000000):∀(f k:Nat),a.au.length<=k+f->k<=a.au.length->∃o,mM a x (k:Int)=some o/\
  ((∃j:Nat,k<=j/\j<a.au.length/\gS a.au j=x/\(∀m,k<=m->m<j->gS a.au m≠x)/\o=.inr (j:Int))\/((∀j,k<=j->j<a.au.length->gS a.au j≠x)/\o=.inl ()))
 | f,k,hf,c=>by
  rw[mM];by_cases hc:k<a.au.length
  ·rw[As alV,H4 hc,sb];by_cases b:gS a.au k=x
   ·rw[As b];exact⟨_,rfl,.inl ⟨k,ahy _,hc,b,λm h1 h2=>absurd h2 alV,rfl⟩⟩
   ·obtain⟨g,rfl⟩:∃g,f=g+1:=⟨f - 1,by omega⟩;rw[An b,aO alV];obtain⟨o,e,h⟩:=Gv a x hn g (k+1) alV alV;refine⟨o,e,?_⟩;rcases h with⟨j,h1,h2,h3,h4,h5⟩ | ⟨h1,h2⟩
    ·refine .inl ⟨j,by omega,h2,h3,λm q1 q2=>?_,h5⟩;rcases ajh q1 with rfl | q
     ·exact b
     ·exact h4 m q q2
    ·refine .inr ⟨λj q1 q2=>?_,h2⟩;rcases ajh q1 with rfl | q
     ·exact b
     ·exact h1 j q q2
  ·rw[An alV];exact⟨_,rfl,.inr ⟨λj q1 q2=>absurd q2 alV,rfl⟩⟩
theorem Py (a:ar) (hn:a.au.length<=2000000) {k:Nat} (b:k<a.au.length):∃v,rE a (gS a.au k)=some v/\(v=(k:Int)↔zH a.au k=false):=by
 unfold rE;obtain⟨o,e,h⟩:=Gv a (gS a.au k) hn a.au.length 0 alV alV;rw[show((0:Nat):Int)=0 from rfl]at e;rw[e,sb];rcases h with⟨j,h1,h2,h3,h4,rfl⟩ | ⟨h1,rfl⟩
 ·refine⟨_,rfl,?_⟩
  have c:j<=k:=by
   rcases aip k j with q | q
   ·exact absurd rfl (h4 k (aih _) q)
   ·exact q
  constructor
  ·intro h;have:j=k:=by omega
   subst this;cases hs:zH a.au j
   ·rfl
   ·obtain⟨m,q1,q2⟩:=Ba.1 hs;exact absurd q2 (h4 m (aih _) q1)
  ·intro h;rcases ajh c with q | q
   ·rw[q]
   ·rw[Ba.2 ⟨j,q,h3⟩]at h;cases h
 ·exact absurd rfl (h1 k (aih _) b)
def MW (a:ar) (k:Nat):Bool:=DC a.au k&&(!decide (k<a.ao.length)||decide ((gP a.ao k).ay=gS a.au k))&&
 (!decide (a.ao.length<=k/\k - a.ao.length<a.aI.length)||decide ((gP a.aI (k - a.ao.length)).ay=gS a.au k))
theorem Zp (a:ar) (hn:a.au.length<=2000000) (hp:a.ao.length<=2000000) (hu:a.aI.length<=2000000):bQ a 0=some (if iE (MW a) 0 a.au.length=true then .inl ()else .inr false):=by
 refine xw (L:=bQ a) _ _ (λk d=>?_) (by rw[bQ,An alV]);obtain⟨v,ev,hv⟩:=Py a hn d
 have key:bQ a (k:Int)=if MW a k=true then bQ a ((k+1:Nat):Int)else some (.inr false):=by
  rw[bQ,As alV,H4 d,sb,XA,sb,aO alV];unfold MW DC;cases hg:sj (gS a.au k)
  ·rw[An alW];simp
  rw[As rfl];by_cases b:gS a.au k=Oz
  ·have:gS a.au k=([116,104,105,115]:aW):=b;rw[As this];simp [b]
  have c:¬gS a.au k=([116,104,105,115]:aW):=b;rw[An c,ev,sb,ahG b];cases hs:zH a.au k
  ·rw[As (hv.2 hs)];by_cases h1:k<a.ao.length
   ·rw[As (show(k:Int)<(a.ao.length:Int) by omega),MV h1,sb,ahI h1];rw[ahG (show ¬(a.ao.length<=k/\k - a.ao.length<a.aI.length) by omega)];by_cases h2:(gP a.ao k).ay=gS a.au k
    ·rw[As h2,An alV,ahI h2];rfl
    ·rw[An h2,ahG h2];rfl
   ·rw[An (show ¬(k:Int)<(a.ao.length:Int) by omega),As (show(k:Int)>=(a.ao.length:Int) by omega),ahG h1];rw[BD (x:=(k:Int) - (a.ao.length:Int)) (n:=k - a.ao.length) alV alV];by_cases h3:k - a.ao.length<a.aI.length
    ·rw[As alV,MV h3,sb,ahI (show a.ao.length<=k/\k - a.ao.length<a.aI.length from⟨by omega,h3⟩)];by_cases h2:(gP a.aI (k - a.ao.length)).ay=gS a.au k
     ·rw[As h2,ahI h2];rfl
     ·rw[An h2,ahG h2];rfl
    ·rw[An alV,ahG (show ¬(a.ao.length<=k/\k - a.ao.length<a.aI.length) by omega)];rfl
  ·rw[An (λh=>by rw[hv.1 h]at hs;cases hs)];rfl
 exact⟨λh=>by rw[key,As h],λh=>by rw[key,An (by rw[h];simp)]⟩
theorem MX (a b:List TParam) (k:Nat):gP (a++b) k=if k<a.length then gP a k else gP b (k - a.length):=by
 unfold gP;rw[ahA,ahA,ahA];by_cases h:k<a.length
 ·rw[As h,aia h]
 ·rw[An h,ahU alV]
theorem R9 (a:ar) (hp:a.ao.length+a.aI.length<=a.au.length):
  iE (MW a) 0 a.au.length=(iE (DC a.au) 0 a.au.length&&iE (λk=>decide (gS a.au k=(gP (a.ao++a.aI) k).ay)) 0 (a.ao++a.aI).length):=by
 rw[aic,No,wz,wz,wz];constructor
 ·intro h;refine⟨λi h1 h2=>?_,λi h1 h2=>?_⟩
  ·have:=h i h1 h2;unfold MW at this;simp only[No]at this;exact this.1.1
  ·rw[aiy]at h2;have:=h i h1 alV;unfold MW at this;simp only[No,aiD,aid,aiK,aij]at this;rw[MX,aij];by_cases hc:i<a.ao.length
   ·rw[As hc];exact(this.1.2.resolve_left (λq=>q hc)).symm
   ·rw[An hc];exact(this.2.resolve_left (λq=>q ⟨by omega,by omega⟩)).symm
 ·rintro⟨h1,h2⟩ i h3 h4;unfold MW;simp only[No,aiD,aid,aiK,aij];refine⟨⟨h1 i h3 h4,?_⟩,?_⟩
  ·by_cases hc:i<a.ao.length
   ·right;have:=h2 i h3 (by rw[aiy];omega);rw[MX,aij,As hc]at this;exact this.symm
   ·exact .inl hc
  ·by_cases hc:a.ao.length<=i/\i - a.ao.length<a.aI.length
   ·right;have:=h2 i h3 (by rw[aiy];omega);rw[MX,aij,An alV]at this;exact this.symm
   ·exact .inl hc
theorem Sa (a:ar):∃b,kd a=some b/\ll a=some b:=by
 unfold kd m66 ll;cases hs:a.ay with
 | nil=>exact⟨false,rfl,rfl⟩
 | cons c r=>
  have e2:nL (c::r) 0=some c:=by
   have:=jN (s:=c::r) (i:=0) alW;exact this
  rw[sb,As alW,e2,sb];refine⟨_,rfl,?_⟩;congr 1;unfold Lib.hasPrefix;rw[aic,aio];constructor
  ·intro h;have h1:c=47:=UInt8.toNat_inj.1 (by show c.toNat=47;omega);subst h1;simp
  ·intro h;have h1:c=47:=by simpa[List.isPrefixOf]using Eq.symm (by simpa[List.isPrefixOf]using h)
   rw[h1];rfl
theorem Gw (a:ar) (hc:a.ah.length<=2000000) (hs:a.au.length<=2000000) (hp:a.ao.length<=2000000) (hu:a.aI.length<=2000000) (r:a.ay.length<=2000000):
  ∃b,eW a=some b/\eX a=some b/\(b=true->∃l,dA a=some (l,true)/\gE a=some (l,true)/\l.length=a.ah.length/\
   (∀i (hi:i<a.ah.length),vU (a.ah[i]).aN=true->0<=(a.ah[i]).fA/\(a.ah[i]).fA<a.ah.length)):=by
 unfold eW eX qT;obtain⟨l,b,f,e2,s,e⟩:=heights a hc;obtain⟨tb,g,j⟩:=Sa a;rw[wq,sb,fN,sb];by_cases h1:(1:Int)<=(a.ay.length:Int)/\(a.ay.length:Int)<=100
 case neg=>
  have hd:¬decide ((1:Int)<=(a.ay.length:Int)/\(a.ay.length:Int)<=100)=true:=by simpa using h1
  rw[An hd,An hd];exact⟨_,rfl,rfl,λh=>by cases h⟩
 have hd:decide ((1:Int)<=(a.ay.length:Int)/\(a.ay.length:Int)<=100)=true:=by simpa using h1
 rw[As hd,As hd];by_cases h2:(a.au.length:Int)>600
 ·rw[As h2];refine⟨false,rfl,?_,λh=>by cases h⟩;by_cases h3:(a.ah.length:Int)>8000
  ·rw[As h3];rfl
  ·rw[An h3,As h2];rfl
 rw[An h2,An h2];by_cases h3:(a.ah.length:Int)>8000
 ·rw[As h3,As h3];exact alO
 rw[An h3,An h3];have m:av ((a.ao.length:Int)+(a.aI.length:Int))=((a.ao.length+a.aI.length:Nat):Int):=BD alV alV;rw[m];by_cases h4:((a.ao.length+a.aI.length:Nat):Int)>(a.au.length:Int)
 ·rw[As h4,As h4];exact alO
 rw[An h4,An h4,Zm a hs,Zp a hs hp hu,R9 a alV]
 have n:oy a.ao=some a.ao:=by
  unfold oy;rw[eJ alX,sb,aiC]
 have o:iD 24 a.ao a.aI=some (a.ao++a.aI):=eJ alV
 have p:(some a.ao>>=λd=>iD 24 d a.aI>>=λq=>gG a q 0)=some (if iE (λk=>decide (gS a.au k=(gP (a.ao++a.aI) k).ay)) 0 (a.ao++a.aI).length=true then .inl ()else .inr false):=by
  rw[sb,o,sb,VP a _ (by rw[aiy];omega) hs]
 rw[n,p,Zn a hc,Zo a hc,g,j,f,e2];generalize iE (DC a.au) 0 a.au.length=A;generalize iE (λk=>decide (gS a.au k=(gP (a.ao++a.aI) k).ay)) 0 (a.ao++a.aI).length=B;generalize iE (R7 a) 0 a.ah.length=Y;cases A
 ·exact alO
 cases B
 ·exact alO
 cases Y
 ·refine⟨false,rfl,?_,λh=>by cases h⟩;cases tb
  ·rfl
  ·by_cases h5:0<a.au.length
   ·simp [sb,h5]
   ·cases hg:a.bG<;>simp [sb,h5,hg]
 have c:b=true->∃l_1,some (l,b)=some (l_1,true)/\some (l,b)=some (l_1,true)/\l_1.length=a.ah.length/\
   (∀i (hi:i<a.ah.length),vU (a.ah[i]).aN=true->0<=(a.ah[i]).fA/\(a.ah[i]).fA<a.ah.length):=λh=>by
  subst h;exact⟨l,rfl,rfl,(e rfl).1,(e rfl).2⟩
 cases tb
 ·exact⟨b,rfl,rfl,c⟩
 ·by_cases h5:0<a.au.length
  ·refine⟨false,?_,?_,λh=>by cases h⟩<;>simp [sb,h5]
  ·cases hg:a.bG
   ·refine⟨b,?_,?_,c⟩<;>simp [sb,h5,hg]
   ·refine⟨false,?_,?_,λh=>by cases h⟩<;>simp [sb,h5,hg]
theorem CM {a b:aW} (h:a.length+b.length<=4611686018427387904):uI a b=some (a++b):=As h
end Go.Am
