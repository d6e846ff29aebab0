/- Texts of the proof, joined and shortened. -/
import Derived.Test.YtgakkhamfiegbaaGreatDoorPk10
import Derived.Lib.AtoiTie
set_option linter.unusedVariables false
set_option linter.unusedSimpArgs false
set_option maxRecDepth 100000
namespace Go.Am
open Go Go.RowKit Go.Proofs
mutual
def ml (a:ai):Option (ai):=(jC a ([]:List af) 0:Option ((List af)))>>=λl1=>some (ai.mk a.aU a.bb a.bp a.aE l1) partial_fixpoint
def jC (a:ai) (c:List af) (b:Int):Option ((List af)):=if b<(a.aj.length:Int)then idx a.aj b>>=λd=>idx a.aj b>>=λe=>ml e.av>>=λf=>pQ 96 c ([(af.mk d.aN f)]:List af)>>=λg=>jC a g (ah (b+1))else some c partial_fixpoint
end
def Ts (a:ai) (r:ai):Prop:=ACall Tryz.prog 72 [.agg a.lit] [] (λres h=>res=.agg r.lit/\h=[])
inductive kS:ai->(List af)->Int->((List af))->Prop
 | mk (G72:ai->Option (ai)) (afJ:∀a0 r,G72 a0=some r->Ts a0 r) (wo:ai->(List af)->Int->Option ((List af))) (P4:∀a0 l5 y6 o,wo a0 l5 y6=some o->kS a0 l5 y6 o) (a0:ai) (l5:List af) (y6:Int) (o:(List af)) (h:(
 (if y6<(a0.aj.length:Int)then
 idx a0.aj y6>>=λcV=>
 idx a0.aj y6>>=λqi=>
 G72 qi.av>>=λnC=>
 pQ 96 l5 ([(af.mk cV.aN nC)]:List af)>>=λwC=>
 wo a0 wC (ah (y6+1))
 else
 some l5)
 )=some o):kS a0 l5 y6 o
theorem FG:(∀a r,ml a=some r->Ts a r)/\(∀a b c o,jC a b c=some o->kS a b c o):=by
 refine ml.mutual_partial_correctness Ts kS ?_ ?_;intro _ k a r h;refine cr Tryz.func72 ?_;refine .d (.d ⟨rfl,_,rfl,rfl,_,_,rfl,aL,(.d ⟨rfl,rfl,_,_,rfl,aL,?_⟩)⟩);obtain⟨u,h,iI⟩:=bd h;refine .cut (λσ η=>∃l1,l1=u/\σ=[(2,.bE 0 0 0 0),(3,.bE 1 0 0 0)]/\η=[.row 0 5 1 41 (λ_=>[pI 0,pI 0,.str [],pI 0,.au]),.row 0 5 1 41 (λ_=>[pI a.aU,pI a.bb,.str a.bp,pI a.aE,.own 2 0 0 l1.length]),.row 0 8 l1.length 144 (row af.cells l1)]) ?_ ?_;refine .d ?_;have m:=k _ _ _ _ h;refine le (kS.rec (motive:=λe b c f _=>a=e->u=f->aB _ _ [(1,.bE 0 0 0 0),(2,.bE 1 0 0 0),(3,.bE 2 0 0 0),(4,pI c)] [.row 0 5 1 41 (λ_=>a.lit),.row 0 5 1 41 (λ_=>[pI 0,pI 0,.str [],pI 0,.au]),.row 0 5 1 41 (λ_=>[pI a.aU,pI a.bb,.str a.bp,pI a.aE,.own 3 0 0 b.length]),.row 0 8 b.length 144 (row af.cells b)]) ?_ m rfl rfl) (tk [0,1,2,6] ⟨.p,.p,.p,.i,⟨⟩⟩ ⟨(uv rfl),(nb rfl ⟨.i,.i,.s,.i,.au,⟨⟩⟩),(nb rfl ⟨.i,.i,.s,.i,.g,⟨⟩⟩),gh,⟨⟩⟩);intro _ n _ _ e b c f h y  z A;subst z;subst A;refine aB.round (.d (.d ⟨rfl,rfl,_,rfl,(sD h (λB h=>?_) (λB h=>?_))⟩));refine .d (.float [(0,true),(1,true),(2,true),(3,true),(4,true),(5,true),(6,true),(7,true),(8,true),(9,true),(10,true),(11,true),(12,true),(13,true),(14,false),(15,true),(16,false),(17,false),(18,true),(19,false)] ajt ?_);refine⟨rfl,rfl,_,rfl,rfl,rfl,_,rfl,(bk h λj v h=>⟨aT v,_,(aJ v).trans (af.al j),rfl,rfl,_,rfl,(bk h λC w h=>⟨aT w,_,(aJ w).trans (af.al C),(bk h λq D h=>(cd (n _ _ D) ⟨rfl,rfl,rfl,?_⟩))⟩)⟩)⟩;exact⟨rfl,row af.cells ([(af.mk j.aN q)]:List af),gJ af.cells ([(af.mk j.aN q)]:List af) rfl (kI (af.al _) ⟨.same _,.same _,.same _,.same _,.same _,.same _,.same _,.same _,trivial⟩ trivial),rfl,rfl,(bk h λx t h=>(.oY ⟨rfl,rfl,yK (l:=([(af.mk j.aN q)]:List af)) b8,mP t,x.length,row af.cells x,kg t,kO t b8 (vF b8),rfl,rfl,_,_,rfl,aL,(lg (y _ _ _ _ h rfl rfl) (tk [0,1,2,3] ⟨.p,.p,.p,.i,⟨⟩⟩ ⟨(uv rfl),(nb rfl ⟨.i,.i,.s,.i,.au,⟨⟩⟩),(nb rfl ⟨.i,.i,.s,.i,.o,⟨⟩⟩),nw,⟨⟩⟩))⟩))⟩;exact ct ⟨_,si h,rfl,rfl⟩ (tk [1,2,3] vn ⟨(nb rfl ⟨.i,.i,.s,.i,.au,⟨⟩⟩),(nb rfl ⟨.i,.i,.s,.i,.o,⟨⟩⟩),nw,⟨⟩⟩);rintro _ _ ⟨l1,rfl,rfl,rfl⟩;replace h:=iI;refine .d ⟨rfl,_,rfl,rfl,_,_,rfl,aL,?_⟩;obtain rfl:=si h;exact⟨rfl,_,rfl,(en [] ⟨rfl,rfl⟩ (.cK ⟨.i,.i,.s,.i,.r,⟨⟩⟩) ⟨⟩)⟩;intro F0 E F G a b c o h;exact .mk F0 F E G a b c o h
theorem Lt {a:ai} {r:ai} (h:ml a=some r):ACall Tryz.prog 72 [.agg a.lit] [] (λres h=>res=.agg r.lit/\h=[]):=FG.1 a r h
mutual
def fR (a:bD) (b:ai):Option (ai×bD):=if b.aU=5 then idx a.aw b.bb>>=λc=>(im c a.aw ([]:List af) 0:Option ((List aD)×(List af)))>>=λ(d,e)=>some ((ai.mk 4 0 [] c.ax.aE e),(bD.mk d))else some (b,a) partial_fixpoint
def im (b:aD) (d:List aD) (a:List af) (c:Int):Option ((List aD)×(List af)):=if c<(b.ax.ak.length:Int)then idx b.ax.ak c>>=λf=>if f.bS=true then idx b.ax.ak c>>=λg=>idx b.ax.ak c>>=λh=>fR (bD.mk d) h.av>>=λ(i,e)=>pQ 96 a ([(af.mk g.aN i)]:List af)>>=λj=>im b e.aw j (ah (c+1))else im b d a (ah (c+1))else some (d,a) partial_fixpoint
end
def Tu (a:bD) (b:ai) (r:ai×bD):Prop:=∀aM:Nat,aaz 73 a b r aM
inductive kl:aD->(List aD)->(List af)->Int->((List aD)×(List af))->Prop
 | mk (G73:bD->ai->Option (ai×bD)) (afK:∀a0 a1 r,G73 a0 a1=some r->Tu a0 a1 r) (qM:aD->(List aD)->(List af)->Int->Option ((List aD)×(List af))) (OK:∀x2 l9 l10 aA o,qM x2 l9 l10 aA=some o->kl x2 l9 l10 aA o) (x2:aD) (l9:List aD) (l10:List af) (aA:Int) (o:(List aD)×(List af)) (h:(
 (if aA<(x2.ax.ak.length:Int)then
 idx x2.ax.ak aA>>=λaq=>
 (if aq.bS=true then
 idx x2.ax.ak aA>>=λNY=>
 idx x2.ax.ak aA>>=λpk=>
 G73 (bD.mk l9) pk.av>>=λ(fp,v24)=>
 pQ 96 l10 ([(af.mk NY.aN fp)]:List af)>>=λTt=>
 qM x2 v24.aw Tt (ah (aA+1))
 else
 qM x2 l9 l10 (ah (aA+1)))
 else
 some (l9,l10))
 )=some o):kl x2 l9 l10 aA o
theorem Ex:(∀q t r,fR q t=some r->Tu q t r)/\(∀b c a e o,im b c a e=some o->kl b c a e o):=by
 refine fR.mutual_partial_correctness Tu kl ?_ ?_;intro _ u q t r h aM;refine cr Tryz.func73 ?_;refine .d (.d (.d ⟨rfl,rfl,_,rfl,(sN h (λI h=>?_) (λI h=>?_))⟩));refine .d ⟨rfl,_,rfl,rfl,_,_,rfl,aL,?_⟩;obtain rfl:=si h;exact⟨rfl,_,rfl,(en [0] ⟨rfl,rfl⟩ (.cK ⟨.i,.i,.s,.i,.l,⟨⟩⟩) ⟨(ob rfl ⟨.l,⟨⟩⟩),⟨⟩⟩)⟩;refine .d (.float [(0,true),(1,true),(2,true),(3,true),(4,true),(5,true),(6,true),(7,true),(8,true),(9,false),(10,false)] ajt ?_);refine⟨rfl,rfl,rfl,_,rfl,rfl,rfl,_,rfl,(bk h λb f h=>⟨aT f,_,(aJ f).trans (aD.al b),rfl,rfl,rfl,rfl,rfl,rfl,_,_,rfl,aL,(.d (cd (AI) ?_))⟩)⟩;refine⟨rfl,_,_,rfl,aL,(.d ⟨rfl,rfl,_,rfl,rfl,rfl,_,_,rfl,aL,?_⟩)⟩;obtain⟨C,h,v⟩:=bd h;refine .cut (λσ η=>∃w,∃j,(w,j)=C/\σ=[(4,.bE 1 0 0 0),(6,.bE 2 0 0 0)]/\η=[.row aM 1 1 49 (λ_=>[sl 6 aD.cells w]),.row 0 5 1 41 (λ_=>[pI 0,pI 0,.str [],pI 0,.au]),.row 0 5 1 41 (λ_=>[pI 4,pI 0,.str [],pI b.ax.aE,.own 3 0 0 j.length]),.row 0 8 j.length 144 (row af.cells j)]) ?_ ?_;refine .d ?_;have x:=u _ _ _ _ _ h;refine le (kl.rec (motive:=λk c a e m _=>b=k->C=m->aB _ _ [(0,.bE 0 aM 0 0),(4,.bE 1 0 0 0),(5,.bE 2 0 0 0),(6,.bE 3 0 0 0),(7,pI e)] [.row aM 1 1 49 (λ_=>[sl 6 aD.cells c]),.row 0 5 1 41 (λ_=>[pI 0,pI 0,.str [],pI 0,.au]),.row 0 5 1 210 (λ_=>b.ax.lit),.row 0 5 1 41 (λ_=>[pI 4,pI 0,.str [],pI b.ax.aE,.own 4 0 0 a.length]),.row 0 8 a.length 144 (row af.cells a)]) ?_ x rfl rfl) (tk [0,2,3,4,9] ⟨.p,.p,.p,.p,.i,⟨⟩⟩ ⟨(ob rfl ⟨.l,⟨⟩⟩),(nb rfl ⟨.i,.i,.s,.i,.au,⟨⟩⟩),(uv rfl),(nb rfl ⟨.i,.i,.s,.i,.g,⟨⟩⟩),gh,⟨⟩⟩);intro _ y _ _ k c a e m h D  J z;subst J;subst z;refine aB.round (.d (.d ⟨rfl,rfl,_,rfl,(sD h (λK h=>?_) (λK h=>?_))⟩));refine .d (.d ⟨rfl,rfl,_,rfl,(bk h λL E h=>⟨aT E,_,(aJ E).trans (aS.al L),(sV h (λM h=>?_) (λM h=>?_))⟩)⟩);refine .float [(0,true),(1,true),(2,true),(3,true),(4,true),(5,true),(6,true),(7,true),(8,true),(9,true),(10,true),(11,true),(12,true),(13,true),(14,true),(15,false),(16,true),(17,false),(18,false),(19,true),(20,false)] ajt ?_;refine⟨rfl,rfl,_,rfl,rfl,rfl,_,rfl,(bk h λn F h=>⟨aT F,_,(aJ F).trans (aS.al n),rfl,rfl,_,rfl,(bk h λN G h=>⟨aT G,_,(aJ G).trans (aS.al N),?_⟩)⟩)⟩;obtain⟨⟨A,O⟩,P,h⟩:=bd h;refine pc1 (y _ _ _ P _) [0] ?_;exact⟨rfl,rfl,rfl,rfl,row af.cells ([(af.mk n.aN A)]:List af),gJ af.cells ([(af.mk n.aN A)]:List af) rfl (kI (af.al _) ⟨.same _,.same _,.same _,.same _,.same _,.same _,.same _,.same _,trivial⟩ trivial),rfl,rfl,(bk h λH B h=>(.oY ⟨rfl,rfl,yK (l:=([(af.mk n.aN A)]:List af)) b8,mP B,H.length,row af.cells H,kg B,kO B b8 (vF b8),rfl,rfl,_,_,rfl,aL,(lg (D _ _ _ _ _ h rfl rfl) (tk [0,1,2,3,4] ⟨.p,.p,.p,.p,.i,⟨⟩⟩ aaE))⟩))⟩;exact lg (D _ _ _ _ _ h rfl rfl) (tk [0,1,2,3,4] ⟨.p,.p,.p,.p,.i,⟨⟩⟩ aaE);exact ct ⟨_,_,si h,rfl,rfl⟩ (tk [0,1,3,4] vn ⟨(ob rfl ⟨.l,⟨⟩⟩),(nb rfl ⟨.i,.i,.s,.i,.au,⟨⟩⟩),(nb rfl ⟨.i,.i,.s,.i,.o,⟨⟩⟩),nw,⟨⟩⟩);rintro _ _ ⟨w,j,rfl,rfl,rfl⟩;replace h:=v;refine .d ⟨rfl,_,rfl,rfl,_,_,rfl,aL,?_⟩;obtain rfl:=si h;exact⟨rfl,_,rfl,(en [0] ⟨rfl,rfl⟩ (.cK ⟨.i,.i,.s,.i,.r,⟨⟩⟩) ⟨(ob rfl ⟨.l,⟨⟩⟩),⟨⟩⟩)⟩;intro F0 Q R S b c a e o h;exact .mk F0 R Q S b c a e o h
theorem IF {a:bD} {b:ai} {r:ai×bD} {aM:Nat} (h:fR a b=some r):aaz 73 a b r aM:=Ex.1 a b r h aM
def nV (a:bD) (c:ai):Option (ai×Bool):=sS a>>=λd=>if d then qz a c>>=λe=>if e then fR a c>>=λ(f,g)=>ml f>>=λb=>some (b,true)else some ((ai.mk 0 0 [] 0 []),false)else some ((ai.mk 0 0 [] 0 []),false)
theorem xp {a:bD} {c:ai} {r:ai×Bool} (h:nV a c=some r):ACall Tryz.prog 23 [.agg [sl 6 aD.cells a.aw],.agg c.lit] [] (λres h=>res=.hJ [.agg r.1.lit,.bool r.2]/\h=[]):=by
 refine cr Tryz.func23 ?_;unfold nV at h;refine .d (.d (.d ⟨rfl,_,rfl,(bk h λp e h=>(cd (Jx e) (eX h (λg h=>?_) (λg h=>?_))))⟩));refine .t (.t (.t (.t (.t (.d ⟨rfl,_,_,rfl,aL,?_⟩)))));obtain rfl:=si h;exact⟨rfl,_,rfl,(en [] ⟨rfl,rfl⟩ (.qQ ⟨.cK ⟨.i,.i,.s,.i,.z,⟨⟩⟩,.b,⟨⟩⟩) ⟨⟩)⟩;refine⟨rfl,_,rfl,(.f ⟨rfl,_,rfl,(.f (bk h λq j h=>(cd (Bg j) (.f (.f (eX h (λk h=>?_) (λk h=>?_)))))))⟩)⟩;refine .d ⟨rfl,_,_,rfl,aL,?_⟩;obtain rfl:=si h;exact⟨rfl,_,rfl,(en [] ⟨rfl,rfl⟩ (.qQ ⟨.cK ⟨.i,.i,.s,.i,.z,⟨⟩⟩,.b,⟨⟩⟩) ⟨⟩)⟩;refine .d ⟨rfl,_,rfl,?_⟩;obtain⟨⟨u,v⟩,m,h⟩:=bd h;refine pc1 (IF m) [0] ?_;refine bk h λn o h=>(cd (Lt o) ⟨rfl,_,_,rfl,aL,?_⟩);obtain rfl:=si h;exact⟨rfl,_,rfl,(en [] ⟨rfl,rfl⟩ (.qQ ⟨.cK ⟨.i,.i,.s,.i,.l,⟨⟩⟩,.b,⟨⟩⟩) ⟨⟩)⟩
mutual
def W3 (a:ai):Option (ai):=(yL a ([]:List af) ([]:List af) 0:Option V0)>>=λ(l1,b)=>some (ai.mk a.aU a.bb a.bp a.aE b) partial_fixpoint
def yL (b:ai) (a:List af) (d:List af) (c:Int):Option V0:=if c<(b.aj.length:Int)then idx b.aj c>>=λe=>W3 e.av>>=λf=>pQ 96 d [(af.mk e.aN f)]>>=λg=>yL b a g (ah (c+1))else some (a,d) partial_fixpoint
end
def NK (a:ai) (r:ai):Prop:=sg2 143 a r
inductive xq:ai->(List af)->(List af)->Int->V0->Prop
 | mk (acs:ai->Option (ai)) (afA:∀a0 r,acs a0=some r->NK a0 r) (Lu:ai->(List af)->(List af)->Int->Option V0) (aab:∀a0 l10 Cz IG o,Lu a0 l10 Cz IG=some o->xq a0 l10 Cz IG o) (a0:ai) (l10:List af) (Cz:List af) (IG:Int) (o:(List af)×(List af)) (h:(
 (if IG<(a0.aj.length:Int)then
 idx a0.aj IG>>=λpk=>
 acs pk.av>>=λfp=>
 pQ 96 Cz [(af.mk pk.aN fp)]>>=λTZ=>
 Lu a0 l10 TZ (ah (IG+1))
 else
 some (l10,Cz))
 )=some o):xq a0 l10 Cz IG o
theorem ZB:(∀b r,W3 b=some r->NK b r)/\(∀b a c k o,yL b a c k=some o->xq b a c k o):=by
 refine W3.mutual_partial_correctness NK xq ?_ ?_;intro _ u b r h;refine cr Tryz.func143 ?_;refine .d (.d ⟨rfl,_,rfl,rfl,_,_,rfl,aL,(.d ⟨rfl,rfl,_,_,rfl,aL,?_⟩)⟩);obtain⟨A,h,E⟩:=bd h;refine .cut (λσ η=>∃l1,∃m,∃f2:Nat->List PV,∃f5:Nat->List PV,DR af.D l1.length f2 l1/\DR af.D m.length f5 m/\(l1,m)=A/\σ=[(2,.bE 0 0 0 0),(3,.bE 2 0 0 0)]/\η=[.row 0 5 1 41 (λ_=>[pI 0,pI 0,.str [],pI 0,.own 1 0 0 l1.length]),.row 0 8 l1.length 144 f2,.row 0 5 1 41 (λ_=>[pI b.aU,pI b.bb,.str b.bp,pI b.aE,.own 3 0 0 m.length]),.row 0 8 m.length 144 f5]) ?_ ?_;refine .d ⟨rfl,rfl,_,rfl,?_⟩;have v:=u _ _ _ _ _ h;refine le (xq.rec (motive:=λq a c k B _=>∀f11:Nat->List PV,∀e:Nat->List PV,DR af.D a.length f11 a->DR af.D c.length e c->b=q->A=B->aB _ _ [(2,.bE 0 0 0 0),(3,.bE 2 0 0 0),(9,sl 8 af.cells b.aj),(10,pI (b.aj.length:Int)),(11,pI k)] [.row 0 5 1 41 (λ_=>[pI 0,pI 0,.str [],pI 0,.own 1 0 0 a.length]),.row 0 8 a.length 144 f11,.row 0 5 1 41 (λ_=>[pI b.aU,pI b.bb,.str b.bp,pI b.aE,.own 3 0 0 c.length]),.row 0 8 c.length 144 e]) ?_ v (λ_=>[]) (λ_=>[]) ((DR.nil (D:=af.D)).self) ((DR.nil (D:=af.D)).self) rfl rfl) (tk [1,4,2,6] ⟨.p,.p,.l,.i,.i,⟨⟩⟩ ⟨(nb rfl ⟨.i,.i,.s,.i,.g,⟨⟩⟩),gh,(nb rfl ⟨.i,.i,.s,.i,.g,⟨⟩⟩),gh,⟨⟩⟩);intro _ w _ _ q a c k B h y f11 e d12 f F G;subst F;subst G;refine aB.round (.d (.d (sD h (λH h=>?_) (λH h=>?_))));refine .d (.d (bk h λn C h=>⟨aT C,_,(aJ C).trans (af.al n),rfl,_,_,rfl,aL,(.float [(0,true),(1,true),(2,true),(3,true),(4,true),(5,true),(6,false),(7,true),(8,false),(9,false),(10,true),(11,false)] ajt ?_)⟩));refine⟨rfl,rfl,_,rfl,rfl,rfl,_,rfl,rfl,rfl,_,rfl,(bk h λj I h=>(ie (w _ _ I) ?_))⟩;rintro _ _ ⟨z,d26,rfl,rfl⟩;refine⟨.agg [pI j.aU,pI j.bb,.str j.bp,pI j.aE,.own 5 0 0 j.aj.length],[.row 0 5 1 41 (λ_=>[pI 0,pI 0,.str [],pI 0,.own 1 0 0 a.length]),.row 0 8 a.length 144 f11,.row 0 5 1 41 (λ_=>[pI b.aU,pI b.bb,.str b.bp,pI b.aE,.own 3 0 0 c.length]),.row 0 8 c.length 144 e,.row 0 8 1 144 (λ_=>n.lit),.row 0 8 j.aj.length 144 z],rfl,ajJ,rfl,rfl,rfl,rfl,_,Oh,rfl,rfl,(bk h λJ t h=>(.oY ⟨rfl,rfl,(λ_ _=>rfl),DR.lbd f t,J.length,bu e c.length [.bool n.aN.bO,pI n.aN.bb,.str n.aN.bp,pI j.aU,pI j.bb,.str j.bp,pI j.aE,.own 5 0 0 j.aj.length],DR.ln f t,Of (DR.ln f t) ⟨.same _,.same _,.same _,.same _,.same _,.same _,.same _,.same _,trivial⟩,rfl,rfl,_,_,rfl,aL,(.ab 3 c.length 7 5 _ (λ_=>sw (DR.lq f t) (d26).po) λK=>?_)⟩))⟩;have d30:=DR.ab2 f t (af.gI (x:=(af.mk n.aN j)) (F0:=K) d26);exact lg (y _ _ _ _ _ h f11 _ d12 d30 rfl rfl) (tk [0,1,2,3] ⟨.p,.p,.l,.i,.i,⟨⟩⟩ Xr);exact ct ⟨_,_,f11,e,d12,f,si h,rfl,rfl⟩ (tk [0,1,2,3] vn Xr);rintro _ _ ⟨l1,m,f2,f5,O,d6,rfl,rfl,rfl⟩;replace h:=E;refine .d ⟨rfl,_,rfl,rfl,_,_,rfl,aL,?_⟩;obtain rfl:=si h;exact⟨rfl,_,rfl,(en [3] ⟨f5,d6.self,rfl,rfl⟩ Uh oS)⟩;intro F0 L M N b a c k o h;exact .mk F0 M L N b a c k o h
theorem ae5 {a:ai} {r:ai} (h:W3 a=some r):sg2 143 a r:=ZB.1 a r h
mutual
def dY (a:bD) (b:ai):Option (ai):=if a.aw.length+1=a.aw.length then dY default default else if b.aU=5 then idx a.aw b.bb>>=λc=>(gA a c ([]:List af) ([]:List af) 0:Option V0)>>=λ(f,d)=>some (ai.mk 4 0 [] c.ax.aE d)else W3 b>>=λe=>some e partial_fixpoint
def gA (c:bD) (a:aD) (d:List af) (e:List af) (b:Int):Option V0:=if b<(a.ax.ak.length:Int)then idx a.ax.ak b>>=λf=>if f.bS=true then dY c f.av>>=λg=>pQ 96 e [(af.mk f.aN g)]>>=λh=>gA c a d h (ah (b+1))else gA c a d e (ah (b+1))else some (d,e) partial_fixpoint
end
def Tv (a:bD) (b:ai) (r:ai):Prop:=aaA 88 a b r
inductive jv:bD->aD->(List af)->(List af)->Int->V0->Prop
 | mk (G88:bD->ai->Option (ai)) (afL:∀a0 a1 r,G88 a0 a1=some r->Tv a0 a1 r) (qd:bD->aD->(List af)->(List af)->Int->Option V0) (NL:∀a0 x6 wC BA yb o,qd a0 x6 wC BA yb=some o->jv a0 x6 wC BA yb o) (a0:bD) (x6:aD) (wC:List af) (BA:List af) (yb:Int) (o:(List af)×(List af)) (h:(
 (if yb<(x6.ax.ak.length:Int)then
 idx x6.ax.ak yb>>=λFR=>
 (if FR.bS=true then
 G88 a0 FR.av>>=λv31=>
 pQ 96 BA [(af.mk FR.aN v31)]>>=λl35=>
 qd a0 x6 wC l35 (ah (yb+1))
 else
 qd a0 x6 wC BA (ah (yb+1)))
 else
 some (wC,BA))
 )=some o):jv a0 x6 wC BA yb o
theorem Cc:(∀f E r,dY f E=some r->Tv f E r)/\(∀f j k e n o,gA f j k e n=some o->jv f j k e n o):=by
 refine dY.mutual_partial_correctness Tv jv ?_ ?_;intro _ _ U F f E r h;refine cr Tryz.func88 ?_;rw[mg ajo]at h;refine .d (.d (.d ⟨rfl,rfl,_,rfl,(sN h (λV h=>?_) (λV h=>?_))⟩));refine .d ⟨rfl,_,rfl,(bk h λt W h=>(ie (ae5 W) ?_))⟩;rintro _ _ ⟨P,Q,rfl,rfl⟩;refine⟨.agg [pI t.aU,pI t.bb,.str t.bp,pI t.aE,.own 3 0 0 t.aj.length],[.row 0 1 1 49 (λ_=>[sl 6 aD.cells f.aw]),.row 0 5 1 41 (λ_=>E.lit),.row 0 5 1 41 (λ_=>[pI 0,pI 0,.str [],pI 0,.au]),.row 0 8 t.aj.length 144 P],rfl,(by simp only[afO,afR,shr,oT Q];rfl),rfl,_,_,rfl,aL,?_⟩;obtain rfl:=si h;exact⟨rfl,_,rfl,(en [3] ⟨P,Q.self,rfl,rfl⟩ Uh oS)⟩;refine .d ⟨rfl,rfl,_,rfl,rfl,rfl,_,rfl,(bk h λj y h=>⟨aT y,_,(aJ y).trans (aD.al j),rfl,_,_,rfl,aL,(.d (cd (AH) ⟨rfl,_,_,rfl,aL,(.d ⟨rfl,rfl,_,rfl,rfl,?_⟩)⟩))⟩)⟩;refine⟨rfl,_,_,rfl,aL,?_⟩;obtain⟨R,h,G⟩:=bd h;refine .cut (λσ η=>∃u,∃v,∃f9:Nat->List PV,∃m:Nat->List PV,DR af.D u.length f9 u/\DR af.D v.length m v/\(u,v)=R/\σ=[(4,.bE 0 0 0 0),(6,.bE 2 0 0 0)]/\η=[.row 0 5 1 41 (λ_=>[pI 0,pI 0,.str [],pI 0,.own 1 0 0 u.length]),.row 0 8 u.length 144 f9,.row 0 5 1 41 (λ_=>[pI 4,pI 0,.str [],pI j.ax.aE,.own 3 0 0 v.length]),.row 0 8 v.length 144 m]) ?_ ?_;refine .d ⟨rfl,rfl,_,rfl,?_⟩;have H:=F _ _ _ _ _ _ h;refine le (jv.rec (motive:=λz A k e n B _=>∀b:Nat->List PV,∀c:Nat->List PV,DR af.D k.length b k->DR af.D e.length c e->f=z->j=A->R=B->aB _ _ [(2,.bE 0 0 0 0),(4,.bE 1 0 0 0),(6,.bE 3 0 0 0),(26,sl 10 aS.cells j.ax.ak),(27,pI (j.ax.ak.length:Int)),(28,pI n)] [.row 0 1 1 49 (λ_=>[sl 6 aD.cells f.aw]),.row 0 5 1 41 (λ_=>[pI 0,pI 0,.str [],pI 0,.own 2 0 0 k.length]),.row 0 8 k.length 144 b,.row 0 5 1 41 (λ_=>[pI 4,pI 0,.str [],pI j.ax.aE,.own 4 0 0 e.length]),.row 0 8 e.length 144 c]) ?_ H (λ_=>[]) (λ_=>[]) ((DR.nil (D:=af.D)).self) ((DR.nil (D:=af.D)).self) rfl rfl rfl) (tk [0,2,7,4,9] OT ⟨(nb rfl ⟨.l,⟨⟩⟩),(nb rfl ⟨.i,.i,.s,.i,.g,⟨⟩⟩),gh,(nb rfl ⟨.i,.i,.s,.i,.g,⟨⟩⟩),gh,⟨⟩⟩);intro _ I _ _ z A k e n B h S b c p d22 X Y J;subst X;subst Y;subst J;refine aB.round (.d (.d (sD h (λZ h=>?_) (λZ h=>?_))));refine .d (.d (bk h λw T h=>⟨aT T,_,(aJ T).trans (aS.al w),rfl,_,_,rfl,aL,(.d ⟨rfl,rfl,_,rfl,(sV h (λyv h=>?_) (λyv h=>?_))⟩)⟩));refine .float [(0,true),(1,true),(2,true),(3,true),(4,true),(5,true),(6,true),(7,false),(8,true),(9,false),(10,false),(11,true),(12,false)] ajt ?_;refine⟨rfl,rfl,_,rfl,rfl,rfl,_,rfl,rfl,_,rfl,rfl,rfl,_,rfl,(bk h λa CI h=>(ie (I _ _ _ CI) ?_))⟩;rintro _ _ ⟨K,q,rfl,rfl⟩;refine⟨.agg [pI a.aU,pI a.bb,.str a.bp,pI a.aE,.own 6 0 0 a.aj.length],[.row 0 1 1 49 (λ_=>[sl 6 aD.cells f.aw]),.row 0 5 1 41 (λ_=>[pI 0,pI 0,.str [],pI 0,.own 2 0 0 k.length]),.row 0 8 k.length 144 b,.row 0 5 1 41 (λ_=>[pI 4,pI 0,.str [],pI j.ax.aE,.own 4 0 0 e.length]),.row 0 8 e.length 144 c,.row 0 10 1 216 (λ_=>w.lit),.row 0 8 a.aj.length 144 K],rfl,(by simp only[afO,afR,shr,oT q];rfl),rfl,rfl,rfl,rfl,_,Oh,rfl,rfl,(bk h λL C h=>(.oY ⟨rfl,rfl,(λ_ _=>rfl),DR.lbd d22 C,L.length,bu c e.length [.bool w.aN.bO,pI w.aN.bb,.str w.aN.bp,pI a.aU,pI a.bb,.str a.bp,pI a.aE,.own 6 0 0 a.aj.length],DR.ln d22 C,Of (DR.ln d22 C) ⟨.same _,.same _,.same _,.same _,.same _,.same _,.same _,.same _,trivial⟩,rfl,rfl,_,_,rfl,aL,(.ab 4 e.length 7 6 _ (λ_=>sw (DR.lq d22 C) (q).po) λM=>?_)⟩))⟩;have N:=DR.ab2 d22 C (af.gI (x:=(af.mk w.aN a)) (F0:=M) q);exact lg (S _ _ _ _ _ _ h b _ p N rfl rfl rfl) (tk [0,1,2,3,4] OT aaF);exact lg (S _ _ _ _ _ _ h b c p d22 rfl rfl rfl) (tk [0,1,2,3,4] OT aaF);exact ct ⟨_,_,b,c,p,d22,si h,rfl,rfl⟩ (tk [1,2,3,4] vn Xr);rintro _ _ ⟨u,v,f9,m,d10,O,rfl,rfl,rfl⟩;replace h:=G;refine .d ⟨rfl,_,rfl,rfl,_,_,rfl,aL,?_⟩;obtain rfl:=si h;exact⟨rfl,_,rfl,(en [3] ⟨m,O.self,rfl,rfl⟩ Uh oS)⟩;intro F0 F1 zn zo f j k e n o h;exact .mk F0 zn F1 zo f j k e n o h
theorem FH {a:bD} {b:ai} {r:ai} (h:dY a b=some r):aaA 88 a b r:=Cc.1 a b r h
def nU (a:bD) (b:ai):Option (ai×Bool):=sT a>>=λc=>if c then qy a b>>=λd=>if d then dY a b>>=λe=>some (e,true)else some ((ai.mk 0 0 [] 0 []),false)else some ((ai.mk 0 0 [] 0 []),false)
theorem xr {c:bD} {e:ai} {r:ai×Bool} (h:nU c e=some r):ACall Tryz.prog 35 [.agg [sl 6 aD.cells c.aw],.agg e.lit] [] (λres h=>∃F0:Nat->List PV,DR af.D r.1.aj.length F0 r.1.aj/\res=.hJ [.agg [pI r.1.aU,pI r.1.bb,.str r.1.bp,pI r.1.aE,.own 0 0 0 r.1.aj.length],.bool r.2]/\h=[.row 0 8 r.1.aj.length 144 F0]):=by
 refine cr Tryz.func35 ?_;unfold nU at h;refine .d (.d (.d ⟨rfl,_,rfl,(bk h λo j h=>(cd (Jz j) (eX h (λk h=>?_) (λk h=>?_))))⟩));refine .t (.t (.t (.t (.t (.d (cd (vZ) ⟨rfl,_,_,rfl,aL,?_⟩))))));obtain rfl:=si h;exact⟨rfl,_,rfl,(en [3] ⟨_,(DR.nil (D:=af.D)),rfl,rfl⟩ (.qQ ⟨.cK ⟨.i,.i,.s,.i,.g,⟨⟩⟩,.b,⟨⟩⟩) ⟨gh,⟨⟩⟩)⟩;refine⟨rfl,_,rfl,(.f ⟨rfl,_,rfl,(.f (bk h λp l h=>(cd (Bf l) (.f (.f (eX h (λm h=>?_) (λm h=>?_)))))))⟩)⟩;refine .d (cd (vZ) ⟨rfl,_,_,rfl,aL,?_⟩);obtain rfl:=si h;exact⟨rfl,_,rfl,(en [3] ⟨_,(DR.nil (D:=af.D)),rfl,rfl⟩ (.qQ ⟨.cK ⟨.i,.i,.s,.i,.g,⟨⟩⟩,.b,⟨⟩⟩) ⟨gh,⟨⟩⟩)⟩;refine .d ⟨rfl,_,rfl,rfl,_,rfl,(bk h λa n h=>(ie (FH n) ?_))⟩;rintro _ _ ⟨f9,d10,rfl,rfl⟩;refine⟨.agg [pI a.aU,pI a.bb,.str a.bp,pI a.aE,.own 3 0 0 a.aj.length],[.row 0 1 1 49 (λ_=>[sl 6 aD.cells c.aw]),.row 0 5 1 41 (λ_=>e.lit),.row 0 5 1 41 (λ_=>[pI 0,pI 0,.str [],pI 0,.au]),.row 0 8 a.aj.length 144 f9],rfl,ajB,rfl,_,_,rfl,aL,?_⟩;obtain rfl:=si h;exact⟨rfl,_,rfl,(en [3] ⟨f9,d10.self,rfl,rfl⟩ (.qQ ⟨.cK ⟨.i,.i,.s,.i,.oe,⟨⟩⟩,.b,⟨⟩⟩) oS)⟩
def xf (a:cx) (c:Int):Option Int:=some (Lib.indexByte a c.toNat.toUInt8)
theorem IH {a:cx} {b:Int} {r:Int} (h:xf a b=some r):ACall Tryz.prog 212 [.str a,.int .u8 b] [] (λres h=>res=.int .i64 r/\h=[]):=by
 cases h;refine ACall.ext ⟨_,_,Tryz.func212,rfl,by kernel_rfl⟩ (λw vs S g i d hj=>?_) rfl [];obtain⟨v,hv,hp⟩:=hj 0 _ rfl;cases hp;obtain⟨j,c,f⟩:=hj 1 _ rfl;cases f;obtain rfl:=aag d hv c;refine(Tryz.strings_IndexByte ⟨⟨a⟩⟩ b w).mono ?_;rintro e w' ⟨rfl,rfl⟩;exact⟨_,rfl,λ_ _ _ _=>.int _ _,Below.refl _ _⟩
def dZ (a:Int):Option (Int):=sR [48,49,50,51,52,53,54,55,56,57,65,66,67,68,69,70] a>>=λb=>some (b.toNat:Int)
theorem qP {a:Int} {r:Int} (h:dZ a=some r):ACall Tryz.prog 211 [.int .u8 a] [] (λres h=>res=.int .u8 r/\h=[]):=by
 refine cr Tryz.func211 ?_;unfold dZ at h;refine .d (.d (bk h λc b h=>⟨ji b,c,jj b,?_⟩));obtain rfl:=si h;exact en [] ⟨rfl,rfl⟩ .i ⟨⟩
theorem II {a v:Int} (h:dZ a=some v):cB (UInt8.ofNat v.toNat)=[.int .u8 v]:=by
 unfold dZ at h;cases hs:sR [48,49,50,51,52,53,54,55,56,57,65,66,67,68,69,70] a with
 | none=>rw[hs]at h;cases h
 | some c=>
  rw[hs]at h;change some _=some _ at h
  cases h;unfold cB;simp
set_option maxRecDepth 100000
def sq (a:Int):Option (Bool):=if a>=65 then if a<=90 then some true else if a>=97 then some (decide (a<=122))else some false else if a>=97 then some (decide (a<=122))else some false
theorem FI {a:Int} {r:Bool} (h:sq a=some r):sg3 209 a r:=by
 refine cr Tryz.func209 ?_;unfold sq at h;refine .d (.d (sD h (λb h=>?_) (λb h=>?_)));refine .t (.t (sD h (λc h=>?_) (λc h=>?_)));exact .t (.t (.t (.t (eB h))));refine .f (.f (sD h (λe h=>?_) (λe h=>?_)));exact .t (.f (.t (.f (eB h))));exact ajj;refine .f (.f (.f (.f (.f (sD h (λg h=>?_) (λg h=>?_))))));exact .t (.f (.t (.f (eB h))));exact ajj
def uj (a:Int):Option (Bool):=if a>=48 then some (decide (a<=57))else some false
theorem IJ {a:Int} {r:Bool} (h:uj a=some r):sg3 210 a r:=by
 refine cr Tryz.func210 ?_;unfold uj at h;refine .d (.d (sD h (λb h=>?_) (λb h=>?_)));exact .t (.t (eB h));exact ajd
def pT (a:Int):Option (cx):=if a=38 then some [38,97,109,112,59]else if a=60 then some [38,108,116,59]else if a=62 then some [38,103,116,59]else if a=34 then some [38,113,117,111,116,59]else if a=39 then some [38,35,51,57,59]else some []
theorem FJ {a:Int} {r:cx} (h:pT a=some r):ACall Tryz.prog 208 [.int .u8 a] [] (λres h=>res=.str r/\h=[]):=by
 refine cr Tryz.func208 ?_;unfold pT at h;refine .d (.d (.d (.d (sE h (λb h=>?_) (λb h=>?_)))));exact aiX;refine .d (sE h (λc h=>?_) (λc h=>?_));exact aiX;refine .d (sE h (λe h=>?_) (λe h=>?_));exact aiX;refine .d (sE h (λf h=>?_) (λf h=>?_));exact aiX;refine .d (sE h (λg h=>?_) (λg h=>?_));exact aiX;exact aiX
def eO (a:cx) (d:List UInt8) (b:Int):Option ((List UInt8)):=if b<(a.length:Int)then sR a b>>=λg=>pT (g.toNat:Int)>>=λc=>if c=([]:cx)then sR a b>>=λe=>pQ 1 d ([e]:List UInt8)>>=λh=>eO a h (ah (b+1))else pQ 1 d c>>=λf=>eO a f (ah (b+1))else some d partial_fixpoint
def mm (a:cx):Option (cx):=(eO a ([]:List UInt8) 0:Option ((List UInt8)))>>=λl1=>some l1
theorem Cd {c:cx} {r:cx} (h:mm c=some r):ZX 176 c r:=by
 refine cr Tryz.func176 ?_;unfold mm at h;refine .d (.d ⟨row cB ([]:List UInt8),gJ cB ([]:List UInt8) rfl (ki rfl),?_⟩);obtain⟨f,h,iI⟩:=bd h;refine .cut (λσ η=>∃l1,l1=f/\σ=[(3,.own 0 0 0 l1.length)]/\η=[.row 0 1 l1.length 5 (row cB l1)]) ?_ ?_;refine .d ?_;refine le (eO.partial_correctness c (motive:=λe j k=>f=k->aB _ _ [(0,.str c),(3,.own 0 0 0 e.length),(4,pI j)] [.row 0 1 e.length 5 (row cB e)]) ?_ ([]:List UInt8) 0 f h rfl) (tk [0] G5 jH);intro x m e j k h q;subst q;refine aB.round (.d (.d (sD h (λs h=>?_) (λs h=>?_))));refine .d (.d (bk h λt n h=>⟨ji n,t,jj n,(bk h λu v h=>(cd (FJ v) (.d (sE h (λw h=>?_) (λw h=>?_)))))⟩));exact bk h λa o h=>⟨ji o,a,jj o,row cB ([a]:List UInt8),gJ cB ([a]:List UInt8) rfl (ki rfl),(bk h λp g h=>(.oY ⟨rfl,rfl,yK (l:=([a]:List UInt8)) b8,mP g,p.length,row cB p,kg g,kO g b8 (vF b8),(lg (m _ _ _ h rfl) (tk [0] G5 jH))⟩))⟩;exact bk h λb i h=>(.oY ⟨rfl,mP i,b.length,row cB b,kg i,kO i b8 UU,(lg (m _ _ _ h rfl) (tk [0] G5 jH))⟩);exact aiO;exact aio
def fB (b:cx) (d:List UInt8) (c:Int):Option ((List UInt8)):=if c<(b.length:Int)then sR b c>>=λa=>(sq (a.toNat:Int)>>=λh=>(if h then some true else uj (a.toNat:Int)>>=λi=>if i then some true else if(a.toNat:Int)=45 then some true else if(a.toNat:Int)=95 then some true else if(a.toNat:Int)=46 then some true else some ((a.toNat:Int)==126)):Option (Bool))>>=λj=>if j then pQ 1 d ([a]:List UInt8)>>=λk=>fB b k (ah (c+1))else dZ (IntKind.u8.wrap ((a.toNat:Int).tdiv 16))>>=λe=>dZ ((a.toNat:Int).tmod 16)>>=λf=>pQ 1 d ([(37:UInt8),UInt8.ofNat e.toNat,UInt8.ofNat f.toNat]:List UInt8)>>=λg=>fB b g (ah (c+1))else some d partial_fixpoint
def nW (a:cx):Option (cx):=(fB a ([]:List UInt8) 0:Option ((List UInt8)))>>=λl1=>some l1
theorem Ey {e:cx} {r:cx} (h:nW e=some r):ZX 177 e r:=by
 refine cr Tryz.func177 ?_;unfold nW at h;refine .d (.d ⟨row cB ([]:List UInt8),gJ cB ([]:List UInt8) rfl (ki rfl),?_⟩);obtain⟨j,h,iI⟩:=bd h;refine .cut (λσ η=>∃l1,l1=j/\σ=[(3,.own 0 0 0 l1.length)]/\η=[.row 0 1 l1.length 5 (row cB l1)]) ?_ ?_;refine .d ?_;refine le (fB.partial_correctness e (motive:=λa k p=>j=p->aB _ _ [(0,.str e),(3,.own 0 0 0 a.length),(4,pI k)] [.row 0 1 a.length 5 (row cB a)]) ?_ ([]:List UInt8) 0 j h rfl) (tk [0] G5 jH);intro J q a k p h x;subst x;refine aB.round (.d (.d (sD h (λy h=>?_) (λy h=>?_))));refine .d (.d (bk h λg s h=>⟨ji s,g,jj s,?_⟩));obtain⟨z,h,A⟩:=bd h;refine .cut (λσ η=>∃m,m=z/\σ=[(0,.str e),(3,.own 0 0 0 a.length),(4,pI k),(5,.int .u8 (g.toNat:Int)),(37,.bool m)]/\η=[.row 0 1 a.length 5 (row cB a)]) ?_ ?_;refine bk h λK B h=>(cd (FI B) (sV h (λC h=>?_) (λC h=>?_)));exact .t (.t (.t (.t (.t (.t (.t (.t (.t (.t (.t (.t (.t (.t (ct ⟨_,si h,rfl,rfl⟩ (tk [0] G3 jH)))))))))))))));refine .f (bk h λL D h=>(cd (IJ D) (.f (sV h (λE h=>?_) (λE h=>?_)))));exact .t (.t (.t (.t (.t (.t (.t (.t (.t (.t (.t (ct ⟨_,si h,rfl,rfl⟩ (tk [0] G3 jH))))))))))));refine .f (.f (sE h (λF h=>?_) (λF h=>?_)));exact .t (.t (.t (.t (.t (.t (.t (.t (ct ⟨_,si h,rfl,rfl⟩ (tk [0] G3 jH)))))))));refine .f (.f (sE h (λG h=>?_) (λG h=>?_)));exact .t (.t (.t (.t (.t (ct ⟨_,si h,rfl,rfl⟩ (tk [0] G3 jH))))));refine .f (.f (sE h (λH h=>?_) (λH h=>?_)));exact .t (.t (ct ⟨_,si h,rfl,rfl⟩ (tk [0] G3 jH)));exact .f (.f (ct ⟨_,si h,rfl,rfl⟩ (tk [0] G3 jH)));rintro _ _ ⟨m,rfl,rfl,rfl⟩;refine sV A (λI h=>?_) (λI h=>?_);exact⟨row cB ([g]:List UInt8),gJ cB ([g]:List UInt8) rfl (ki rfl),(bk h λu n h=>(.oY ⟨rfl,rfl,yK (l:=([g]:List UInt8)) b8,mP n,u.length,row cB u,kg n,kO n b8 (vF b8),(lg (q _ _ _ h rfl) (tk [0] G5 jH))⟩))⟩;exact⟨by decide,(bk h λb v h=>(cd (qP v) ⟨by decide,(bk h λc w h=>(cd (qP w) ⟨row cB ([(37:UInt8),UInt8.ofNat b.toNat,UInt8.ofNat c.toNat]:List UInt8),gJ cB ([(37:UInt8),UInt8.ofNat b.toNat,UInt8.ofNat c.toNat]:List UInt8) rfl (kI rfl ⟨.same _,trivial⟩ (kI (II v) ⟨.same _,trivial⟩ (kI (II w) ⟨.same _,trivial⟩ trivial))),(bk h λi o h=>(.oY ⟨rfl,rfl,yK (l:=([(37:UInt8),UInt8.ofNat b.toNat,UInt8.ofNat c.toNat]:List UInt8)) b8,mP o,i.length,row cB i,kg o,kO o b8 (vF b8),(lg (q _ _ _ h rfl) (tk [0] G5 jH))⟩))⟩))⟩))⟩;exact aiO;exact aio
def dJ (b:cx) (d:List UInt8) (c:Int):Option ((List UInt8)):=if c<(b.length:Int)then sR b c>>=λa=>((if(a.toNat:Int)<32 then some true else if(a.toNat:Int)>126 then some true else xf [92,39,34,60,62,38] (a.toNat:Int)>>=λf=>some (decide (f>=0))):Option (Bool))>>=λg=>if g then dZ (IntKind.u8.wrap ((a.toNat:Int).tdiv 16))>>=λe=>dZ ((a.toNat:Int).tmod 16)>>=λh=>pQ 1 d ([(92:UInt8),(120:UInt8),UInt8.ofNat e.toNat,UInt8.ofNat h.toNat]:List UInt8)>>=λi=>dJ b i (ah (c+1))else pQ 1 d ([a]:List UInt8)>>=λj=>dJ b j (ah (c+1))else some d partial_fixpoint
def kj (a:cx):Option (cx):=(dJ a ([]:List UInt8) 0:Option ((List UInt8)))>>=λl1=>some l1
theorem Aq {c:cx} {r:cx} (h:kj c=some r):ZX 178 c r:=by
 refine cr Tryz.func178 ?_;unfold kj at h;refine .d (.d ⟨row cB ([]:List UInt8),gJ cB ([]:List UInt8) rfl (ki rfl),?_⟩);obtain⟨i,h,iI⟩:=bd h;refine .cut (λσ η=>∃l1,l1=i/\σ=[(3,.own 0 0 0 l1.length)]/\η=[.row 0 1 l1.length 5 (row cB l1)]) ?_ ?_;refine .d ?_;refine le (dJ.partial_correctness c (motive:=λa j e=>i=e->aB _ _ [(0,.str c),(3,.own 0 0 0 a.length),(4,pI j)] [.row 0 1 a.length 5 (row cB a)]) ?_ ([]:List UInt8) 0 i h rfl) (tk [0] G5 jH);intro F q a j e h k;subst k;refine aB.round (.d (.d (sD h (λy h=>?_) (λy h=>?_))));refine .d (.d (bk h λg s h=>⟨ji s,g,jj s,?_⟩));obtain⟨z,h,A⟩:=bd h;refine .cut (λσ η=>∃m,m=z/\σ=[(0,.str c),(3,.own 0 0 0 a.length),(4,pI j),(5,.int .u8 (g.toNat:Int)),(26,.bool m)]/\η=[.row 0 1 a.length 5 (row cB a)]) ?_ ?_;refine sD h (λB h=>?_) (λB h=>?_);exact .t (.t (.t (.t (.t (.t (ct ⟨_,si h,rfl,rfl⟩ (tk [0] G3 jH)))))));refine .f (.f (sD h (λC h=>?_) (λC h=>?_)));exact .t (.t (.t (ct ⟨_,si h,rfl,rfl⟩ (tk [0] G3 jH))));exact .f (bk h λG D h=>(cd (IH D) (.f (.f (ct ⟨_,si h,rfl,rfl⟩ (tk [0] G3 jH))))));rintro _ _ ⟨m,rfl,rfl,rfl⟩;refine sV A (λE h=>?_) (λE h=>?_);exact⟨by decide,(bk h λb u h=>(cd (qP u) ⟨by decide,(bk h λn v h=>(cd (qP v) ⟨row cB ([(92:UInt8),(120:UInt8),UInt8.ofNat b.toNat,UInt8.ofNat n.toNat]:List UInt8),gJ cB ([(92:UInt8),(120:UInt8),UInt8.ofNat b.toNat,UInt8.ofNat n.toNat]:List UInt8) rfl (kI rfl ⟨.same _,trivial⟩ (kI rfl ⟨.same _,trivial⟩ (kI (II u) ⟨.same _,trivial⟩ (kI (II v) ⟨.same _,trivial⟩ trivial)))),(bk h λw o h=>(.oY ⟨rfl,rfl,yK (l:=([(92:UInt8),(120:UInt8),UInt8.ofNat b.toNat,UInt8.ofNat n.toNat]:List UInt8)) b8,mP o,w.length,row cB w,kg o,kO o b8 (vF b8),(lg (q _ _ _ h rfl) (tk [0] G5 jH))⟩))⟩))⟩))⟩;exact⟨row cB ([g]:List UInt8),gJ cB ([g]:List UInt8) rfl (ki rfl),(bk h λx p h=>(.oY ⟨rfl,rfl,yK (l:=([g]:List UInt8)) b8,mP p,x.length,row cB x,kg p,kO p b8 (vF b8),(lg (q _ _ _ h rfl) (tk [0] G5 jH))⟩))⟩;exact aiO;exact aio
def pU (b:Int) (a:cx):Option (cx):=if b=1 then mm a>>=λc=>some c else if b=2 then nW a>>=λd=>some d else if b=3 then kj a>>=λe=>some e else some a
theorem FK {a:Int} {b:cx} {r:cx} (h:pU a b=some r):ACall Tryz.prog 139 [pI a,.str b] [] (λres h=>res=.str r/\h=[]):=by
 refine cr Tryz.func139 ?_;unfold pU at h;refine .d (.d (.d (.d (sE h (λc h=>?_) (λc h=>?_)))));exact .d (bk h λk e h=>(cd (Cd e) (eS h)));refine .d (sE h (λf h=>?_) (λf h=>?_));exact .d (bk h λl g h=>(cd (Ey g) (eS h)));refine .d (sE h (λi h=>?_) (λi h=>?_));exact .d (bk h λm j h=>(cd (Aq j) (eS h)));exact aiX
def jt (a:UInt8):Option (cx):=if(a.toNat:Int)=38 then some [38,97,109,112,59]else if(a.toNat:Int)=60 then some [38,108,116,59]else if(a.toNat:Int)=62 then some [38,103,116,59]else if(a.toNat:Int)=34 then some [38,113,117,111,116,59]else if(a.toNat:Int)=39 then some [38,35,51,57,59]else some ([a]:List UInt8)
theorem FL {a:UInt8} {r:cx} (h:jt a=some r):ACall Tryz.prog 198 [.int .u8 (a.toNat:Int)] [] (λres h=>res=.str r/\h=[]):=by
 refine cr Tryz.func198 ?_;unfold jt at h;refine .d (.d (.d (.d (sE h (λb h=>?_) (λb h=>?_)))));exact aiX;refine .d (sE h (λc h=>?_) (λc h=>?_));exact aiX;refine .d (sE h (λe h=>?_) (λe h=>?_));exact aiX;refine .d (sE h (λf h=>?_) (λf h=>?_));exact aiX;refine .d (sE h (λg h=>?_) (λg h=>?_));exact aiX;exact .d ⟨row cB ([a]:List UInt8),gJ cB ([a]:List UInt8) rfl (ki rfl),rfl,([a]:List UInt8),rfl,kq b8 rfl,(eS h)⟩
def uk (a:Int):Option (Bool):=Ck (ah (a)) 97 122>>=λb=>if b then some true else Ck (ah (a)) 65 90>>=λc=>if c then some true else Ck (ah (a)) 48 57>>=λd=>if d then some true else if a=45 then some true else if a=95 then some true else if a=46 then some true else some (a==126)
theorem IK {a:Int} {r:Bool} (h:uk a=some r):sg3 199 a r:=by
 refine cr Tryz.func199 ?_;unfold uk at h;refine .d (.d (.d (bk h λn b h=>(cd (uR b) (sV h (λc h=>?_) (λc h=>?_))))));refine .t (.t (.t (.t (.t (.t (.t (.t (.t (.t (.t (.t (.t (.t (.t ?_))))))))))))));exact .t (.t (eB h));refine .f (bk h λo e h=>(cd (uR e) (.f (sV h (λg h=>?_) (λg h=>?_)))));exact .t (.t (.t (.t (.t (.t (.t (.t (.t (.t (.t (.t (.t (.t (eB h))))))))))))));refine .f (bk h λp i h=>(cd (uR i) (.f (sV h (λj h=>?_) (λj h=>?_)))));exact .t (.t (.t (.t (.t (.t (.t (.t (.t (.t (.t (eB h)))))))))));refine .f (.f (sE h (λk h=>?_) (λk h=>?_)));exact .t (.t (.t (.t (.t (.t (.t (.t (eB h))))))));refine .f (.f (sE h (λl h=>?_) (λl h=>?_)));exact .t (.t (.t (.t (.t (eB h)))));refine .f (.f (sE h (λm h=>?_) (λm h=>?_)));exact .t (.t (eB h));exact ajd
def vK (a:Int):Option (Bool):=Ck (ah (a)) 32 126>>=λb=>if b then if a=92 then some false else if a=39 then some false else if a=34 then some false else if a=60 then some false else if a=62 then some false else some (a != 38)else some false
theorem Lv {a:Int} {r:Bool} (h:vK a=some r):sg3 201 a r:=by
 refine cr Tryz.func201 ?_;unfold vK at h;refine .d (.d (bk h λl b h=>(cd (uR b) (sV h (λc h=>?_) (λc h=>?_)))));refine .t (.t (sN h (λe h=>?_) (λe h=>?_)));refine .t (.t (sN h (λg h=>?_) (λg h=>?_)));refine .t (.t (sN h (λi h=>?_) (λi h=>?_)));refine .t (.t (sN h (λj h=>?_) (λj h=>?_)));refine .t (.t (sN h (λk h=>?_) (λk h=>?_)));exact .t (.t (eB h));exact ajd;exact .f (.f (.f (.f (.f (eB h)))));exact aiS;exact .f (.f (.f (.f (.f (.f (.f (.f (.f (.f (.f (eB h)))))))))));exact .f (.f (.f (.f (.f (.f (.f (.f (.f (.f (.f (.f (.f (.f (eB h))))))))))))));refine .f (.f (.f (.f (.f (.f (.f (.f (.f (.f (.f (.f (.f (.f (.f ?_))))))))))))));exact ajd
def qI (a:Int):Option (cx):=sR [48,49,50,51,52,53,54,55,56,57,65,66,67,68,69,70] (bits .and .i64 (a.fdiv (2 ^ min (4:Int).toNat IntKind.i64.bits)) 15)>>=λb=>sR [48,49,50,51,52,53,54,55,56,57,65,66,67,68,69,70] (bits .and .i64 a 15)>>=λc=>some ([b,c]:List UInt8)
theorem Ez {e:Int} {r:cx} (h:qI e=some r):sg8 200 e r:=by
 refine cr Tryz.func200 ?_;unfold qI at h;refine .d (.d (.d (.float [(0,true),(1,true),(2,true),(3,true),(4,true),(5,true),(6,true),(7,true),(8,true),(9,false),(10,true),(11,true)] ajt ?_)));exact⟨by decide,(bk h λb f h=>⟨ji f,b,jj f,(bk h λc a h=>⟨ji a,c,jj a,row cB ([b,c]:List UInt8),gJ cB ([b,c]:List UInt8) rfl (ki rfl),rfl,([b,c]:List UInt8),rfl,kq b8 rfl,(eS h)⟩)⟩)⟩
def gm (a:cx) (d:cx) (b:Int):Option (cx):=if b<(a.length:Int)then sR a b>>=λe=>jt e>>=λc=>sQ d c>>=λf=>gm a f (ah (b+1))else some d partial_fixpoint
def mn (a:cx):Option (cx):=(gm a [] 0:Option (cx))>>=λs1=>some s1
theorem Ce {a:cx} {r:cx} (h:mn a=some r):ZX 162 a r:=by
 refine cr Tryz.func162 ?_;unfold mn at h;refine .d (.d ?_);obtain⟨b,h,iI⟩:=bd h;refine .cut (λσ η=>∃s1,s1=b/\σ=[(3,.str s1)]/\η=[]) ?_ ?_;refine .d ?_;refine le (gm.partial_correctness a (motive:=λc e f=>b=f->aB _ _ [(0,.str a),(3,.str c),(4,pI e)] []) ?_ [] 0 b h rfl) (tk [] I8 ⟨⟩);intro q j c e f h k;subst k;refine aB.round (.d (.d (sD h (λl h=>?_) (λl h=>?_))));exact .d (bk h λm g h=>⟨ji g,m,jj g,(bk h λn o h=>(cd (FL o) (bk h λp i h=>⟨jJ i,p,jK i,(lg (j _ _ _ h rfl) (tk [] I8 ⟨⟩))⟩)))⟩);exact ajf;exact air
def fC (b:cx) (c:cx) (a:Int):Option (cx):=if a<(b.length:Int)then sR b a>>=λf=>uk (f.toNat:Int)>>=λd=>if d then Pn b a (ah (a+1))>>=λg=>sQ c g>>=λh=>fC b h (ah (a+1))else sQ c [37]>>=λi=>sR b a>>=λe=>qI (ah ((e.toNat:Int)))>>=λj=>sQ i j>>=λk=>fC b k (ah (a+1))else some c partial_fixpoint
def nX (a:cx):Option (cx):=(fC a [] 0:Option (cx))>>=λs1=>some s1
theorem EA {a:cx} {r:cx} (h:nX a=some r):ZX 163 a r:=by
 refine cr Tryz.func163 ?_;unfold nX at h;refine .d (.d ?_);obtain⟨b,h,iI⟩:=bd h;refine .cut (λσ η=>∃s1,s1=b/\σ=[(3,.str s1)]/\η=[]) ?_ ?_;refine .d ?_;refine le (fC.partial_correctness a (motive:=λe f g=>b=g->aB _ _ [(0,.str a),(3,.str e),(4,pI f)] []) ?_ [] 0 b h rfl) (tk [] I8 ⟨⟩);intro B i e f g h p;subst p;refine aB.round (.d (.d (sD h (λq h=>?_) (λq h=>?_))));refine .d (.d (bk h λs j h=>⟨ji j,s,jj j,(bk h λt u h=>(cd (IK u) (sV h (λv h=>?_) (λv h=>?_))))⟩));exact bk h λw k h=>⟨Ob k,w,Oc k,(bk h λx l h=>⟨jJ l,x,jK l,(lg (i _ _ _ h rfl) (tk [] I8 ⟨⟩))⟩)⟩;exact bk h λy m h=>⟨jJ m,y,jK m,(bk h λc n h=>⟨ji n,c,jj n,(bk h λC z h=>(cd (Ez z) (bk h λA o h=>⟨jJ o,A,jK o,(lg (i _ _ _ h rfl) (tk [] I8 ⟨⟩))⟩)))⟩)⟩;exact ajf;exact air
def dK (b:cx) (c:cx) (a:Int):Option (cx):=if a<(b.length:Int)then sR b a>>=λf=>vK (f.toNat:Int)>>=λd=>if d then Pn b a (ah (a+1))>>=λg=>sQ c g>>=λh=>dK b h (ah (a+1))else sQ c [92,120]>>=λi=>sR b a>>=λe=>qI (ah ((e.toNat:Int)))>>=λj=>sQ i j>>=λk=>dK b k (ah (a+1))else some c partial_fixpoint
def kk (a:cx):Option (cx):=(dK a [] 0:Option (cx))>>=λs1=>some s1
theorem Ar {a:cx} {r:cx} (h:kk a=some r):ZX 164 a r:=by
 refine cr Tryz.func164 ?_;unfold kk at h;refine .d (.d ?_);obtain⟨b,h,iI⟩:=bd h;refine .cut (λσ η=>∃s1,s1=b/\σ=[(3,.str s1)]/\η=[]) ?_ ?_;refine .d ?_;refine le (dK.partial_correctness a (motive:=λe f g=>b=g->aB _ _ [(0,.str a),(3,.str e),(4,pI f)] []) ?_ [] 0 b h rfl) (tk [] I8 ⟨⟩);intro B i e f g h p;subst p;refine aB.round (.d (.d (sD h (λq h=>?_) (λq h=>?_))));refine .d (.d (bk h λs j h=>⟨ji j,s,jj j,(bk h λt u h=>(cd (Lv u) (sV h (λv h=>?_) (λv h=>?_))))⟩));exact bk h λw k h=>⟨Ob k,w,Oc k,(bk h λx l h=>⟨jJ l,x,jK l,(lg (i _ _ _ h rfl) (tk [] I8 ⟨⟩))⟩)⟩;exact bk h λy m h=>⟨jJ m,y,jK m,(bk h λc n h=>⟨ji n,c,jj n,(bk h λC z h=>(cd (Ez z) (bk h λA o h=>⟨jJ o,A,jK o,(lg (i _ _ _ h rfl) (tk [] I8 ⟨⟩))⟩)))⟩)⟩;exact ajf;exact air
def pV (b:Int) (a:cx):Option (cx):=if b=1 then mn a>>=λc=>some c else if b=2 then nX a>>=λd=>some d else if b=3 then kk a>>=λe=>some e else some a
theorem FM {a:Int} {b:cx} {r:cx} (h:pV a b=some r):ACall Tryz.prog 119 [pI a,.str b] [] (λres h=>res=.str r/\h=[]):=by
 refine cr Tryz.func119 ?_;unfold pV at h;refine .d (.d (.d (.d (sE h (λc h=>?_) (λc h=>?_)))));exact .d (bk h λk e h=>(cd (Ce e) (eS h)));refine .d (sE h (λf h=>?_) (λf h=>?_));exact .d (bk h λl g h=>(cd (EA g) (eS h)));refine .d (sE h (λi h=>?_) (λi h=>?_));exact .d (bk h λm j h=>(cd (Ar j) (eS h)));exact aiX
set_option maxRecDepth 100000
def Aa (a:List ay):Option ((List ay)):=pQ 32 ([]:List ay) a>>=λl1=>some l1
theorem P5 {c:List ay} {r:(List ay)} (h:Aa c=some r):aaB 135 c r:=by
 refine cr Tryz.func135 ?_;unfold Aa at h;refine .d (.d (.d ⟨λa=>?_,?_⟩));have e:=agw a;rw[e]at h;change some []=_ at h
 refine .t (.d ?_);obtain rfl:=si h;exact en [0] ⟨rfl,rfl⟩ .g ⟨gh,⟨⟩⟩;refine .f (.d ⟨row ay.cells ([]:List ay),gJ ay.cells ([]:List ay) rfl (ki rfl),(bk h λl1 b h=>(.oY ⟨rfl,mP b,l1.length,row ay.cells l1,kg b,kO b b8 Cs,?_⟩))⟩);exact aiv
def Ab (a:List aC):Option ((List aC)):=pQ 24 ([]:List aC) a>>=λl1=>some l1
theorem P6 {c:List aC} {r:(List aC)} (h:Ab c=some r):aaC 136 c r:=by
 refine cr Tryz.func136 ?_;unfold Ab at h;refine .d (.d (.d ⟨λa=>?_,?_⟩));have e:=agw a;rw[e]at h;change some []=_ at h
 refine .t (.d ?_);obtain rfl:=si h;exact en [0] ⟨rfl,rfl⟩ .g ⟨gh,⟨⟩⟩;refine .f (.d ⟨row aC.cells ([]:List aC),gJ aC.cells ([]:List aC) rfl (ki rfl),(bk h λl1 b h=>(.oY ⟨rfl,mP b,l1.length,row aC.cells l1,kg b,kO b b8 Cs,?_⟩))⟩);exact aiv
def iq (a:aR):Option (aR):=Aa a.az>>=λb=>Ab a.ao>>=λc=>some (aR.mk a.cm b c)
theorem rM {b:aR} {r:aR} (h:iq b=some r):sg4 83 b r:=by
 refine cr Tryz.func83 ?_;unfold iq at h;refine .d (.d (.float [(0,true),(1,true),(2,true),(3,true),(5,true),(6,true),(4,false),(7,false),(8,true),(9,false)] ajt ?_));refine⟨rfl,rfl,_,rfl,rfl,rfl,_,rfl,rfl,rfl,_,rfl,(bk h λa e h=>(CY (P5 e) (.own 2 0 0 a.length) [.row 0 3 1 56 (λ_=>b.lit),.row 0 3 1 56 (λ_=>[.str [],.au,.au]),.row 0 2 a.length 169 (row ay.cells a)] ⟨rfl,rfl,rfl,rfl,(bk h λc f h=>(CY (P6 f) (.own 3 0 0 c.length) [.row 0 3 1 56 (λ_=>b.lit),.row 0 3 1 56 (λ_=>[.str [],.au,.au]),.row 0 2 a.length 169 (row ay.cells a),.row 0 2 c.length 205 (row aC.cells c)] ⟨rfl,?_⟩))⟩))⟩;refine⟨rfl,rfl,_,_,rfl,aL,?_⟩;exact aix
def fD (a:aR) (c:Int) (b:Int):Option (Int):=if b<(a.ao.length:Int)then idx a.ao b>>=λd=>fD a (ah (c+(d.bO.length:Int))) (ah (b+1))else some c partial_fixpoint
def kR (a:aR):Option (Int):=(fD a (a.cm.length:Int) 0:Option (Int))>>=λy1=>some y1
theorem Ba {a:aR} {r:Int} (h:kR a=some r):ACall Tryz.prog 175 [.agg a.lit] [] (λres h=>res=pI r/\h=[]):=by
 refine cr Tryz.func175 ?_;unfold kR at h;refine .d (.d ⟨rfl,rfl,_,rfl,?_⟩);obtain⟨b,h,iI⟩:=bd h;refine .cut (λσ η=>∃y1,y1=b/\σ=[(3,pI y1)]/\η=[]) ?_ ?_;refine .d ⟨rfl,rfl,_,rfl,?_⟩;refine le (fD.partial_correctness a (motive:=λc e f=>b=f->aB _ _ [(3,pI c),(10,sl 2 aC.cells a.ao),(11,pI (a.ao.length:Int)),(12,pI e)] []) ?_ (a.cm.length:Int) 0 b h rfl) (tk [] ⟨.i,.l,.i,.i,⟨⟩⟩ ⟨⟩);intro o j c e f h k;subst k;refine aB.round (.d (.d (sD h (λm h=>?_) (λm h=>?_))));exact .d (.d (bk h λn g h=>⟨aT g,_,(aJ g).trans (aC.al n),rfl,_,_,rfl,aL,rfl,rfl,_,rfl,(lg (j _ _ _ h rfl) (tk [] ⟨.i,.l,.i,.i,⟨⟩⟩ ⟨⟩))⟩));exact aiG;exact aik
def oc (b:aR):Option (aR×Bool):=iq b>>=λa=>if(ah ((b.ao.length:Int) - 1))<0 then some (a,false)else WK a.ao (ah ((b.ao.length:Int) - 1))>>=λc=>some ((aR.mk a.cm a.az c),true)
theorem Bb {c:aR} {r:aR×Bool} (h:oc c=some r):ACall Tryz.prog 137 [.agg c.lit] [] (λres h=>res=.hJ [.agg r.1.lit,.bool r.2]/\h=[]):=by
 refine cr Tryz.func137 ?_;unfold oc at h;refine .d (.d ⟨rfl,_,rfl,(bk h λa f h=>(CY (rM f) (.agg [.str a.cm,.own 2 0 0 a.az.length,.own 3 0 0 a.ao.length]) [.row 0 3 1 56 (λ_=>c.lit),.row 0 3 1 56 (λ_=>[.str [],.au,.au]),.row 0 2 a.az.length 169 (row ay.cells a.az),.row 0 2 a.ao.length 205 (row aC.cells a.ao)] ⟨rfl,_,_,rfl,aL,(.d ⟨rfl,rfl,_,rfl,(.d (.d (sD h (λg h=>?_) (λg h=>?_))))⟩)⟩))⟩);refine .d ⟨rfl,_,rfl,rfl,_,_,rfl,aL,?_⟩;exact aiw;refine .d ⟨rfl,rfl,_,rfl,(bk h λi e h=>⟨rfl,trivial,HX e,_,i.length,rfl,Cr e,rfl,rfl,_,_,rfl,aL,(.d ⟨rfl,_,rfl,rfl,_,_,rfl,aL,?_⟩)⟩)⟩;obtain rfl:=si h;exact⟨rfl,_,rfl,(en [] ⟨rfl,rfl⟩ (.qQ ⟨.cK ⟨.s,.r,(.rp (Gi b8 e)),⟨⟩⟩,.b,⟨⟩⟩) ⟨⟩)⟩
def xg (c:aR) (b:cx):Option (aR×Bool):=iq c>>=λa=>kR c>>=λd=>if(ah (d+(b.length:Int)))>3000 then some (a,false)else if(ah ((a.ao.length:Int) - 1))>=0 then idx a.ao (ah ((a.ao.length:Int) - 1))>>=λe=>sQ e.bO b>>=λf=>idx a.ao (ah ((a.ao.length:Int) - 1))>>=λg=>some ((aR.mk a.cm a.az (a.ao.set ((ah ((a.ao.length:Int) - 1)).toNat) (aC.mk g.ir f))),true)else sQ a.cm b>>=λh=>some ((aR.mk h a.az a.ao),true)
theorem P7 {e:aR} {j:cx} {r:aR×Bool} (h:xg e j=some r):ACall Tryz.prog 138 [.agg e.lit,.str j] [] (λres h=>res=.hJ [.agg [.str r.1.cm,.own 0 0 0 r.1.az.length,.own 1 0 0 r.1.ao.length],.bool r.2]/\h=[.row 0 2 r.1.az.length 169 (row ay.cells r.1.az),.row 0 2 r.1.ao.length 205 (row aC.cells r.1.ao)]):=by
 refine cr Tryz.func138 ?_;unfold xg at h;refine .d (.d ⟨rfl,_,rfl,(bk h λa m h=>(CY (rM m) (.agg [.str a.cm,.own 2 0 0 a.az.length,.own 3 0 0 a.ao.length]) [.row 0 3 1 56 (λ_=>e.lit),.row 0 3 1 56 (λ_=>[.str [],.au,.au]),.row 0 2 a.az.length 169 (row ay.cells a.az),.row 0 2 a.ao.length 205 (row aC.cells a.ao)] ⟨rfl,_,_,rfl,aL,(.d (.d ⟨rfl,_,rfl,(bk h λv n h=>(cd (Ba n) (sD h (λp h=>?_) (λp h=>?_))))⟩))⟩))⟩);refine .d ⟨rfl,_,rfl,rfl,_,_,rfl,aL,?_⟩;obtain rfl:=si h;exact⟨rfl,_,rfl,(en [2,3] ⟨rfl,rfl⟩ (.qQ ⟨.cK ⟨.s,.o,.o,⟨⟩⟩,.b,⟨⟩⟩) I9)⟩;refine .d (.d ⟨rfl,rfl,_,rfl,rfl,(.d (sD h (λq h=>?_) (λq h=>?_)))⟩);refine .float [(0,true),(1,true),(2,true),(3,true),(4,true),(5,true),(6,true),(7,true),(8,true),(9,true),(10,true),(11,true),(12,true),(13,false)] ajt ?_;refine⟨rfl,rfl,_,rfl,rfl,rfl,_,rfl,(bk h λt c h=>⟨rfl,aT c,_,so _,rfl,rfl,_,((aJ c).trans (aC.al t)),(bk h λf k h=>⟨jJ k,f,jK k,(bk h λg i h=>⟨rfl,aT i,_,so _,rfl,rfl,_,row aC.cells (a.ao.set ((ah ((a.ao.length:Int) - 1)).toNat) (aC.mk g.ir f)),((aJ i).trans (aC.al g)),n7 (cN i) (aC.al (aC.mk g.ir f)) ⟨.same _,.same _,trivial⟩,(.d ?_)⟩)⟩)⟩)⟩;refine⟨rfl,_,rfl,rfl,_,_,rfl,aL,?_⟩;obtain rfl:=si h;exact⟨rfl,_,rfl,(en [2,3] ⟨rfl,rfl⟩ (.qQ ⟨.cK ⟨.s,.o,(.ox ln),⟨⟩⟩,.b,⟨⟩⟩) ⟨nw,(Xx rfl ln),⟨⟩⟩)⟩;refine⟨rfl,rfl,_,rfl,(bk h λu l h=>⟨jJ l,u,jK l,rfl,rfl,_,_,rfl,aL,(.d ⟨rfl,_,rfl,rfl,_,_,rfl,aL,?_⟩)⟩)⟩;obtain rfl:=si h;exact⟨rfl,_,rfl,(en [2,3] ⟨rfl,rfl⟩ (.qQ ⟨.cK ⟨.s,.o,.o,⟨⟩⟩,.b,⟨⟩⟩) I9)⟩
def nY (a:aR):Option (aR×Int):=oc a>>=λ(e,f)=>if f then idx a.ao (ah ((a.ao.length:Int) - 1))>>=λc=>pU c.ir c.bO>>=λg=>xg e g>>=λ(d,b)=>if b then some (d,0)else some (d,2)else none
theorem EB {b:aR} {r:aR×Int} (h:nY b=some r):ACall Tryz.prog 84 [.agg b.lit] [] (λres h=>res=.hJ [.agg [.str r.1.cm,.own 0 0 0 r.1.az.length,.own 1 0 0 r.1.ao.length],pI r.2]/\h=[.row 0 2 r.1.az.length 169 (row ay.cells r.1.az),.row 0 2 r.1.ao.length 205 (row aC.cells r.1.ao)]):=by
 refine cr Tryz.func84 ?_;unfold nY at h;refine .d (.d ⟨rfl,_,rfl,?_⟩);obtain⟨⟨g,p⟩,j,h⟩:=bd h;refine cd (Bb j) ⟨rfl,_,_,rfl,aL,(.d (.d (eX h (λk h=>?_) (λk h=>?_))))⟩;refine .d ?_;cases h;refine .d ⟨rfl,rfl,_,rfl,rfl,rfl,_,rfl,(bk h λe f h=>⟨aT f,_,(aJ f).trans (aC.al e),rfl,_,_,rfl,aL,(.d (.float [(0,true),(1,true),(2,true),(3,true),(4,true),(5,false),(6,false),(7,true),(8,true),(9,true),(10,false),(11,true)] ajt ?_))⟩)⟩;refine⟨rfl,_,rfl,rfl,rfl,_,rfl,rfl,rfl,_,rfl,(bk h λq l h=>(cd (FK l) ⟨rfl,?_⟩))⟩;obtain⟨⟨a,c⟩,m,h⟩:=bd h;refine CY (P7 m) (.hJ [.agg [.str a.cm,.own 4 0 0 a.az.length,.own 5 0 0 a.ao.length],.bool c]) [.row 0 3 1 56 (λ_=>b.lit),.row 0 3 1 56 (λ_=>[.str [],.au,.au]),.row 0 3 1 56 (λ_=>g.lit),.row 0 2 1 205 (λ_=>e.lit),.row 0 2 a.az.length 169 (row ay.cells a.az),.row 0 2 a.ao.length 205 (row aC.cells a.ao)] ⟨rfl,_,_,rfl,aL,(.d (.d (eX h (λn h=>?_) (λn h=>?_))))⟩;refine .d ⟨rfl,_,rfl,rfl,_,_,rfl,aL,?_⟩;obtain rfl:=si h;exact⟨rfl,_,rfl,(en [4,5] ⟨rfl,rfl⟩ (.qQ ⟨.cK ⟨.s,.o,.o,⟨⟩⟩,.i,⟨⟩⟩) I9)⟩;refine .d ⟨rfl,_,rfl,rfl,_,_,rfl,aL,?_⟩;obtain rfl:=si h;exact⟨rfl,_,rfl,(en [4,5] ⟨rfl,rfl⟩ (.qQ ⟨.cK ⟨.s,.o,.o,⟨⟩⟩,.i,⟨⟩⟩) I9)⟩
def jc (d:cx) (a:List ay) (b:List aC):Option ty4:=if(b.length:Int)>0 then nY (aR.mk d a b)>>=λ(c,e)=>jc c.cm c.az c.ao else some (d,a,b) partial_fixpoint
def pX (b:aR):Option (aR):=iq b>>=λa=>(jc a.cm a.az a.ao:Option ty4)>>=λ(c,d,e)=>some (aR.mk c d e)
theorem FN {i:aR} {r:aR} (h:pX i=some r):sg4 33 i r:=by
 refine cr Tryz.func33 ?_;unfold pX at h;refine .d (.d ⟨rfl,_,rfl,(bk h λb o h=>(CY (rM o) (.agg [.str b.cm,.own 2 0 0 b.az.length,.own 3 0 0 b.ao.length]) [.row 0 3 1 56 (λ_=>i.lit),.row 0 3 1 56 (λ_=>[.str [],.au,.au]),.row 0 2 b.az.length 169 (row ay.cells b.az),.row 0 2 b.ao.length 205 (row aC.cells b.ao)] ⟨rfl,_,_,rfl,aL,?_⟩))⟩);obtain⟨j,h,k⟩:=bd h;refine .cut (λσ η=>∃l,∃f,∃g,(l,f,g)=j/\σ=[(2,.bE 0 0 0 0),(3,.bE 1 0 0 0)]/\η=[.row 0 3 1 56 (λ_=>[.str [],.au,.au]),.row 0 3 1 56 (λ_=>[.str l,.own 2 0 0 f.length,.own 3 0 0 g.length]),.row 0 2 f.length 169 (row ay.cells f),.row 0 2 g.length 205 (row aC.cells g)]) ?_ ?_;refine le (jc.partial_correctness  (motive:=λm a c n=>j=n->aB _ _ [(2,.bE 0 0 0 0),(3,.bE 1 0 0 0)] [.row 0 3 1 56 (λ_=>[.str [],.au,.au]),.row 0 3 1 56 (λ_=>[.str m,.own 2 0 0 a.length,.own 3 0 0 c.length]),.row 0 2 a.length 169 (row ay.cells a),.row 0 2 c.length 205 (row aC.cells c)]) ?_ b.cm b.az b.ao j h rfl) (tk [1,4,2,3] vn Xs);intro p q m a c n h t;subst t;refine aB.round (.d (.d ⟨rfl,rfl,_,rfl,rfl,(sD h (λu h=>?_) (λu h=>?_))⟩));refine⟨rfl,_,rfl,?_⟩;obtain⟨⟨e,v⟩,w,h⟩:=bd h;exact aet (EB w) ⟨.cK ⟨.s,.r,.r,⟨⟩⟩,⟨⟩⟩ (.hJ [.agg [.str e.cm,.own 4 0 0 e.az.length,.own 5 0 0 e.ao.length],pI v]) [.row 0 3 1 56 (λ_=>[.str [],.au,.au]),.row 0 3 1 56 (λ_=>[.str m,.own 2 0 0 a.length,.own 3 0 0 c.length]),.row 0 2 a.length 169 (row ay.cells a),.row 0 2 c.length 205 (row aC.cells c),.row 0 2 e.az.length 169 (row ay.cells e.az),.row 0 2 e.ao.length 205 (row aC.cells e.ao)] (DK (AX (λ_=>rfl)) (DK (AX (λ_=>rfl)) Pr)) ⟨rfl,_,_,rfl,aL,(lg (q _ _ _ _ h rfl) (tk [0,1,4,5] vn Xs))⟩;exact ct ⟨_,_,_,si h,rfl,rfl⟩ (tk [0,1,2,3] vn Xs);rintro _ _ ⟨l,f,g,rfl,rfl,rfl⟩;replace h:=k;refine .d ⟨rfl,_,rfl,rfl,_,_,rfl,aL,?_⟩;exact aix
set_option maxRecDepth 100000
def mo (a:aR):Option (aR):=pQ 32 ([]:List ay) a.az>>=λl1=>pQ 24 ([]:List aC) a.ao>>=λb=>some (aR.mk a.cm l1 b)
theorem vU {c:aR} {r:aR} (h:mo c=some r):sg4 68 c r:=by
 refine cr Tryz.func68 ?_;unfold mo at h;refine .d (.d ⟨row ay.cells ([]:List ay),gJ ay.cells ([]:List ay) rfl (ki rfl),rfl,rfl,_,rfl,(bk h λl1 b h=>(.oY ⟨rfl,mP b,l1.length,row ay.cells l1,kg b,kO b b8 Cs,rfl,rfl,_,_,rfl,aL,(.d ⟨row aC.cells ([]:List aC),gJ aC.cells ([]:List aC) rfl (ki rfl),rfl,rfl,_,rfl,(bk h λe a h=>(.oY ⟨rfl,mP a,e.length,row aC.cells e,kg a,kO a b8 Cs,?_⟩))⟩)⟩))⟩);refine⟨rfl,rfl,_,_,rfl,aL,(.d ⟨rfl,_,rfl,rfl,_,_,rfl,aL,?_⟩)⟩;exact aix
def jb (a:aR) (c:Int) (b:Int):Option (Int):=if b<(a.ao.length:Int)then idx a.ao b>>=λd=>jb a (ah (c+(d.bO.length:Int))) (ah (b+1))else some c partial_fixpoint
def pW (a:aR):Option (Int):=(jb a (a.cm.length:Int) 0:Option (Int))>>=λy1=>some y1
theorem FO {a:aR} {r:Int} (h:pW a=some r):ACall Tryz.prog 161 [.agg a.lit] [] (λres h=>res=pI r/\h=[]):=by
 refine cr Tryz.func161 ?_;unfold pW at h;refine .d (.d ⟨rfl,rfl,_,rfl,?_⟩);obtain⟨b,h,iI⟩:=bd h;refine .cut (λσ η=>∃y1,y1=b/\σ=[(3,pI y1)]/\η=[]) ?_ ?_;refine .d ?_;refine le (jb.partial_correctness a (motive:=λc e f=>b=f->aB _ _ [(1,.bE 0 0 0 0),(3,pI c),(4,pI e)] [.row 0 3 1 56 (λ_=>a.lit)]) ?_ (a.cm.length:Int) 0 b h rfl) (tk [0] OX qf);intro m i c e f h j;subst j;refine aB.round (.d (.d ⟨rfl,rfl,_,rfl,(sD h (λk h=>?_) (λk h=>?_))⟩));exact .d ⟨rfl,rfl,_,rfl,(bk h λl g h=>⟨aT g,_,(aJ g).trans (aC.al l),(lg (i _ _ _ h rfl) (tk [0] OX qf))⟩)⟩;exact aiG;exact aik
def oh (b:aR):Option (aR×Bool):=mo b>>=λa=>if(a.ao.length:Int)=0 then some (a,false)else WK a.ao (ah ((a.ao.length:Int) - 1))>>=λc=>some ((aR.mk a.cm a.az c),true)
theorem Bc {c:aR} {r:aR×Bool} (h:oh c=some r):ACall Tryz.prog 117 [.agg c.lit] [] (λres h=>res=.hJ [.agg r.1.lit,.bool r.2]/\h=[]):=by
 refine cr Tryz.func117 ?_;unfold oh at h;refine .d (.d ⟨rfl,_,rfl,(bk h λa f h=>(CY (vU f) (.agg [.str a.cm,.own 2 0 0 a.az.length,.own 3 0 0 a.ao.length]) [.row 0 3 1 56 (λ_=>c.lit),.row 0 3 1 56 (λ_=>[.str [],.au,.au]),.row 0 2 a.az.length 169 (row ay.cells a.az),.row 0 2 a.ao.length 205 (row aC.cells a.ao)] ⟨rfl,_,_,rfl,aL,(.d (.d ⟨rfl,rfl,_,rfl,rfl,(sE h (λg h=>?_) (λg h=>?_))⟩))⟩))⟩);refine .d ⟨rfl,_,rfl,rfl,_,_,rfl,aL,?_⟩;exact aiw;refine .d ⟨rfl,rfl,_,rfl,rfl,rfl,_,rfl,rfl,(bk h λi e h=>⟨rfl,trivial,HX e,_,i.length,rfl,Cr e,rfl,rfl,_,_,rfl,aL,(.d ⟨rfl,_,rfl,rfl,_,_,rfl,aL,?_⟩)⟩)⟩;obtain rfl:=si h;exact⟨rfl,_,rfl,(en [] ⟨rfl,rfl⟩ (.qQ ⟨.cK ⟨.s,.r,(.rp (Gi b8 e)),⟨⟩⟩,.b,⟨⟩⟩) ⟨⟩)⟩
def xh (c:aR) (b:cx):Option (aR×Bool):=mo c>>=λa=>pW c>>=λd=>if(b.length:Int)>(ah (3000 - d))then some (a,false)else if(a.ao.length:Int)=0 then sQ a.cm b>>=λe=>some ((aR.mk e a.az a.ao),true)else idx a.ao (ah ((a.ao.length:Int) - 1))>>=λf=>sQ f.bO b>>=λg=>idx a.ao (ah ((a.ao.length:Int) - 1))>>=λh=>some ((aR.mk a.cm a.az (a.ao.set ((ah ((a.ao.length:Int) - 1)).toNat) (aC.mk h.ir g))),true)
theorem P8 {e:aR} {j:cx} {r:aR×Bool} (h:xh e j=some r):ACall Tryz.prog 118 [.agg e.lit,.str j] [] (λres h=>res=.hJ [.agg r.1.lit,.bool r.2]/\h=[]):=by
 refine cr Tryz.func118 ?_;unfold xh at h;refine .d (.d ⟨rfl,_,rfl,(bk h λa m h=>(CY (vU m) (.agg [.str a.cm,.own 2 0 0 a.az.length,.own 3 0 0 a.ao.length]) [.row 0 3 1 56 (λ_=>e.lit),.row 0 3 1 56 (λ_=>[.str [],.au,.au]),.row 0 2 a.az.length 169 (row ay.cells a.az),.row 0 2 a.ao.length 205 (row aC.cells a.ao)] ⟨rfl,_,_,rfl,aL,(.d (.d ⟨rfl,_,rfl,(bk h λu n h=>(cd (FO n) (sD h (λo h=>?_) (λo h=>?_))))⟩))⟩))⟩);refine .d ⟨rfl,_,rfl,rfl,_,_,rfl,aL,?_⟩;exact aiw;refine .d ⟨rfl,rfl,_,rfl,rfl,(.d (.d (sE h (λp h=>?_) (λp h=>?_))))⟩;refine⟨rfl,rfl,_,rfl,(bk h λq c h=>⟨jJ c,q,jK c,rfl,rfl,_,_,rfl,aL,(.d ⟨rfl,_,rfl,rfl,_,_,rfl,aL,?_⟩)⟩)⟩;exact aiw;refine .float [(0,true),(1,true),(2,true),(3,true),(4,true),(5,true),(6,true),(7,true),(8,true),(9,true),(10,true),(11,true),(12,true),(13,true),(14,true),(15,false)] ajt ?_;refine⟨rfl,rfl,_,rfl,rfl,rfl,_,rfl,(bk h λt k h=>⟨rfl,aT k,_,so _,rfl,rfl,_,((aJ k).trans (aC.al t)),(bk h λf l h=>⟨jJ l,f,jK l,(bk h λg i h=>⟨rfl,aT i,_,so _,rfl,rfl,_,row aC.cells (a.ao.set ((ah ((a.ao.length:Int) - 1)).toNat) (aC.mk g.ir f)),((aJ i).trans (aC.al g)),n7 (cN i) (aC.al (aC.mk g.ir f)) ⟨.same _,.same _,trivial⟩,(.d ?_)⟩)⟩)⟩)⟩;refine⟨rfl,_,rfl,rfl,_,_,rfl,aL,?_⟩;obtain rfl:=si h;exact⟨rfl,_,rfl,(en [] ⟨rfl,rfl⟩ (.qQ ⟨.cK ⟨.s,.r,(.rx ln),⟨⟩⟩,.b,⟨⟩⟩) ⟨⟩)⟩
def nZ (a:aR):Option (aR×Int):=oh a>>=λ(c,f)=>if f then idx a.ao (ah ((a.ao.length:Int) - 1))>>=λd=>pV d.ir d.bO>>=λg=>xh c g>>=λ(e,b)=>if b then some (e,0)else some (e,2)else some (c,1)
theorem EC {a:aR} {r:aR×Int} (h:nZ a=some r):ACall Tryz.prog 69 [.agg a.lit] [] (λres h=>res=.hJ [.agg r.1.lit,pI r.2]/\h=[]):=by
 refine cr Tryz.func69 ?_;unfold nZ at h;refine .d (.d ⟨rfl,_,rfl,?_⟩);obtain⟨⟨l,m⟩,c,h⟩:=bd h;refine cd (Bc c) ⟨rfl,_,_,rfl,aL,(.d (.d (eX h (λe h=>?_) (λe h=>?_))))⟩;refine .d ⟨rfl,_,rfl,rfl,_,_,rfl,aL,?_⟩;exact aiz;refine .d ⟨rfl,rfl,_,rfl,rfl,rfl,_,rfl,(bk h λf b h=>⟨aT b,_,(aJ b).trans (aC.al f),rfl,_,_,rfl,aL,(.d (.float [(0,true),(1,true),(2,true),(3,true),(4,true),(5,false),(6,false),(7,true),(8,true),(9,true),(10,false),(11,true)] ajt ?_))⟩)⟩;refine⟨rfl,_,rfl,rfl,rfl,_,rfl,rfl,rfl,_,rfl,(bk h λn g h=>(cd (FM g) ⟨rfl,?_⟩))⟩;obtain⟨⟨o,i⟩,j,h⟩:=bd h;refine cd (P8 j) ⟨rfl,_,_,rfl,aL,(.d (.d (eX h (λk h=>?_) (λk h=>?_))))⟩;refine .d ⟨rfl,_,rfl,rfl,_,_,rfl,aL,?_⟩;exact aiz;refine .d ⟨rfl,_,rfl,rfl,_,_,rfl,aL,?_⟩;exact aiz
def jd (d:cx) (a:List ay) (b:List aC):Option ty4:=if(b.length:Int)>0 then nZ (aR.mk d a b)>>=λ(c,e)=>jd c.cm c.az c.ao else some (d,a,b) partial_fixpoint
def pY (b:aR):Option (aR):=mo b>>=λa=>(jd a.cm a.az a.ao:Option ty4)>>=λ(c,d,e)=>some (aR.mk c d e)
theorem FP {c:aR} {r:aR} (h:pY c=some r):ACall Tryz.prog 21 [.agg c.lit] [] (λres h=>res=.agg r.lit/\h=[]):=by
 refine cr Tryz.func21 ?_;unfold pY at h;refine .d (.d ⟨rfl,_,rfl,(bk h λa o h=>(CY (vU o) (.agg [.str a.cm,.own 2 0 0 a.az.length,.own 3 0 0 a.ao.length]) [.row 0 3 1 56 (λ_=>c.lit),.row 0 3 1 56 (λ_=>[.str [],.au,.au]),.row 0 2 a.az.length 169 (row ay.cells a.az),.row 0 2 a.ao.length 205 (row aC.cells a.ao)] ⟨rfl,_,_,rfl,aL,?_⟩))⟩);obtain⟨e,h,f⟩:=bd h;refine .cut (λσ η=>∃g,∃i,∃j,(g,i,j)=e/\σ=[(2,.bE 0 0 0 0),(3,.bE 1 0 0 0)]/\η=[.row 0 3 1 56 (λ_=>[.str [],.au,.au]),.row 0 3 1 56 (λ_=>[.str g,sl 2 ay.cells i,sl 2 aC.cells j])]) ?_ ?_;refine le (jd.partial_correctness  (motive:=λk b m n=>e=n->aB _ _ [(2,.bE 0 0 0 0),(3,.bE 1 0 0 0)] [.row 0 3 1 56 (λ_=>[.str [],.au,.au]),.row 0 3 1 56 (λ_=>[.str k,sl 2 ay.cells b,sl 2 aC.cells m])]) ?_ a.cm a.az a.ao e h rfl) (tk [1,4] vn ⟨(nb rfl ⟨.s,.au,.au,⟨⟩⟩),(nb rfl ⟨.s,.r,.r,⟨⟩⟩),⟨⟩⟩);intro p q k b m n h t;subst t;refine aB.round (.d (.d ⟨rfl,rfl,_,rfl,(sD h (λu h=>?_) (λu h=>?_))⟩));refine⟨rfl,_,rfl,?_⟩;obtain⟨⟨w,x⟩,v,h⟩:=bd h;exact cd (EC v) ⟨rfl,_,_,rfl,aL,(lg (q _ _ _ _ h rfl) (tk [0,1] vn ⟨(nb rfl ⟨.s,.au,.au,⟨⟩⟩),(uv rfl),⟨⟩⟩))⟩;exact ct ⟨_,_,_,si h,rfl,rfl⟩ (tk [0,1] vn ⟨(nb rfl ⟨.s,.au,.au,⟨⟩⟩),(uv rfl),⟨⟩⟩);rintro _ _ ⟨g,i,j,rfl,rfl,rfl⟩;replace h:=f;refine .d ⟨rfl,_,rfl,rfl,_,_,rfl,aL,?_⟩;obtain rfl:=si h;exact⟨rfl,_,rfl,(en [] ⟨rfl,rfl⟩ (.cK ⟨.s,.l,.l,⟨⟩⟩) ⟨⟩)⟩
set_option maxRecDepth 100000
def jf (a:bJ) (b:aR) (c:Int):Option ((Unit) ⊕ cp):=if c<(a.cj.length:Int)then(idx a.cj c>>=λg=>(if g.cu=([115,101,115,115,105,111,110]:cx)then idx a.cj c>>=λh=>Ck h.jF 0 (ah ((a.dB.length:Int) - 1))>>=λi=>some i else some false):Option (Bool))>>=λd=>if d then idx a.cj c>>=λj=>idx a.dB j.jF>>=λk=>nV a.ko k>>=λ(f,l)=>if l then lP f>>=λe=>if e then some (.inr (cp.mk a.bR a.bA b.cm b.az f))else some (.inr (cp.mk a.bR a.bA b.cm b.az (ai.mk 0 0 [] 0 [])))else some (.inr (cp.mk a.bR a.bA b.cm b.az (ai.mk 0 0 [] 0 [])))else jf a b (ah (c+1))else some (.inl ()) partial_fixpoint
def pZ (a:bJ):Option (cp):=pY a.fq>>=λb=>((jf a b 0:Option ((Unit) ⊕ cp))>>=λc=>match c with | .inr r=>some r | .inl _=>some (cp.mk a.bR a.bA b.cm b.az (ai.mk 0 0 [] 0 [])))
theorem FQ {a:bJ} {r:cp} (h:pZ a=some r):ACall Tryz.prog 5 [.agg a.lit] [] (λres h=>res=.agg r.lit/\h=[]):=by
 refine cr Tryz.func5 ?_;unfold pZ at h;refine .d (.d ⟨rfl,rfl,_,rfl,rfl,rfl,_,rfl,rfl,_,_,rfl,aL,(.d ⟨rfl,rfl,_,rfl,(bk h λc A h=>(cd (FP A) ⟨rfl,_,_,rfl,aL,(.d ⟨rfl,?_⟩)⟩))⟩)⟩);refine⟨rfl,_,rfl,rfl,rfl,_,_,rfl,aL,(.d ⟨rfl,rfl,_,rfl,rfl,rfl,_,_,rfl,aL,?_⟩)⟩;obtain⟨g,h,qj⟩:=bd h;refine .cut (λσ η=>.inl ()=g/\σ=[(2,.bE 0 0 0 0),(3,.bE 1 0 0 0)]/\η=[.row 0 9 1 43 (λ_=>[pI 0,.str [],.str [],.au,pI 0,pI 0,.str [],pI 0,.au]),.row 0 9 1 43 (λ_=>[pI a.bR,.str a.bA,.str c.cm,sl 2 ay.cells c.az,pI 0,pI 0,.str [],pI 0,.au])]) ?_ ?_;refine .d ?_;refine le (jf.partial_correctness a c (motive:=λj v=>g=v->aB _ _ [(1,.bE 0 0 0 0),(2,.bE 1 0 0 0),(3,.bE 2 0 0 0),(5,pI j)] [.row 0 14 1 58 (λ_=>a.lit),.row 0 9 1 43 (λ_=>[pI 0,.str [],.str [],.au,pI 0,pI 0,.str [],pI 0,.au]),.row 0 9 1 43 (λ_=>[pI a.bR,.str a.bA,.str c.cm,sl 2 ay.cells c.az,pI 0,pI 0,.str [],pI 0,.au])]) ?_ 0 g h rfl) (tk [0,1,2] ⟨.p,.p,.p,.i,⟨⟩⟩ tz9);intro O B j v h C;subst C;refine aB.round (.d (.d ⟨rfl,rfl,_,rfl,(sD h (λD h=>?_) (λD h=>?_))⟩));refine .d ?_;obtain⟨k,h,E⟩:=bd h;refine .cut (λσ η=>∃e,e=k/\σ=[(1,.bE 0 0 0 0),(2,.bE 1 0 0 0),(3,.bE 2 0 0 0),(5,pI j),(48,.bool e)]/\η=[.row 0 14 1 58 (λ_=>a.lit),.row 0 9 1 43 (λ_=>[pI 0,.str [],.str [],.au,pI 0,pI 0,.str [],pI 0,.au]),.row 0 9 1 43 (λ_=>[pI a.bR,.str a.bA,.str c.cm,sl 2 ay.cells c.az,pI 0,pI 0,.str [],pI 0,.au])]) ?_ ?_;refine .float [(0,true),(1,true),(2,true),(3,true),(4,true),(5,true),(6,true),(7,true),(8,true),(9,true),(10,true),(11,true),(12,true),(13,true),(14,true),(15,true),(16,true),(17,true),(18,false),(19,true)] ajt ?_;refine⟨rfl,rfl,_,rfl,(bk h λF w h=>⟨aT w,_,(aJ w).trans (bc.al F),(sE h (λG h=>?_) (λG h=>?_))⟩)⟩;refine⟨rfl,(.t ⟨rfl,_,rfl,(.t (.t (bk h λH x h=>⟨aT x,_,(aJ x).trans (bc.al H),(.t (.t (.t ⟨rfl,(.t ⟨rfl,_,rfl,(.t (.t ?_))⟩)⟩)))⟩)))⟩)⟩;exact .t (bk h λP I h=>(cd (uR I) (.t (ct ⟨_,si h,rfl,rfl⟩ (tk [0,1,2] ⟨.p,.p,.p,.i,.b,⟨⟩⟩ tz9)))));exact .f (.f (.f (.f (.f (.f (.f (.f (.f (.f (.f (ct ⟨_,si h,rfl,rfl⟩ (tk [0,1,2] ⟨.p,.p,.p,.i,.b,⟨⟩⟩ tz9))))))))))));rintro _ _ ⟨e,rfl,rfl,rfl⟩;refine sV E (λJ h=>?_) (λJ h=>?_);refine .d (.NA [([(0,true),(1,true),(2,true),(3,true),(4,true),(5,true),(6,true),(7,true),(8,true),(9,true),(10,true),(11,true)],12,16,[(12,false),(13,true),(14,true),(15,true),(17,false),(18,true)])] [(13,true),(14,true),(15,true),(16,false),(17,false),(18,true)] ajt ?_);refine⟨rfl,rfl,_,rfl,rfl,rfl,_,rfl,rfl,rfl,_,rfl,(bk h λK y h=>⟨aT y,_,(aJ y).trans (bc.al K),(bk h λL z h=>⟨aT z,_,(aJ z).trans (ai.al L),?_,?_⟩)⟩)⟩;obtain⟨⟨M,N⟩,m,h⟩:=bd h;refine cd (xp m) ⟨rfl,rfl,rfl,rfl,rfl,rfl,rfl,_,_,rfl,aL,(.d (.d (sV h (λn h=>?_) (λn h=>?_))))⟩;refine⟨rfl,_,rfl,(.t (bk h λo q h=>(cd (zy q) (.t (sV h (λu h=>?_) (λu h=>?_))))))⟩;refine⟨rfl,_,rfl,rfl,rfl,_,_,rfl,aL,(.d ⟨rfl,_,rfl,rfl,_,_,rfl,aL,?_⟩)⟩;obtain rfl:=si h;obtain rfl:=si qj;exact⟨rfl,_,rfl,(en [] ⟨rfl,rfl⟩ (.cK ⟨.i,.s,.s,.l,.i,.i,.s,.i,.l,⟨⟩⟩) ⟨⟩)⟩;refine .d ⟨rfl,_,rfl,rfl,_,_,rfl,aL,?_⟩;obtain rfl:=si h;exact aim;refine .f (.f (.f (.d ⟨rfl,_,rfl,rfl,_,_,rfl,aL,?_⟩)));obtain rfl:=si h;exact aim;refine⟨rfl,rfl,rfl,rfl,rfl,rfl,?_⟩;obtain⟨⟨M,N⟩,m,h⟩:=bd h;refine cd (xp m) ⟨rfl,_,_,rfl,aL,(.d (.d (sV h (λn h=>?_) (λn h=>?_))))⟩;refine⟨rfl,_,rfl,(.t (bk h λo q h=>(cd (zy q) (.t (sV h (λu h=>?_) (λu h=>?_))))))⟩;refine⟨rfl,_,rfl,rfl,rfl,_,_,rfl,aL,(.d ⟨rfl,_,rfl,rfl,_,_,rfl,aL,?_⟩)⟩;obtain rfl:=si h;obtain rfl:=si qj;exact⟨rfl,_,rfl,(en [] ⟨rfl,rfl⟩ (.cK ⟨.i,.s,.s,.l,.i,.i,.s,.i,.l,⟨⟩⟩) ⟨⟩)⟩;refine .d ⟨rfl,_,rfl,rfl,_,_,rfl,aL,?_⟩;obtain rfl:=si h;exact aim;refine .f (.f (.f (.d ⟨rfl,_,rfl,rfl,_,_,rfl,aL,?_⟩)));obtain rfl:=si h;exact aim;exact lg (B _ _ h rfl) (tk [0,1,2] ⟨.p,.p,.p,.i,⟨⟩⟩ tz9);exact ct ⟨si h,rfl,rfl⟩ (tk [1,2] vn ⟨(nb rfl ⟨.i,.s,.s,.au,.i,.i,.s,.i,.au,⟨⟩⟩),(nb rfl ⟨.i,.s,.s,.l,.i,.i,.s,.i,.au,⟨⟩⟩),⟨⟩⟩);rintro _ _ ⟨rfl,rfl,rfl⟩;replace h:=qj;refine .d ⟨rfl,_,rfl,rfl,_,_,rfl,aL,?_⟩;obtain rfl:=si h;exact⟨rfl,_,rfl,(en [] ⟨rfl,rfl⟩ QH ⟨⟩)⟩
def je (a:bJ) (c:Int):Option (Int×Int×cx×Int×(List af)):=if c<(a.cj.length:Int)then idx a.cj c>>=λd=>if d.cu=([115,101,115,115,105,111,110]:cx)then LC d.jF 0 (ah ((a.dB.length:Int) - 1))>>=λe=>if e then idx a.dB d.jF>>=λg=>nU a.ko g>>=λ(b,h)=>if h then lO b>>=λf=>if f then some (b.aU,b.bb,b.bp,b.aE,b.aj)else some (0,0,[],0,([]:List af))else some (0,0,[],0,([]:List af))else je a (ah (c+1))else je a (ah (c+1))else some (0,0,[],0,([]:List af)) partial_fixpoint
def mR (a:bJ):Option (cp):=pX a.fq>>=λb=>(je a 0:Option (Int×Int×cx×Int×(List af)))>>=λ(c,d,e,f,g)=>some (cp.mk a.bR a.bA b.cm b.az (ai.mk c d e f g))
theorem yr {b:bJ} {r:cp} (h:mR b=some r):ACall Tryz.prog 7 [.agg b.lit] [] (λres h=>∃C:Nat->List PV,DR af.D r.aW.aj.length C r.aW.aj/\res=.agg [pI r.bR,.str r.bA,.str r.oX,.own 0 0 0 r.az.length,pI r.aW.aU,pI r.aW.bb,.str r.aW.bp,pI r.aW.aE,.own 1 0 0 r.aW.aj.length]/\h=[.row 0 2 r.az.length 169 (row ay.cells r.az),.row 0 8 r.aW.aj.length 144 C]):=by
 refine cr Tryz.func7 ?_;unfold mR at h;refine .d (.d ⟨rfl,rfl,_,rfl,(bk h λa I h=>(CY (FN I) (.agg [.str a.cm,.own 2 0 0 a.az.length,.own 3 0 0 a.ao.length]) [.row 0 14 1 58 (λ_=>b.lit),.row 0 9 1 43 (λ_=>[pI 0,.str [],.str [],.au,pI 0,pI 0,.str [],pI 0,.au]),.row 0 2 a.az.length 169 (row ay.cells a.az),.row 0 2 a.ao.length 205 (row aC.cells a.ao)] ⟨rfl,_,_,rfl,aL,(.d ⟨rfl,rfl,_,rfl,rfl,rfl,_,rfl,rfl,rfl,_,rfl,rfl,?_⟩)⟩))⟩);refine⟨rfl,_,rfl,rfl,_,_,rfl,aL,?_⟩;obtain⟨j,h,m⟩:=bd h;refine .cut (λσ η=>∃n,∃p,∃q,∃u,∃k,∃l:Nat->List PV,DR af.D k.length l k/\(n,p,q,u,k)=j/\σ=[(2,.bE 0 0 0 0),(4,.bE 3 0 0 0)]/\η=[.row 0 9 1 43 (λ_=>[pI 0,.str [],.str [],.own 1 0 0 ([]:List ay).length,pI 0,pI 0,.str [],pI 0,.own 2 0 0 0]),.row 0 2 ([]:List ay).length 169 (row ay.cells ([]:List ay)),.row 0 8 0 144 (λ_=>[]),.row 0 9 1 43 (λ_=>[pI b.bR,.str b.bA,.str a.cm,.own 4 0 0 a.az.length,pI n,pI p,.str q,pI u,.own 5 0 0 k.length]),.row 0 2 a.az.length 169 (row ay.cells a.az),.row 0 8 k.length 144 l]) ?_ ?_;refine .d ⟨rfl,rfl,_,rfl,?_⟩;refine le (je.partial_correctness b (motive:=λE F=>j=F->aB _ _ [(1,.bE 0 0 0 0),(2,.bE 1 0 0 0),(4,.bE 4 0 0 0),(22,sl 2 bc.cells b.cj),(23,pI (b.cj.length:Int)),(24,pI E)] [.row 0 14 1 58 (λ_=>b.lit),.row 0 9 1 43 (λ_=>[pI 0,.str [],.str [],.own 2 0 0 ([]:List ay).length,pI 0,pI 0,.str [],pI 0,.own 3 0 0 0]),.row 0 2 ([]:List ay).length 169 (row ay.cells ([]:List ay)),.row 0 8 0 144 (λ_=>[]),.row 0 9 1 43 (λ_=>[pI b.bR,.str b.bA,.str a.cm,.own 5 0 0 a.az.length,pI 0,pI 0,.str [],pI 0,.own 6 0 0 0]),.row 0 2 a.az.length 169 (row ay.cells a.az),.row 0 8 0 144 (λ_=>[])]) ?_ 0 j h rfl) (tk [0,1,8,9,5,2,12] OT ⟨(uv rfl),(nb rfl ⟨.i,.s,.s,.g,.i,.i,.s,.i,.g,⟨⟩⟩),gh,gh,(nb rfl ⟨.i,.s,.s,.o,.i,.i,.s,.i,.g,⟨⟩⟩),nw,gh,⟨⟩⟩);intro R se E F h J;subst J;refine aB.round (.d (.d (sD h (λK h=>?_) (λK h=>?_))));refine .d (.d (bk h λv G h=>⟨aT G,_,(aJ G).trans (bc.al v),rfl,_,_,rfl,aL,(.d (.d ⟨rfl,rfl,_,rfl,(wG h (λL h=>?_) (λL h=>?_))⟩))⟩));exact .t (.t (.t (.t (.t (.t (.t (.t (.t (lg (se _ _ h rfl) (tk [0,1,2,3,4,5,6] OT tz1))))))))));refine⟨rfl,(.f ⟨rfl,_,rfl,(.f ⟨rfl,(.f ⟨rfl,_,rfl,(.f (.f (.f (bk h λM N h=>(cd (Hf N) (.f (.f (eX h (λO h=>?_) (λO h=>?_)))))))))⟩)⟩)⟩)⟩;exact lg (se _ _ h rfl) (tk [0,1,2,3,4,5,6] OT tz1);refine .d (.NA [([(0,true),(1,true),(2,true),(3,true),(4,true),(5,true),(6,true),(7,true)],8,12,[(8,false),(9,true),(10,true),(11,true),(13,false),(14,true)])] [(9,true),(10,true),(11,true),(12,false),(13,false),(14,true)] ajt ?_);refine⟨rfl,rfl,_,rfl,rfl,rfl,_,rfl,rfl,rfl,_,rfl,(bk h λP H h=>⟨aT H,_,(aJ H).trans (ai.al P),?_,?_⟩)⟩;obtain⟨⟨c,w⟩,x,h⟩:=bd h;refine ie (xr x) ?_;rintro _ _ ⟨e,d29,rfl,rfl⟩;refine⟨.hJ [.agg [pI c.aU,pI c.bb,.str c.bp,pI c.aE,.own 8 0 0 c.aj.length],.bool w],[.row 0 14 1 58 (λ_=>b.lit),.row 0 9 1 43 (λ_=>[pI 0,.str [],.str [],.own 2 0 0 ([]:List ay).length,pI 0,pI 0,.str [],pI 0,.own 3 0 0 0]),.row 0 2 ([]:List ay).length 169 (row ay.cells ([]:List ay)),.row 0 8 0 144 (λ_=>[]),.row 0 9 1 43 (λ_=>[pI b.bR,.str b.bA,.str a.cm,.own 5 0 0 a.az.length,pI 0,pI 0,.str [],pI 0,.own 6 0 0 0]),.row 0 2 a.az.length 169 (row ay.cells a.az),.row 0 8 0 144 (λ_=>[]),.row 0 2 1 75 (λ_=>v.lit),.row 0 8 c.aj.length 144 e],rfl,ajI,rfl,rfl,rfl,rfl,rfl,rfl,rfl,_,_,rfl,aL,(.d (.d (sV h (λy h=>?_) (λy h=>?_))))⟩;refine⟨rfl,_,rfl,(.t (bk h λz A h=>(Up (zx A) ⟨.cK ⟨.i,.i,.s,.i,(.rd d29),⟨⟩⟩,⟨⟩⟩ (.t (sV h (λB h=>?_) (λB h=>?_))))))⟩;exact⟨rfl,_,rfl,rfl,rfl,_,_,rfl,aL,(ct ⟨_,_,_,_,_,e,d29,si h,rfl,rfl⟩ (tk [1,2,3,4,5,8] vn aaD))⟩;exact aiR;exact .f (.f (.f (ct ⟨_,_,_,_,_,_,(DR.nil (D:=af.D)).self,si h,rfl,rfl⟩ (tk [1,2,3,4,5,6] vn tz0))));refine⟨rfl,rfl,rfl,rfl,rfl,rfl,?_⟩;obtain⟨⟨c,w⟩,x,h⟩:=bd h;refine ie (xr x) ?_;rintro _ _ ⟨e,d29,rfl,rfl⟩;refine⟨.hJ [.agg [pI c.aU,pI c.bb,.str c.bp,pI c.aE,.own 9 0 0 c.aj.length],.bool w],[.row 0 14 1 58 (λ_=>b.lit),.row 0 9 1 43 (λ_=>[pI 0,.str [],.str [],.own 2 0 0 ([]:List ay).length,pI 0,pI 0,.str [],pI 0,.own 3 0 0 0]),.row 0 2 ([]:List ay).length 169 (row ay.cells ([]:List ay)),.row 0 8 0 144 (λ_=>[]),.row 0 9 1 43 (λ_=>[pI b.bR,.str b.bA,.str a.cm,.own 5 0 0 a.az.length,pI 0,pI 0,.str [],pI 0,.own 6 0 0 0]),.row 0 2 a.az.length 169 (row ay.cells a.az),.row 0 8 0 144 (λ_=>[]),.row 0 2 1 75 (λ_=>v.lit),.row 0 5 1 41 (λ_=>[pI 0,pI 0,.str [],pI 0,.au]),.row 0 8 c.aj.length 144 e],rfl,ajI,rfl,_,_,rfl,aL,(.d (.d (sV h (λy h=>?_) (λy h=>?_))))⟩;refine⟨rfl,_,rfl,(.t (bk h λz A h=>(Up (zx A) ⟨.cK ⟨.i,.i,.s,.i,(.rd d29),⟨⟩⟩,⟨⟩⟩ (.t (sV h (λB h=>?_) (λB h=>?_))))))⟩;exact⟨rfl,_,rfl,rfl,rfl,_,_,rfl,aL,(ct ⟨_,_,_,_,_,e,d29,si h,rfl,rfl⟩ (tk [1,2,3,4,5,9] vn aaD))⟩;exact aiR;exact .f (.f (.f (ct ⟨_,_,_,_,_,_,(DR.nil (D:=af.D)).self,si h,rfl,rfl⟩ (tk [1,2,3,4,5,6] vn tz0))));exact aiR;rintro _ _ ⟨n,p,q,u,k,l,Q,rfl,rfl,rfl⟩;replace h:=m;refine .d ⟨rfl,_,rfl,rfl,_,_,rfl,aL,?_⟩;obtain rfl:=si h;exact⟨rfl,_,rfl,(en [4,5] ⟨l,Q.self,rfl,rfl⟩ (.cK ⟨.i,.s,.s,.o,.i,.i,.s,.i,.oe,⟨⟩⟩) ⟨nw,wF,⟨⟩⟩)⟩
set_option maxRecDepth 100000
def jL (e:bJ):Option (Bool):=nz e 1048576>>=λC=>if C<0 then some true else(eC e>>=λD=>pZ D>>=λb=>some (b.bR,b.bA,b.oX,b.az,b.aW.aU,b.aW.bb,b.aW.bp,b.aW.aE,b.aW.aj):Option (Int×cx×cx×(List ay)×Int×Int×cx×Int×(List af)))>>=λ(h,i,j,k,l,m,n,o,p)=>eC e>>=λd=>mR d>>=λa=>((ky a (cp.mk h i j k (ai.mk l m n o p))>>=λE=>(if E then some (.inl ())else some (.inr false)):Option dR)>>=λF=>match F with | .inr r=>some r | .inl _=>eC e>>=λq=>nH d q>>=λs=>if s then iV d 1>>=λ(t,G)=>(((if t<0 then some (.inr false)else ky a (cp.mk h i j k (ai.mk l m n o p))>>=λu=>if u then some (.inl ())else some (.inr false)):Option dR)>>=λv=>match v with | .inr r=>some r | .inl _=>jZ a 1>>=λ(f,c)=>ib (cp.mk a.bR a.bA a.oX c.az (ai.mk a.aW.aU a.aW.bb a.aW.bp a.aW.aE c.aW.aj)) 1>>=λg=>(((if g<0 then some (.inr false)else some (.inl ())):Option dR)>>=λw=>match w with | .inr r=>some r | .inl _=>if g=f then eC e>>=λx=>mR x>>=λy=>((ky y (cp.mk h i j k (ai.mk l m n o p))>>=λz=>(if z then some (.inl ())else some (.inr false)):Option dR)>>=λA=>match A with | .inr r=>some r | .inl _=>ib (cp.mk a.bR a.bA a.oX c.az (ai.mk a.aW.aU a.aW.bb a.aW.bp a.aW.aE c.aW.aj)) 1>>=λB=>if B<0 then some false else if B=f then some true else some false)else some false))else some false)
theorem xi {v:bJ} {r:Bool} (h:jL v=some r):ACall Tryz.prog 3 [.agg v.lit] [] (λres h=>res=.bool r/\h=[]):=by
 refine cr Tryz.func3 ?_;unfold jL at h;refine .d (.d (.d ⟨rfl,_,rfl,(bk h λv1 gp h=>(cd (CP gp) (.d (.d (sD h (λkE h=>?_) (λkE h=>?_))))))⟩));exact aiD;obtain⟨Wn,h,Tz⟩:=bd h;refine .cut (λσ η=>∃w,∃x,∃y,∃z,∃A,∃B,∃C,∃D,∃E,(w,x,y,z,A,B,C,D,E)=Wn/\σ=[(1,.bE 0 0 0 0),(4,.bE 1 0 0 0)]/\η=[.row 0 14 1 36 (λ_=>v.lit),.row 0 9 1 43 (λ_=>[pI w,.str x,.str y,sl 2 ay.cells z,pI A,pI B,.str C,pI D,sl 8 af.cells E])]) ?_ ?_;exact⟨rfl,_,rfl,(bk h λmT wK h=>(cd (tC wK) (bk h λwb Hq h=>(cd (FQ Hq) ⟨rfl,_,_,rfl,aL,(ct ⟨_,_,_,_,_,_,_,_,_,si h,rfl,rfl⟩ (tk [0,1] vn ⟨(uv rfl),(uv rfl),⟨⟩⟩))⟩))))⟩;rintro _ _ ⟨w,x,y,z,A,B,C,D,E,rfl,rfl,rfl⟩;refine .d ⟨rfl,_,rfl,(bk Tz λa AD h=>(ie (B3 AD) ?_))⟩;rintro _ _ ⟨G,H,I,J,K,L,k,m,n,d29,q,u,rfl,rfl⟩;refine⟨.agg [pI a.bR,.str a.bA,pI a.jN,pI a.aE,.own 2 0 0 a.dB.length,.own 3 0 0 a.cj.length,.own 4 0 0 a.ko.aw.length,.own 5 0 0 a.dw.length,.own 6 0 0 a.cU.length,.own 7 0 0 a.lz.length,.own 8 0 0 a.ew.length,.str a.fq.cm,.own 9 0 0 a.fq.az.length,.own 10 0 0 a.fq.ao.length],[.row 0 14 1 36 (λ_=>v.lit),.row 0 9 1 43 (λ_=>[pI w,.str x,.str y,sl 2 ay.cells z,pI A,pI B,.str C,pI D,sl 8 af.cells E]),.row 0 5 a.dB.length 41 G,.row 0 2 a.cj.length 75 (row bc.cells a.cj),.row 0 6 a.ko.aw.length 212 H,.row 0 3 a.dw.length 150 I,.row 0 5 a.cU.length 152 J,.row 0 19 a.lz.length 160 K,.row 0 13 a.ew.length 158 L,.row 0 2 a.fq.az.length 169 (row ay.cells a.fq.az),.row 0 2 a.fq.ao.length 205 (row aC.cells a.fq.ao)],rfl,(by simp only[afO,afR,shr,oT k,oT m,oT n,oT d29,oT q,oT u];rfl),rfl,_,_,rfl,aL,(.d ⟨rfl,_,rfl,(bk h λb X8 h=>(ab0 (yr X8) ⟨.cK ⟨.i,.s,.i,.i,(.rd k),.r,(.rd m),(.rd n),(.rd d29),(.rd q),(.rd u),.s,.r,.r,⟨⟩⟩,⟨⟩⟩ (by rintro _ _ ⟨F,e,rfl,rfl⟩;exact⟨rfl,(Og (AX (λ_=>rfl)).p (Og e.flp YT))⟩) ?_))⟩)⟩;rintro _ _ ⟨F,e,rfl,rfl⟩;refine⟨.agg [pI b.bR,.str b.bA,.str b.oX,.own 12 0 0 b.az.length,pI b.aW.aU,pI b.aW.bb,.str b.aW.bp,pI b.aW.aE,.own 13 0 0 b.aW.aj.length],[.row 0 14 1 36 (λ_=>v.lit),.row 0 9 1 43 (λ_=>[pI w,.str x,.str y,sl 2 ay.cells z,pI A,pI B,.str C,pI D,sl 8 af.cells E]),.row 0 5 a.dB.length 41 G,.row 0 2 a.cj.length 75 (row bc.cells a.cj),.row 0 6 a.ko.aw.length 212 H,.row 0 3 a.dw.length 150 I,.row 0 5 a.cU.length 152 J,.row 0 19 a.lz.length 160 K,.row 0 13 a.ew.length 158 L,.row 0 2 a.fq.az.length 169 (row ay.cells a.fq.az),.row 0 2 a.fq.ao.length 205 (row aC.cells a.fq.ao),.row 0 14 1 58 (λ_=>[pI a.bR,.str a.bA,pI a.jN,pI a.aE,.own 2 0 0 a.dB.length,.own 3 0 0 a.cj.length,.own 4 0 0 a.ko.aw.length,.own 5 0 0 a.dw.length,.own 6 0 0 a.cU.length,.own 7 0 0 a.lz.length,.own 8 0 0 a.ew.length,.str a.fq.cm,.own 9 0 0 a.fq.az.length,.own 10 0 0 a.fq.ao.length]),.row 0 2 b.az.length 169 (row ay.cells b.az),.row 0 8 b.aW.aj.length 144 F],rfl,(by simp only[afO,afR,shr,oT e];rfl),rfl,_,_,rfl,aL,?_⟩;obtain⟨QV,h,EU⟩:=bd h;refine .cut (λσ η=>.inl ()=QV/\σ=[(1,.bE 0 0 0 0),(4,.bE 1 0 0 0),(5,.bE 2 0 0 0),(6,.bE 12 0 0 0)]/\η=[.row 0 14 1 36 (λ_=>v.lit),.row 0 9 1 43 (λ_=>[pI w,.str x,.str y,sl 2 ay.cells z,pI A,pI B,.str C,pI D,sl 8 af.cells E]),.row 0 14 1 58 (λ_=>[pI a.bR,.str a.bA,pI a.jN,pI a.aE,.own 3 0 0 a.dB.length,.own 4 0 0 a.cj.length,.own 5 0 0 a.ko.aw.length,.own 6 0 0 a.dw.length,.own 7 0 0 a.cU.length,.own 8 0 0 a.lz.length,.own 9 0 0 a.ew.length,.str a.fq.cm,.own 10 0 0 a.fq.az.length,.own 11 0 0 a.fq.ao.length]),.row 0 5 a.dB.length 41 G,.row 0 2 a.cj.length 75 (row bc.cells a.cj),.row 0 6 a.ko.aw.length 212 H,.row 0 3 a.dw.length 150 I,.row 0 5 a.cU.length 152 J,.row 0 19 a.lz.length 160 K,.row 0 13 a.ew.length 158 L,.row 0 2 a.fq.az.length 169 (row ay.cells a.fq.az),.row 0 2 a.fq.ao.length 205 (row aC.cells a.fq.ao),.row 0 9 1 43 (λ_=>[pI b.bR,.str b.bA,.str b.oX,.own 13 0 0 b.az.length,pI b.aW.aU,pI b.aW.bb,.str b.aW.bp,pI b.aW.aE,.own 14 0 0 b.aW.aj.length]),.row 0 2 b.az.length 169 (row ay.cells b.az),.row 0 8 b.aW.aj.length 144 F]) ?_ ?_;refine .d ⟨rfl,_,rfl,rfl,_,rfl,(bk h λLJ Rv h=>(Up (uA Rv) ⟨.cK ⟨.i,.s,.s,.r,.i,.i,.s,.i,(.rd e),⟨⟩⟩,.cK ⟨.i,.s,.s,.l,.i,.i,.s,.i,.l,⟨⟩⟩,⟨⟩⟩ (eX h (λS h=>?_) (λS h=>?_))))⟩;refine .d ?_;obtain rfl:=si h;exact eB EU;exact ct ⟨si h,rfl,rfl⟩ (tk [0,1,11,2,3,4,5,6,7,8,9,10,14,12,13] ⟨.p,.p,.p,.p,⟨⟩⟩ ⟨(uv rfl),(uv rfl),(nb rfl ⟨.i,.s,.i,.i,.oe,.o,.oe,.oe,.oe,.oe,.oe,.s,.o,.o,⟨⟩⟩),wF,nw,wF,wF,wF,wF,wF,nw,nw,(nb rfl ⟨.i,.s,.s,.o,.i,.i,.s,.i,.oe,⟨⟩⟩),nw,wF,⟨⟩⟩);rintro _ _ ⟨rfl,rfl,rfl⟩;replace h:=EU;refine .d (.d (.float [(0,true),(1,true),(2,false),(3,false),(4,true)] ajt ?_));refine⟨rfl,_,rfl,rfl,_,rfl,(bk h λbg T h=>(cd (tC T) ⟨rfl,(bk h λbj Rw h=>(Up (Db Rw) ⟨.cK ⟨.i,.s,.i,.i,(.rd k),.r,(.rd m),(.rd n),(.rd d29),(.rd q),(.rd u),.s,.r,.r,⟨⟩⟩,.cK ⟨.i,.s,.i,.i,.l,.l,.l,.l,.l,.l,.l,.s,.l,.l,⟨⟩⟩,⟨⟩⟩ (eX h (λQ9 h=>?_) (λQ9 h=>?_))))⟩))⟩;exact aiD;refine .d (.d ⟨rfl,_,rfl,?_⟩);obtain⟨⟨bn,tP⟩,U,h⟩:=bd h;refine YC (AP (aM:=0) (rf:=0) (JI:=0) (JJ:=0) (JK:=0) (JL:=0) (JM:=0) (JN:=0) (JO:=0) U k DR.rF m n d29 q u DR.rF DR.rF) [3,4,5,6,7,8,9,10,11] ⟨(rE k),(rE DR.rF),(rE m),(rE n),(rE d29),(rE q),(rE u),(rE DR.rF),(rE DR.rF),⟨⟩⟩ ?_;rintro _ _ ⟨bo,br,bt,bF,bL,bQ,bT,b0,b1,b2,b3,b4,b5,b6,b7,b9,cc,cn,rfl,rfl⟩;refine nx ?_;obtain⟨V,h,W⟩:=bd h;refine .cut (λσ η=>.inl ()=V/\σ=[(1,.bE 0 0 0 0),(4,.bE 1 0 0 0),(6,.bE 2 0 0 0)]/\η=[.row 0 14 1 36 (λ_=>v.lit),.row 0 9 1 43 (λ_=>[pI w,.str x,.str y,sl 2 ay.cells z,pI A,pI B,.str C,pI D,sl 8 af.cells E]),.row 0 9 1 43 (λ_=>[pI b.bR,.str b.bA,.str b.oX,.own 3 0 0 b.az.length,pI b.aW.aU,pI b.aW.bb,.str b.aW.bp,pI b.aW.aE,.own 4 0 0 b.aW.aj.length]),.row 0 2 b.az.length 169 (row ay.cells b.az),.row 0 8 b.aW.aj.length 144 F]) ?_ ?_;refine .d (sD h (λX h=>?_) (λX h=>?_));refine .t (.t (.t (.t (.t (.d ?_)))));obtain rfl:=si h;exact eB W;refine⟨rfl,_,rfl,(.f ⟨rfl,_,rfl,(.f (bk h λcq Y h=>(Up (uA Y) ⟨.cK ⟨.i,.s,.s,.r,.i,.i,.s,.i,(.rd e),⟨⟩⟩,.cK ⟨.i,.s,.s,.l,.i,.i,.s,.i,.l,⟨⟩⟩,⟨⟩⟩ (.f (.f (eX h (λZ h=>?_) (λZ h=>?_)))))))⟩)⟩;refine .d ?_;obtain rfl:=si h;exact eB W;exact ct ⟨si h,rfl,rfl⟩ (tk [0,1,12,13,14] ⟨.p,.p,.p,⟨⟩⟩ ⟨(uv rfl),(uv rfl),(nb rfl ⟨.i,.s,.s,.o,.i,.i,.s,.i,.oe,⟨⟩⟩),nw,wF,⟨⟩⟩);rintro _ _ ⟨rfl,rfl,rfl⟩;replace h:=W;refine .d (.d ⟨rfl,_,rfl,?_⟩);obtain⟨⟨O,cv⟩,aa,h⟩:=bd h;refine YC (BY (aM:=0) (rf:=0) aa DR.rF e) [3,4] ⟨(rE DR.rF),(rE e),⟨⟩⟩ ?_;rintro _ _ ⟨M,N,g,j,rfl,rfl⟩;refine nx ?_;refine .d (.d ⟨rfl,_,rfl,(bk h λad ag h=>(Up (vY ag) ⟨.cK ⟨.i,.s,.s,(.rd g (by first | rfl | exact g.len | exact g.len.symm)),.i,.i,.s,.i,(.rd j (by first | rfl | exact j.len | exact j.len.symm)),⟨⟩⟩,.i,⟨⟩⟩ ?_))⟩);obtain⟨aq,h,P⟩:=bd h;refine .cut (λσ η=>.inl ()=aq/\σ=[(1,.bE 0 0 0 0),(4,.bE 1 0 0 0),(6,.bE 2 0 0 0),(8,pI O),(9,pI ad)]/\η=[.row 0 14 1 36 (λ_=>v.lit),.row 0 9 1 43 (λ_=>[pI w,.str x,.str y,sl 2 ay.cells z,pI A,pI B,.str C,pI D,sl 8 af.cells E]),.row 0 9 1 43 (λ_=>[pI b.bR,.str b.bA,.str b.oX,.own 3 0 0 b.az.length,pI b.aW.aU,pI b.aW.bb,.str b.aW.bp,pI b.aW.aE,.own 4 0 0 b.aW.aj.length]),.row 0 2 b.az.length 169 M,.row 0 8 b.aW.aj.length 144 N]) ?_ ?_;refine .d (sD h (λa1 h=>?_) (λa1 h=>?_));refine .d ?_;obtain rfl:=si h;exact eB P;exact ct ⟨si h,rfl,rfl⟩ (tk [0,1,2,3,4] ⟨.p,.p,.p,.i,.i,⟨⟩⟩ ⟨(uv rfl),(uv rfl),(nb rfl ⟨.i,.s,.s,.oe,.i,.i,.s,.i,.oe,⟨⟩⟩),wF,wF,⟨⟩⟩);rintro _ _ ⟨rfl,rfl,rfl⟩;replace h:=P;refine .d (.d (sN h (λXW h=>?_) (λXW h=>?_)));exact aiD;refine .d ⟨rfl,_,rfl,(bk h λcy a2 h=>(cd (tC a2) (bk h λc a3 h=>(ie (yr a3) ?_))))⟩;rintro _ _ ⟨a4,Q,rfl,rfl⟩;refine⟨.agg [pI c.bR,.str c.bA,.str c.oX,.own 5 0 0 c.az.length,pI c.aW.aU,pI c.aW.bb,.str c.aW.bp,pI c.aW.aE,.own 6 0 0 c.aW.aj.length],[.row 0 14 1 36 (λ_=>v.lit),.row 0 9 1 43 (λ_=>[pI w,.str x,.str y,sl 2 ay.cells z,pI A,pI B,.str C,pI D,sl 8 af.cells E]),.row 0 9 1 43 (λ_=>[pI b.bR,.str b.bA,.str b.oX,.own 3 0 0 b.az.length,pI b.aW.aU,pI b.aW.bb,.str b.aW.bp,pI b.aW.aE,.own 4 0 0 b.aW.aj.length]),.row 0 2 b.az.length 169 M,.row 0 8 b.aW.aj.length 144 N,.row 0 2 c.az.length 169 (row ay.cells c.az),.row 0 8 c.aW.aj.length 144 a4],rfl,(by simp only[afO,afR,shr,oT Q];rfl),rfl,_,_,rfl,aL,?_⟩;obtain⟨a5,h,R⟩:=bd h;refine .cut (λσ η=>.inl ()=a5/\σ=[(6,.bE 0 0 0 0),(8,pI O)]/\η=[.row 0 9 1 43 (λ_=>[pI b.bR,.str b.bA,.str b.oX,.own 1 0 0 b.az.length,pI b.aW.aU,pI b.aW.bb,.str b.aW.bp,pI b.aW.aE,.own 2 0 0 b.aW.aj.length]),.row 0 2 b.az.length 169 M,.row 0 8 b.aW.aj.length 144 N]) ?_ ?_;refine .d ⟨rfl,_,rfl,rfl,_,rfl,(bk h λcz a6 h=>(Up (uA a6) ⟨.cK ⟨.i,.s,.s,.r,.i,.i,.s,.i,(.rd Q),⟨⟩⟩,.cK ⟨.i,.s,.s,.l,.i,.i,.s,.i,.l,⟨⟩⟩,⟨⟩⟩ (eX h (λRb h=>?_) (λRb h=>?_))))⟩;refine .d ?_;obtain rfl:=si h;exact eB R;exact ct ⟨si h,rfl,rfl⟩ (tk [2,3,4] G6 ⟨(nb rfl ⟨.i,.s,.s,.oe,.i,.i,.s,.i,.oe,⟨⟩⟩),wF,wF,⟨⟩⟩);rintro _ _ ⟨rfl,rfl,rfl⟩;refine .d (.d ⟨rfl,_,rfl,(bk R λZJ a7 h=>(Up (vY a7) ⟨.cK ⟨.i,.s,.s,(.rd g (by first | rfl | exact g.len | exact g.len.symm)),.i,.i,.s,.i,(.rd j (by first | rfl | exact j.len | exact j.len.symm)),⟨⟩⟩,.i,⟨⟩⟩ (.d (.d (sD h (λa8 h=>?_) (λa8 h=>?_))))))⟩);exact aiD;refine .d (.d (sN h (λa9 h=>?_) (λa9 h=>?_)));exact aiD;exact aiD
theorem sb {α β:Type} (a:α) (f:α->Option β):(some a>>=f)=f a:=rfl
theorem pR {s:cx} {i:Nat} (h:i<s.length):sR s (i:Int)=some (s.getD i 0):=by
 unfold sR;rw[an ⟨by omega,by omega⟩];rfl
theorem ba {α:Type} [Inhabited α] {l:List α} {i:Nat} (h:i<l.length):idx l (i:Int)=some l[i]:=by
 unfold idx;rw[an ⟨by omega,by omega⟩];simp [afP,h]
theorem Gv {x:Int} {n:Nat} (h:x=(n:Int)) (a:n<=9223372036854775807):ah x=(n:Int):=by
 subst h;exact B4 ajo ajo
theorem bm {i:Nat} (h:i<9223372036854775807):ah ((i:Int)+1)=((i+1:Nat):Int):=Gv ajo ajo
theorem sh {α:Type} {b:Nat} {l m:List α} (h:(l.length+m.length)*b<=140737488355328):pQ b l m=some (l++m):=an h
theorem pS (a b c:Int):Ck a b c=some (decide (b<=a/\a<=c)):=by
 unfold Ck;by_cases h:a>=b
 ·rw[an h];congr 1;simp;omega
 ·rw[mg h];congr 1;symm;rw[decide_eq_false_iff_not];omega
theorem Au:∀(k u:Nat),u<10 ^ (k+1)->Lib.nDigits u<=k+1
 | 0,u,h=>by rw[Lib.nDigits_small ajC];exact abF _
 | k+1,u,h=>by
  by_cases h1:u<10
  ·rw[Lib.nDigits_small h1];omega
  ·rw[Lib.nDigits_big h1];have:=Au k (u / 10) (by rw[Nat.pow_succ]at h;omega);omega
theorem ED (u:Nat):Lib.decDigits u=(if u / 10=0 then[]else Lib.decDigits (u / 10))++[UInt8.ofNat (48+u % 10)]:=by
 by_cases h:u<10
 ·rw[an ajo,Lib.decDigits,dif_pos h,show u % 10=u by omega];rfl
 ·rw[mg ajo];conv=>lhs;rw[Lib.decDigits,dif_neg h]
theorem TA:∀(k:Nat) (out:cx) (m:Int),m.natAbs<10 ^ k-> -9223372036854775808<=m->m<=9223372036854775807->k+out.length<=1000->
  wI out m=some ((if m=0 then[]else Lib.decDigits m.natAbs)++out)
 | 0,out,m,h,_,_,_=>by
  have:m=0:=by simp at h;exact h
  subst this;rw[wI,an rfl,an rfl];rfl
 | k+1,out,m,h,h0,h1,f=>by
  rw[wI];by_cases hm:m=0
  ·rw[an hm,an hm];rfl
  rw[mg hm,mg hm];have ab:(m.tmod 10).natAbs=m.natAbs % 10:=Int.natAbs_tmod m 10;have c:(m.tdiv 10).natAbs=m.natAbs / 10:=Int.natAbs_tdiv m 10;have e:ah (m.tdiv 10)=m.tdiv 10:=by rw[ah,B4]<;>omega
  have fin:∀d:Int,d=((m.natAbs % 10:Nat):Int)->UInt8.ofNat (IntKind.u8.wrap (ah (48+d))).toNat=UInt8.ofNat (48+m.natAbs % 10):=λd hd=>by
   subst hd;rw[ah,B4 ajo ajo,IntKind.wrap_u8];congr 1;omega
  have next:wI ([UInt8.ofNat (48+m.natAbs % 10)]++out) (ah (m.tdiv 10))=some (Lib.decDigits m.natAbs++out):=by
   rw[e,TA k _ _ (by rw[Nat.pow_succ]at h;omega) ajo ajo ajs,ED m.natAbs,c,agC];by_cases h:m.tdiv 10=0
   ·rw[an h,an ajo]
   ·rw[mg h,mg ajo]
  have hs:∀b:UInt8,sQ [b] out=some ([b]++out):=λb=>an ajs;by_cases a:m.tmod 10<0
  ·rw[an a,hs,sb,fin _ (by rw[ah,B4]<;>omega),next]
  ·rw[mg a,hs,sb,fin _ ajo,next]
theorem ZL (n:Int) (h0: -9223372036854775808<=n) (h1:n<=9223372036854775807):m94 n=some (Lib.itoa n):=by
 unfold m94;by_cases h:n=0
 ·subst h;rw[an rfl,show Lib.itoa 0=[48] by decide +kernel]
 rw[mg h,TA 20 [] n (by simp only[Nat.reducePow];omega) h0 h1 ajq,sb,mg h,agB];unfold Lib.itoa;have b:(Lib.decDigits n.natAbs).length<=20:=by rw[Lib.decDigits_length];exact Au 19 _ ajA
 by_cases a:n<0
 ·rw[an a,an a,sQ,an ajs];rfl
 ·rw[mg a,mg a,show n.natAbs=n.toNat by omega]
def acB (s:List UInt8):Option Nat->Option Nat
 | some v=>if v<=1000000000000/\Lib.decDigits v=s then some v else none
 | none=>none
def jE (s:List UInt8):Option Nat:=if 1<=s.length/\s.length<=13 then acB s (Lib.decFrom 0 s)else none
theorem IL {v:Nat} {c:UInt8} {r:List UInt8} (h:48<=c.toNat/\c.toNat<=57):Lib.decFrom v (c::r)=Lib.decFrom (v*10+(c.toNat - 48)) r:=by
 show(match Lib.digitVal c with | some d=>Lib.decFrom (v*10+d) r | none=>none)=_;rw[Lib.digitVal,an h]
theorem BB {v:Nat} {c:UInt8} {r:List UInt8} (h:¬(48<=c.toNat/\c.toNat<=57)):Lib.decFrom v (c::r)=none:=by
 show(match Lib.digitVal c with | some d=>Lib.decFrom (v*10+d) r | none=>none)=_;rw[Lib.digitVal,mg h]
theorem drop_cons {s:cx} {i:Nat} (h:i<s.length):s.drop i=s.getD i 0::s.drop (i+1):=by
 rw[agl h,afP];simp [h]
theorem TC (s:cx) (hs:s.length<=13):∀(n i v:Nat),i<=s.length->s.length - i=n->v<10 ^ i->
  yz s (v:Int) (i:Int)=some (match Lib.decFrom v (s.drop i)with | some u=>.inl (u:Int) | none=>.inr (0,false))
 | 0,i,v,hi,a,hv=>by
  have e:i=s.length:=by omega
  rw[yz,mg ajo,e,ahk];rfl
 | n+1,i,v,hi,a,hv=>by
  have hl:i<s.length:=by omega
  have c:v<10000000000000:=agc hv (Nat.pow_le_pow_right ajp (show i<=13 by omega));have hc:=(s.getD i 0).toNat_lt;rw[yz,an ajo,pR hl,sb,pS,sb,ah,B4 ajo ajo,drop_cons hl];by_cases hd:48<=(s.getD i 0).toNat/\(s.getD i 0).toNat<=57
  ·rw[an (by rw[agE];omega),sb,IL hd];have b:IntKind.u8.wrap (((s.getD i 0).toNat:Int) - 48)=(((s.getD i 0).toNat - 48:Nat):Int):=by rw[IntKind.wrap_u8];omega
   have e2:IntKind.i64.wrap (IntKind.i64.wrap (10*(v:Int))+IntKind.i64.wrap (IntKind.u8.wrap (((s.getD i 0).toNat:Int) - 48)))=((v*10+((s.getD i 0).toNat - 48):Nat):Int):=by
    rw[b,B4 (x:=10*(v:Int)) ajo ajo,B4 (x:=(((s.getD i 0).toNat - 48:Nat):Int)) ajo ajo,B4 ajo ajo];omega
   rw[ah,ah,ah,e2,bm ajo,TC s hs n (i+1) _ ajo ajo (by rw[Nat.pow_succ];omega)]
  ·rw[mg (by rw[agE];omega),BB hd]
def nbW:Option Nat->Int×Bool
 | some v=>((v:Int),true)
 | none=>(0,false)
theorem NM (s:cx):m61 s=some (nbW (jE s)):=by
 unfold m61 jE;rw[pS,sb];by_cases h:1<=s.length/\s.length<=13
 ·rw[an (by rw[agE];omega),an h];have e:=TC s h.2 s.length 0 0 ajo ajo ajq;rw[afZ]at e;replace e:yz s 0 0=_:=e;rw[e,sb];cases hd:Lib.decFrom 0 s with
  | none=>rfl
  | some u=>
   show(if(u:Int)>1000000000000 then some (0,false)else _)=some (nbW (if u<=1000000000000/\Lib.decDigits u=s then some u else none));by_cases h1:(u:Int)>1000000000000
   ·rw[an h1,mg ajo];rfl
   ·rw[mg h1,ZL _ ajo ajo,sb,Lib.itoa_nonneg];by_cases h2:Lib.decDigits u=s
    ·rw[an h2,an ⟨by omega,h2⟩];rfl
    ·rw[mg h2,mg (λh=>h2 h.2)];rfl
 ·rw[mg (by rw[agE];omega),mg h];rfl
def NN:Option Nat->Option Int
 | some v=>if v<=1000000000 then some (v:Int)else none
 | none=>none
def NP:Option Nat->Option Int
 | some v=>if v<=1000000000/\v≠0 then some (-(v:Int))else none
 | none=>none
def sp (s:cx):Option Int:=if s.head? =some 45 then NP (jE s.tail)else NN (jE s)
def nbi:Option Int->Int×Bool
 | some v=>(v,true)
 | none=>(0,false)
theorem ZM (s:cx):m54 s=some (nbi (sp s)):=by
 unfold m54 sp;cases s with
 | nil=>rw[mg ajq,sb,mg ajp,sb,NM,sb];rfl
 | cons c r=>
  have a:sR (c::r) 0=some c:=pR (s:=c::r) (i:=0) ajq;rw[an ajq,a,sb,sb];by_cases h:c=45
  ·subst h;rw[an ajp,an (show(45::r).head? =some 45 from rfl)];have b:Jl (45::r) 1=some r:=by unfold Jl;rw[an ⟨by omega,by simp only[age];omega⟩];rfl
   rw[b,sb,sb,NM,sb];show(match nbW (jE r)with | (d,e)=>_)=some (nbi (NP (jE r)));cases hp:jE r with
   | none=>rfl
   | some v=>
    show(if(v:Int)>1000000000 then some (0,false)else if(UInt8.toNat 45:Int)==45 then _ else _)=some (nbi (if v<=1000000000/\v≠0 then some (-(v:Int))else none));by_cases h1:(v:Int)>1000000000
    ·rw[an h1,mg ajo];rfl
    ·rw[mg h1,an ajp];by_cases h2:(v:Int)=0
     ·rw[an h2,mg ajo];rfl
     ·rw[mg h2,an ajo];show some (IntKind.i64.wrap (0 - (v:Int)),true)=some ((-(v:Int)),true);rw[B4 ajo ajo,Int.zero_sub]
  ·have hb:(((c.toNat:Int)==45):Bool)=false:=by
    rw[ahn];intro hc;exact h (UInt8.toNat_inj.1 (show c.toNat=(45:UInt8).toNat by simp;omega))
   rw[mg (by rw[hb];decide),sb,mg ajC,NM,sb,hb];cases hp:jE (c::r)with
   | none=>rfl
   | some v=>
    show(if(v:Int)>1000000000 then some (0,false)else if(false=true)then _ else _)=some (nbi (if v<=1000000000 then some (v:Int)else none));by_cases h1:(v:Int)>1000000000
    ·rw[an h1,mg ajo];rfl
    ·rw[mg h1,mg ajp,an ajo];rfl
theorem NQ {n:Int} (h0: -1000000000<=n) (h1:n<=1000000000):(Lib.itoa n).length<=11:=by
 unfold Lib.itoa;split
 ·simp only[age];rw[Lib.decDigits_length];have:=Au 9 n.natAbs ajA;omega
 ·rw[Lib.decDigits_length];have:=Au 9 n.toNat ajA;omega
theorem BC {n:Int} (h0:0<=n) (h1:n<=1000000000):(Lib.decDigits n.toNat).length<=10:=by
 rw[Lib.decDigits_length];exact Au 9 n.toNat ajA
def oY (s:cx) (o:Option Int):Option Int:=match o with | some n=>if Lib.itoa n=s/\(-1000000000:Int)<=n/\n<=1000000000 then some n else none | none=>none
theorem TD (s:cx) (hl:s.length<=18):pw s (-1000000000) 1000000000=oY s (Lib.atoi s):=by
 unfold pw oY;rw[mg ajo,Lib.atoiAll_short s hl];cases Lib.atoi s<;>rfl
theorem VE (s:cx) (hl:11<s.length):pw s (-1000000000) 1000000000=none:=by
 unfold pw;split
 ·rfl
 ·split
  ·rw[mg];intro h;have:=NQ h.2.1 h.2.2;rw[h.1]at this;omega
  ·rfl
theorem NR (s:cx) (hl:11<s.length):NN (jE s)=none:=by
 unfold jE;split
 ·cases Lib.decFrom 0 s with
  | none=>rfl
  | some v=>
   show NN (if v<=1000000000000/\Lib.decDigits v=s then some v else none)=none;by_cases h:v<=1000000000000/\Lib.decDigits v=s
   ·rw[an h];show(if v<=1000000000 then some (v:Int)else none)=none;rw[mg];intro hv;have:=BC (n:=(v:Int)) ajo ajo;rw[afT,h.2]at this;omega
   ·rw[mg h];rfl
 ·rfl
theorem Lw (s:cx) (hl:10<s.length):NP (jE s)=none:=by
 unfold jE;split
 ·cases Lib.decFrom 0 s with
  | none=>rfl
  | some v=>
   show NP (if v<=1000000000000/\Lib.decDigits v=s then some v else none)=none;by_cases h:v<=1000000000000/\Lib.decDigits v=s
   ·rw[an h];show(if v<=1000000000/\v≠0 then some (-(v:Int))else none)=none;rw[mg];intro hv;have:=BC (n:=(v:Int)) ajo ajo;rw[afT,h.2]at this;omega
   ·rw[mg h];rfl
 ·rfl
theorem VF (c:UInt8) (r:cx) (hl:(c::r).length<=11) (a:c≠45) (b:c≠43):oY (c::r) (Lib.atoi (c::r))=NN (jE (c::r)):=by
 have d:Lib.atoi (c::r)=(Lib.decFrom 0 (c::r)).map λ(m:Nat)=>(m:Int):=by
  show(if c==45 then _ else if c==43 then _ else(Lib.decNat (c::r)).map λ(m:Nat)=>(m:Int))=_;rw[mg (by simpa using a),mg (by simpa using b)];rfl
 have e:jE (c::r)=acB (c::r) (Lib.decFrom 0 (c::r)):=by unfold jE;rw[an ⟨by simp,by omega⟩]
 rw[d,e];cases hd:Lib.decFrom 0 (c::r)with
 | none=>rfl
 | some v=>
  show(if Lib.itoa (v:Int)=c::r/\(-1000000000:Int)<=v/\(v:Int)<=1000000000 then some (v:Int)else none)=NN (if v<=1000000000000/\Lib.decDigits v=c::r then some v else none);rw[Lib.itoa_nonneg];by_cases h2:Lib.decDigits v=c::r
  ·by_cases h3:v<=1000000000
   ·rw[an ⟨h2,by omega,by omega⟩,an ⟨by omega,h2⟩];show _=if v<=1000000000 then some (v:Int)else none
    rw[an h3]
   ·rw[mg (λh=>h3 (by have:=h.2.2;omega))];by_cases h4:v<=1000000000000
    ·rw[an ⟨h4,h2⟩];show _=if v<=1000000000 then some (v:Int)else none
     rw[mg h3]
    ·rw[mg (λh=>h4 h.1)];rfl
  ·rw[mg (λh=>h2 h.1),mg (λh=>h2 h.2)];rfl
theorem Lx (u:Nat):∀c r,Lib.decDigits u=c::r->48<=c.toNat:=by
 intro c r h;have hm:c∈Lib.decDigits u:=by rw[h];simp
 rw[Lib.decDigits_eq,ags]at hm;obtain⟨t,_,rfl⟩:=hm;unfold Lib.dg;simp;omega
theorem acC (s:cx):pw s (-1000000000) 1000000000=sp s:=by
 by_cases hl:11<s.length
 ·rw[VE s hl];unfold sp;split
  ·exact(Lw _ ajs).symm
  ·exact(NR _ hl).symm
 rw[TD s ajo];cases s with
 | nil=>rfl
 | cons c r=>
  unfold sp;by_cases a:c=45
  ·subst a;show oY (45::r) (Lib.atoi (45::r))=if some (45:UInt8)=some 45 then NP (jE r)else NN (jE (45::r))
   rw[an rfl];show oY (45::r) ((Lib.decNat r).map λ(m:Nat)=> -(m:Int))=NP (jE r);simp only[age]at hl;unfold Lib.decNat jE;cases r with
   | nil=>rfl
   | cons d r=>
    rw[mg ajq,an ⟨by simp,by omega⟩];cases hd:Lib.decFrom 0 (d::r)with
    | none=>rfl
    | some v=>
     show(if Lib.itoa (-(v:Int))=45::d::r/\(-1000000000:Int)<= -(v:Int)/\ -(v:Int)<=1000000000 then some (-(v:Int))else none)=NP (if v<=1000000000000/\Lib.decDigits v=d::r then some v else none);by_cases h0:v=0
     ·subst h0;rw[mg]
      ·by_cases h4:(0<=1000000000000/\Lib.decDigits 0=d::r)
       ·rw[an h4];rfl
       ·rw[mg h4];rfl
      ·intro h;have:=h.1;rw[show Lib.itoa (-((0:Nat):Int))=[48] by decide +kernel]at this;simp at this
     ·rw[Lib.itoa_neg v ajo];by_cases h2:Lib.decDigits v=d::r
      ·by_cases h3:v<=1000000000
       ·rw[an ⟨by rw[h2],by omega,by omega⟩,an ⟨by omega,h2⟩];show _=if v<=1000000000/\v≠0 then some (-(v:Int))else none
        rw[an ⟨h3,h0⟩]
       ·rw[mg (λh=>h3 (by have:=h.2.1;omega))];by_cases h4:v<=1000000000000
        ·rw[an ⟨h4,h2⟩];show _=if v<=1000000000/\v≠0 then some (-(v:Int))else none
         rw[mg (λh=>h3 h.1)]
        ·rw[mg (λh=>h4 h.1)];rfl
      ·rw[mg (λh=>h2 (by simpa using h.1)),mg (λh=>h2 h.2)];rfl
  ·rw[mg (by simpa using a)];by_cases b:c=43
   ·subst b
    have e:NN (jE (43::r))=none:=by
     unfold jE;split
     ·rw[BB ajp];rfl
     ·rfl
    rw[e];show oY (43::r) ((Lib.decNat r).map λ(m:Nat)=>(m:Int))=none;cases Lib.decNat r with
    | none=>rfl
    | some v=>
     show(if Lib.itoa (v:Int)=43::r/\_ then some (v:Int)else none)=none;rw[mg];intro h;have h1:=h.1;rw[Lib.itoa_nonneg]at h1;exact absurd (Lx v _ _ h1) ajp
   ·exact VF c r ajo a b
theorem af.eta (e:af):af.mk e.aN e.av=e:=by cases e;rfl
theorem ai.eta (v:ai):ai.mk v.aU v.bb v.bp v.aE v.aj=v:=by cases v;rfl
theorem bV.eta (k:bV):bV.mk k.bO k.bb k.bp=k:=rfl
inductive Sm:ai->Prop
 | mk {k n:Int} {s:cx} {x:Int} {l:List af} (h:l.length<=2000000) (hl:∀e∈l,Sm e.av):Sm (.mk k n s x l)
theorem Sm.len {v:ai} (h:Sm v):v.aj.length<=2000000:=by cases h;assumption
theorem Sm.of {v:ai} (h:v.aj.length<=2000000) (hl:∀e∈v.aj,Sm e.av):Sm v:=by
 cases v;exact .mk h hl
def vk (k:bV):Bool:=
 if k.bO=true then(if k.bb=0 then(if(k.bp.length:Int)<=400 then !(nbi (sp k.bp)).2 else false)else false)
 else(if decide ((-1000000000:Int)<=k.bb/\k.bb<=1000000000)=true then(k.bp==([]:cx))else false)
theorem Nb (k:bV):m23 k=some (vk k):=by
 unfold m23 vk;split
 ·rw[ZM,sb];show(if k.bb=0 then _ else _)=_;split
  ·split<;>rfl
  ·rfl
 ·rw[pS,sb];split<;>rfl
theorem ZN (s:cx):m98 s (-1000000000) 1000000000=some (nbi (sp s)):=by
 unfold m98;rw[acC];cases sp s<;>rfl
theorem SF (k:bV):XN k=some (vk k):=by
 unfold XN vk;split
 ·unfold m69;rw[ZN,sb];show(if k.bb=0 then _ else _)=_;split
  ·split<;>rfl
  ·rfl
 ·split
  ·rename_i h;unfold LC;rw[h];by_cases h1:(-1000000000:Int)<=k.bb
   ·rw[an h1,sb];by_cases h2:k.bb<=1000000000
    ·rw[an ajs,afU h2];rfl
    ·rw[mg ajs,afV h2]
   ·rw[mg h1,sb,mg ajs]
  ·rename_i h;split
   ·rw[ahn.2 h]
   ·rfl
def At (l:List af) (k:bV) (r:Int):Prop:=
 (r= -1/\∀e∈l,e.aN≠k)\/∃j,∃h:j<l.length,r=(j:Int)/\l[j].aN=k/\∀i,∀hi:i<j,(l[i]'ajo).aN≠k
theorem At.uniq {l:List af} {k:bV} {r:Int} {j:Nat} (h:At l k r) (hj:j<l.length) (he:l[j].aN=k) (hf:∀i,∀hi:i<j,(l[i]'ajo).aN≠k):r=(j:Int):=by
 rcases h with⟨_,h⟩ | ⟨i,hi,e,h1,h2⟩
 ·exact absurd he (h _ (afQ hj))
 ·rcases Nat.lt_trichotomy i j with h3 | h3 | h3
  ·exact absurd h1 (hf i h3)
  ·rw[e,h3]
  ·exact absurd he (h2 j h3)
theorem ZO (v:ai) (k:bV) (hk:v.aU=4) (hl:v.aj.length<=4000000):∀m i:Nat,i<=v.aj.length->v.aj.length - i=m->
  (∀j,∀hj:j<i,∀b:j<v.aj.length,v.aj[j].aN≠k)->∃r,yy v k (i:Int)=some r/\((r=.inl ()/\∀e∈v.aj,e.aN≠k)\/∃q,r=.inr q/\At v.aj k q):=by
 intro m;induction m with
 | zero=>
  intro i h1 h2 h3;rw[yy,an hk,mg ajo];refine⟨_,rfl,.inl ⟨rfl,λe he=>?_⟩⟩;obtain⟨j,hj,rfl⟩:=agr.1 he;exact h3 j ajo hj
 | succ m a=>
  intro i h1 h2 h3;have c:i<v.aj.length:=by omega
  rw[yy,an hk,an ajo,ba c,sb];by_cases he:v.aj[i].aN=k
  ·rw[an he];exact⟨_,rfl,.inr ⟨_,rfl,.inr ⟨i,c,rfl,he,λj hj=>h3 j hj ajo⟩⟩⟩
  ·rw[mg he,bm ajo];refine a (i+1) ajo ajo (λj hj b=>?_);rcases agI j i with h4 | h4
   ·exact h3 j h4 b
   ·obtain rfl:j=i:=by omega
    exact he
theorem ZP (v:ai) (k:bV) (hk:v.aU=4) (hl:v.aj.length<=4000000):∃r,V3 v k=some r/\At v.aj k r:=by
 obtain⟨r,e,h⟩:=ZO v k hk hl v.aj.length 0 ajo ajo (λj hj=>absurd hj (agz _));replace e:yy v k 0=some r:=e;unfold V3;rw[e,sb];rcases h with⟨rfl,h⟩ | ⟨q,rfl,h⟩
 ·exact⟨_,rfl,.inl ⟨rfl,h⟩⟩
 ·exact⟨_,rfl,h⟩
theorem TE {l:List af} {k:bV} {i:Nat} (h:At l k (i:Int)) (hi:i<l.length):∀j,∀hj:j<i,(l[j]'ajo).aN≠k:=by
 rcases h with⟨h,_⟩ | ⟨j,hj,e,h1,h2⟩
 ·omega
 ·obtain rfl:i=j:=by omega
  exact h2
mutual
def ai.wt:ai->Nat | .mk _ _ _ _ l=>1+af.za l
def af.wt:af->Nat | .mk _ v=>v.wt
def af.za:List af->Nat | []=>0 | x::r=>x.wt+af.za r
end
theorem ai.kP (v:ai):v.wt=1+af.za v.aj:=by cases v;simp [ai.wt]
theorem af.kP (e:af):e.wt=e.av.wt:=by cases e;simp [af.wt]
theorem qE (v:ai):1<=v.wt:=by rw[v.kP];omega
theorem xD:af.za []=0:=by simp [af.za]
theorem nS (x:af) (r:List af):af.za (x::r)=x.av.wt+af.za r:=by rw[<-x.kP];simp [af.za]
theorem Ow:∀a b:List af,af.za (a++b)=af.za a+af.za b
 | [],b=>by rw[agD,xD,so]
 | x::r,b=>by rw[agS,nS,nS,Ow r b];omega
theorem sf:∀(l:List af) (e:af),e∈l->e.av.wt<=af.za l
 | x::r,e,h=>by
  rw[nS];rcases afW.1 h with rfl | h
  ·omega
  ·have:=sf r e h;omega
theorem vG:∀l:List af,l.length<=af.za l
 | []=>by simp
 | x::r=>by rw[nS];have:=vG r;have:=qE x.av;simp only[age];omega
theorem Sm.Xd:∀(n:Nat),n<=2000000->∀v:ai,v.wt<=n->Sm v
 | 0,_,v,h=>by have:=qE v;omega
 | n+1,a,v,h=>by
  rw[v.kP]at h;refine Sm.of (by have:=vG v.aj;omega) (λe he=>Sm.Xd n ajo e.av ?_);have:=sf _ e he;omega
theorem ach {v:ai} (h:v.wt<=2000000):Sm v:=Sm.Xd _ (abF _) v h
theorem HY {v:ai}:v.aj.length<v.wt:=by rw[v.kP];have:=vG v.aj;omega
theorem Cu {v:ai} {e:af} (he:e∈v.aj):e.av.wt<v.wt:=by rw[v.kP];have:=sf _ e he;omega
mutual
def ai.kw:ai->Nat | .mk k _ _ _ l=>if k=4 then 1+af.NS l else 1
def af.kw:af->Nat | .mk _ v=>v.kw
def af.NS:List af->Nat | []=>0 | x::r=>x.kw+af.NS r
end
theorem ai.Gt (v:ai):v.kw=if v.aU=4 then 1+af.NS v.aj else 1:=by cases v;unfold ai.kw;rfl
theorem af.Gt (e:af):e.kw=e.av.kw:=by cases e;simp [af.kw]
theorem OL:af.NS []=0:=by simp [af.NS]
theorem Ly (x:af) (r:List af):af.NS (x::r)=x.av.kw+af.NS r:=by rw[<-x.Gt];simp [af.NS]
theorem TF (n:Nat) (a:∀v:ai,v.wt<=n->v.kw<=v.wt):∀l:List af,af.za l<=n->af.NS l<=af.za l
 | [],_=>by rw[OL];omega
 | x::r,h=>by
  rw[nS]at h;rw[Ly,nS];have:=a x.av ajo;have:=TF n a r ajo;omega
theorem OM:∀(n:Nat) (v:ai),v.wt<=n->v.kw<=v.wt
 | 0,v,h=>by have:=qE v;omega
 | n+1,v,h=>by
  have h':=h;rw[v.kP]at h';rw[v.Gt,v.kP];split
  ·have:=TF n (OM n) v.aj ajo;omega
  ·omega
theorem acD (v:ai):v.kw<=v.wt:=OM _ v (abF _)
theorem TG {l:List af} {i:Nat} (h:i<l.length):af.NS (l.drop i)=l[i].av.kw+af.NS (l.drop (i+1)):=by rw[agl h,Ly]
theorem afo {x:Int} {n:Nat} (h:x=(n:Int)) (a:n<9000000000000000000):ah x=(n:Int):=by subst h;rw[ah,B4 ajo ajo]
theorem Gn:∀(n:Nat),n<=2000000->∀v:ai,v.wt<=n->ov v=some (v.kw:Int)
 | 0,_,v,h=>by have:=qE v;omega
 | n+1,f,v,h=>by
  have hlen:=HY (v:=v);have a:=acD v;rw[ov,v.Gt];by_cases hk:v.aU=4
  ·rw[v.Gt,an hk]at a
   have go:∀m i:Nat,i<=v.aj.length->v.aj.length - i=m->∀y:Nat,y+af.NS (v.aj.drop i)=1+af.NS v.aj->jy v (y:Int) (i:Int)=some ((1+af.NS v.aj:Nat):Int):=by
    intro m;induction m with
    | zero=>
     intro i h1 h2 y hy;rw[jy,mg ajo];rw[ahF ajo,OL]at hy;rw[<-hy];rfl
    | succ m b=>
     intro i h1 h2 y hy;have c:i<v.aj.length:=by omega
     rw[TG c]at hy;have d:=Cu (afQ c);rw[jy,an ajo,ba c,sb,Gn n ajo _ ajo,sb,bm ajo,afo (n:=y+v.aj[i].av.kw) ajo ajo];exact b (i+1) ajo ajo _ ajo
   have e:=go v.aj.length 0 ajo ajo 1 ajq;replace e:jy v 1 0=some ((1+af.NS v.aj:Nat):Int):=e;rw[an hk,an hk,e,sb]
  ·rw[mg hk,mg hk,sb];rfl
mutual
def ai.PL:ai->Bool
 | .mk k n s x l=>(decide (k=3)||s==[])&&(decide (k=4)||(decide (x=0)&&l.isEmpty))&&
   (if k=0 then n==0 else if k=1 then(decide (n=0)||n==1)else if k=2 then decide (-1000000000<=n/\n<=1000000000)else if k=3 then(decide (n=0)&&decide ((s.length:Int)<=400))
    else if k=6\/k=7\/k=8 then decide (0<=n/\n<=255)else if k=4 then decide (n=0)&&decide (0<=x/\x<=1000000001)&&af.xX l x []else false)
def af.ZQ:af->Bool | .mk _ v=>v.PL
def af.xX:List af->Int->List bV->Bool
 | [],_,_=>true
 | e::r,x,seen=>vk e.aN&&(e.aN.bO||decide (e.aN.bb<x))&&!(decide (e.aN∈seen))&&e.ZQ&&af.xX r x (seen++[e.aN])
end
theorem VG (e:af):e.ZQ=e.av.PL:=by cases e;simp [af.ZQ]
theorem Lz (x:Int) (s:List bV):af.xX [] x s=true:=by simp [af.xX]
theorem Qb (e:af) (r:List af) (x:Int) (s:List bV):af.xX (e::r) x s=(vk e.aN&&(e.aN.bO||decide (e.aN.bb<x))&&!(decide (e.aN∈s))&&e.av.PL&&af.xX r x (s++[e.aN])):=by
 rw[<-VG];simp [af.xX]
theorem Ng (k n:Int) (s:cx) (x:Int) (l:List af):(ai.mk k n s x l).PL=((decide (k=3)||s==[])&&(decide (k=4)||(decide (x=0)&&l.isEmpty))&&
   (if k=0 then n==0 else if k=1 then(decide (n=0)||n==1)else if k=2 then decide (-1000000000<=n/\n<=1000000000)else if k=3 then(decide (n=0)&&decide ((s.length:Int)<=400))
    else if k=6\/k=7\/k=8 then decide (0<=n/\n<=255)else if k=4 then decide (n=0)&&decide (0<=x/\x<=1000000001)&&af.xX l x []else false)):=by simp [ai.PL]
theorem A0 {κ β:Type} [DecidableEq κ]:∀(l:List (κ×β)) (k:κ) (v:β) (c:κ),mU (lx l k v) c=if c=k then some v else mU l c
 | [],k,v,c=>by
  unfold lx mU;by_cases h:c=k
  ·rw[an h,an h]
  ·rw[mg h,mg h];rfl
 | (a,b)::r,k,v,c=>by
  unfold lx;by_cases hk:k=a
  ·rw[an hk];subst hk;simp only[mU];by_cases h:c=k
   ·rw[an h,an h]
   ·rw[mg h,mg h];rw[mg h]
  ·rw[mg hk];simp only[mU,A0 r k v c];by_cases h:c=a
   ·rw[an h,an h,mg (by rw[h];exactλhe=>hk he.symm)]
   ·rw[mg h,mg h]
theorem VH {κ β:Type} [DecidableEq κ] (l:List (κ×β)) (k:κ) (v:β) (a:κ) (z:β):Ju (lx l k v) a z=if a=k then v else Ju l a z:=by
 unfold Ju;rw[A0];split<;>rfl
def GQ (b:Bool):(Unit) ⊕ ((Unit) ⊕ Bool):=if b=true then .inl ()else .inr (.inr false)
theorem GR {l:List af} {x:Int} {i:Nat} (h:i<l.length):af.xX (l.drop i) x ((l.take i).map (·.aN))=
  (vk l[i].aN&&(l[i].aN.bO||decide (l[i].aN.bb<x))&&!(decide (l[i].aN∈(l.take i).map (·.aN)))&&l[i].av.PL&&af.xX (l.drop (i+1)) x ((l.take (i+1)).map (·.aN))):=by
 rw[agl h,Qb,<-agT h,ahf];rfl
theorem TH {l:List af} {i:Nat} {k:bV} (hi:i<=l.length):k∈(l.take i).map (·.aN)↔∃j,∃h:j<i,(l[j]'ajo).aN=k:=by
 rw[ags];constructor
 ·rintro⟨e,he,rfl⟩;obtain⟨j,hj,rfl⟩:=agr.1 he;rw[aht]at hj;exact⟨j,by omega,by rw[ahT]⟩
 ·rintro⟨j,h,rfl⟩;exact⟨l[j]'ajo,agr.2 ⟨j,by rw[aht];omega,by rw[ahT]⟩,rfl⟩
theorem KY:∀(n:Nat),n<=2000000->∀v:ai,v.wt<=n->V4 v=some v.PL
 | 0,_,v,h=>by have:=qE v;omega
 | n+1,E,v,h=>by
  have hlen:=HY (v:=v);cases v with
  | mk k q s x l=>
   have loop:k=4->wM (.mk k q s x l) 0=some (GQ (af.xX l x [])):=λhk=>by
    have go:∀m i:Nat,i<=l.length->l.length - i=m->wM (.mk k q s x l) (i:Int)=some (GQ (af.xX (l.drop i) x ((l.take i).map (·.aN)))):=by
     intro m;induction m with
     | zero=>
      intro i h1 h2;rw[wM,ai.dh,mg ajo,ahF ajo,Lz];rfl
     | succ m c=>
      intro i h1 h2;have b:i<l.length:=by omega
      have t:=Cu (v:=.mk k q s x l) (e:=l[i]) (afQ b);obtain⟨u,w,o⟩:=ZP (.mk k q s x l) l[i].aN hk (show l.length<=4000000 by simp only[ai.dh]at hlen;omega)
      have d:u=(i:Int)↔l[i].aN∉(l.take i).map (·.aN):=by
       rw[TH ajo];constructor
       ·rintro rfl ⟨j,hj,he⟩;exact TE o (show i<l.length from b) j hj he
       ·intro y;exact o.uniq (show i<l.length from b) rfl (λj hj he=>y ⟨j,hj,he⟩)
      rw[wM,ai.dh,an ajo,ba b,sb,Nb,sb,w,sb,sb,KY n ajo _ ajo,sb,GR b];have z:=c (i+1) ajo ajo;rw[bm (by simp only[ai.dh]at hlen;omega),z];cases A:vk l[i].aN with
      | false=>rfl
      | true=>
       simp only[agu,ahw,ai.jM,d];cases B:l[i].av.PL with
       | false=>
        simp only[ahM,ahN,agN,agG];repeat (first | rfl | split)
       | true=>
        simp only[agu,aho];cases F:l[i].aN.bO with
        | true=>
         simp only[agu,Bool.true_or,ahw];by_cases hm:l[i].aN∈(l.take i).map (·.aN)
         ·rw[mg (λh=>h hm),afU hm];rfl
         ·rw[an hm,afV hm];rfl
        | false=>
         simp only[agN,agG,ahG];by_cases a:l[i].aN.bb<x
         ·rw[mg ajo,afU a];by_cases hm:l[i].aN∈(l.take i).map (·.aN)
          ·rw[mg (λh=>h hm),afU hm];rfl
          ·rw[an hm,afV hm];rfl
         ·rw[an ajo,afV a];rfl
    exact go l.length 0 ajo ajo
   rw[V4,Ng];simp only[ai.lF,ai.oU,ai.oV,ai.jM,ai.dh,pS,sb];by_cases h4:k=4
   ·rw[loop h4];subst h4;by_cases hs:s=[]<;>by_cases f:q=0<;>by_cases a:0<=x/\x<=1000000001<;>cases af.xX l x []<;>simp [hs,f,a,sb,GQ]
   ·by_cases h3:k=3
    ·subst h3;by_cases a:x=0<;>by_cases f:q=0<;>cases l<;>simp [a,f,sb]<;>try rfl
    ·by_cases hs:s=[]
     ·by_cases a:x=0
      ·cases l with
       | cons e r=>simp [h3,h4,hs,a,sb]
       | nil=>
        by_cases h0:k=0
        ·subst h0;simp [hs,a,sb]
        ·by_cases h1:k=1
         ·subst h1;by_cases g:q=0
          ·subst g;simp [hs,a,sb]
          ·by_cases q1:q=1
           ·subst q1;simp [hs,a,sb]
           ·have p:¬(0<=q/\q<=1):=by omega
            have C:decide (0<=q/\q<=1)=false:=afV p;have D:decide (q=0)=false:=afV g;simp [hs,a,sb,g,q1,p];try omega
         ·by_cases h2:k=2
          ·subst h2;simp [hs,a,sb]
          ·by_cases h6:k=6
           ·subst h6;simp [hs,a,sb]
           ·by_cases h7:k=7
            ·subst h7;simp [hs,a,sb]
            ·by_cases h8:k=8
             ·subst h8;simp [hs,a,sb]
             ·simp [h0,h1,h2,h3,h4,h6,h7,h8,hs,a,sb]
      ·simp [h3,h4,hs,a,sb]
     ·simp [h3,h4,hs,sb]
theorem yn:∀(n:Nat),n<=2000000->∀v:ai,v.wt<=n->fL v=some v.PL
 | 0,_,v,h=>by have:=qE v;omega
 | n+1,B,v,h=>by
  have hlen:=HY (v:=v);cases v with
  | mk k q s x l=>
   have loop:dO (.mk k q s x l) [] 0=some (GQ (af.xX l x [])):=by
    have go:∀m i:Nat,i<=l.length->l.length - i=m->∀g:List (bV×Bool),(∀k,Ju g k false=true↔k∈(l.take i).map (·.aN))->dO (.mk k q s x l) g (i:Int)=some (GQ (af.xX (l.drop i) x ((l.take i).map (·.aN)))):=by
     intro m;induction m with
     | zero=>
      intro i h1 h2 g f;rw[dO,ai.dh,mg ajo,ahF ajo,Lz];rfl
     | succ m o=>
      intro i h1 h2 g f;have j:i<l.length:=by omega
      have w:=Cu (v:=.mk k q s x l) (e:=l[i]) (afQ j);rw[dO,ai.dh,an ajo,ba j,sb,SF,sb,yn n ajo _ ajo,sb,GR j]
      have y:=o (i+1) ajo ajo (lx g l[i].aN true) (λk=>by
       rw[VH,<-agT j,ahf,afY,List.map_singleton,ahy,<-f k];by_cases hk:k=l[i].aN
       ·rw[an hk];simp [hk]
       ·rw[mg hk];simp [hk])
      rw[bm (by simp only[ai.dh]at hlen;omega),y];cases z:vk l[i].aN with
      | false=>rfl
      | true=>
       simp only[agu,ahw,ai.jM,f];by_cases hm:l[i].aN∈(l.take i).map (·.aN)
       ·rw[an hm,afU hm];simp only[ahQ,ahM,ahN];rfl
       ·rw[mg hm,afV hm];cases A:l[i].av.PL with
        | false=>
         simp only[ahM,ahN,agN,agG];repeat (first | rfl | split)
        | true=>
         simp only[agu,aho,Bool.not_false];cases C:l[i].aN.bO with
         | true=>simp only[agu,Bool.true_or,ahw]
         | false=>
          simp only[agN,agG,ahG];by_cases d:l[i].aN.bb<x
          ·rw[mg ajo,afU d];rfl
          ·rw[an ajo,afV d];rfl
    exact go l.length 0 ajo ajo [] (λk=>by simp [Ju,mU])
   have p:∀a b c:Int,LC a b c=some (decide (b<=a/\a<=c)):=λa b c=>by
    unfold LC;by_cases h1:b<=a
    ·rw[an ajo];by_cases h2:a<=c
     ·simp [h1,h2]
     ·simp [h2]
    ·rw[mg ajo];simp [h1]
   rw[fL,Ng];simp only[ai.lF,ai.oU,ai.oV,ai.jM,ai.dh,p,sb];rw[loop];by_cases h4:k=4
   ·subst h4;by_cases hs:s=[]<;>by_cases t:q=0<;>by_cases d:0<=x/\x<=1000000001<;>cases af.xX l x []<;>simp [hs,t,d,sb,GQ]
   ·by_cases h3:k=3
    ·subst h3;by_cases d:x=0<;>by_cases t:q=0<;>cases l<;>simp [d,t,sb]<;>try rfl
    ·by_cases hs:s=[]
     ·by_cases d:x=0
      ·cases l with
       | cons e r=>simp [h3,h4,hs,d,sb]
       | nil=>
        by_cases h0:k=0
        ·subst h0;simp [hs,d,sb]
        ·by_cases h1:k=1
         ·subst h1;by_cases u:q=0
          ·subst u;simp [hs,d,sb]
          ·simp [hs,d,sb,u]
         ·by_cases h2:k=2
          ·subst h2;simp [hs,d,sb]
          ·by_cases h6:k=6
           ·subst h6;simp [hs,d,sb]
           ·by_cases h7:k=7
            ·subst h7;simp [hs,d,sb]
            ·by_cases h8:k=8
             ·subst h8;simp [hs,d,sb]
             ·simp [h0,h1,h2,h3,h4,h6,h7,h8,hs,d,sb]
      ·simp [h3,h4,hs,d,sb]
     ·simp [h3,h4,hs,sb]
end Go.Am
